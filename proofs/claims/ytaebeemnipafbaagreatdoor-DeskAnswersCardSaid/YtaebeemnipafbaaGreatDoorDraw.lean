/-
  Proved here: a region that draws its order may be walked in one order, named by the prover: what only reads first, what acts one behind the other. No condition on any program.
-/
import Derived.Test.YtaebeemnipafbaaGreatDoorCalm
import Derived.Tactics
set_option linter.unusedSimpArgs false
set_option linter.unusedVariables false
set_option maxRecDepth 100000
set_option maxHeartbeats 200000000
namespace Go.Proofs.YtaebeemnipafbaaGreatDoor
open Go.RowKit
def Nm (K : Act → World → Prop) : Exit → Act → World → Prop := Exit.then K (fun _ _ _ => False)
section
variable {P : Program} {ops : Array Oper} {Q : Act → World → Prop} {md : Region.Mode}
theorem JR : ¬ LetsOut (Nm Q) := fun ⟨_, _, h⟩ => h
def SameOp (ops : Array Oper) (oi : Oper) (a a' : Act) : Prop :=
 execOp a'.eval oi = execOp a.eval oi ∧ Region.wanted oi (yielded ops a'.tmps) = Region.wanted oi (yielded ops a.tmps)
theorem wpOp_put2 {j : Nat} {oi oj : Oper} {v : Value} (hj : ops[j]? = some oj) (hap : oi.apart ops oj = true)
  (hsi : ∀ cs b, oi.op ≠ .select cs b) (hsj : ∀ cs b, oj.op ≠ .select cs b) {K : Act → World → Prop} {a : Act} {w : World}
  (h : wpOp P ops (Nm Q) j K (a.put oi.dst v) w) :
  wpOp P ops (Nm Q) j (fun a' w' => SameOp ops oi a a' ∧ K (a'.put oi.dst v) w') a w := by
 obtain ⟨h1, h2, h3⟩ := Oper.apart_spec hap
 have keep : ∀ (a : Act) u, SameOp ops oi a (a.put oj.dst u) := fun a u => ⟨execOp_put oi hsi a oj.dst u h3, wanted_put oi a oj.dst u h3⟩
 have keepD : ∀ (a : Act) d u, SameOp ops oi a (({ a with defers := d :: a.defers } : Act).put oj.dst u) := fun a d u => keep { a with defers := d :: a.defers } u
 unfold wpOp at *
 simp only [hj] at *
 rw [wanted_put oj a oi.dst v h1] at h
 split
 ·rename_i hw
  simp only [hw, if_true] at h
  rcases h with h | ⟨_, hlets⟩
  case inr => exact absurd hlets JR
  refine .inl ?_
  unfold Oper.wp at *
  rw [execOp_put oj hsj a oi.dst v h1] at h
  generalize (execOp a.eval oj).run P w = r at *
  cases r with
  | ok n w' =>
   cases n <;> simp only [Oper.upon] at h ⊢
   case value u => exact ⟨keep a u, by rw [← Act.put_comm a v u h2]; exact h⟩
   case skip => exact ⟨keep a _, by rw [← Act.put_comm a v undef h2]; exact h⟩
   case defer d =>
    refine ⟨keepD a d _, ?_⟩
    rw [← Act.put_comm _ v undef h2, ← Act.put_defers]
    exact h
   case enter f args =>
    refine Calls.mono h fun e w'' he => ?_
    cases e with
    | returned u => exact ⟨keep a u, by rw [← Act.put_comm a v u h2]; exact he⟩
    | panicked c => exact (he : False).elim
    | outgrown => exact absurd he JR
   case row row args => exact Rows.mono h fun u w'' he => ⟨keep a u, by rw [← Act.put_comm a v u h2]; exact he⟩
  | halt x w' =>
   cases x <;> simp only [Oper.upon] at h ⊢
   case panic u => exact (h : False).elim
 ·rename_i hw
  simp only [hw] at h
  exact ⟨keep a _, by rw [← Act.put_comm a v undef h2]; exact h⟩
def N5 (P : Program) (md : Region.Mode) (ops : Array Oper) (F : Nat → Bool) (Q : Act → World → Prop) : Nat → Array Bool → Act → World → Prop
 | 0, listed, a, w => Region.ready md ops listed = [] ∧ Q a w
 | fuel + 1, listed, a, w =>
  (Region.ready md ops listed = [] → Q a w) ∧
  ∀ i ∈ Region.ready md ops listed, wpOp P ops (Nm Q) i (fun a' w' => (F i = true → Below w.heap.size w w') ∧ N5 P md ops F Q fuel (listed.setIfInBounds i true) a' w') a w
theorem Pv {F : Nat → Bool} : ∀ (fuel : Nat) (listed : Array Bool) (a : Act) (w : World), N5 P md ops F Q fuel listed a w → wpAny P md ops (Nm Q) fuel listed a w
 | 0, _, _, _, h => ⟨h.1, h.2⟩
 | fuel + 1, _, _, _, h => ⟨fun h0 => h.1 h0, fun i hi => wpOp_mono (fun a' w' h' => Pv fuel _ a' w' h'.2) (h.2 i hi)⟩
def PL (P : Program) (ops : Array Oper) (wb : World) (oi : Oper) (v : Value) (a : Act) : Prop :=
 (Region.wanted oi (yielded ops a.tmps) = true ∧ ∀ W, Below wb.heap.size wb W → (execOp a.eval oi).run P W = .ok (.value v) W) ∨
 (Region.wanted oi (yielded ops a.tmps) = false ∧ v = undef)
theorem PL.same {wb : World} {oi : Oper} {v : Value} {a a' : Act} (h : PL P ops wb oi v a) (hs : SameOp ops oi a a') : PL P ops wb oi v a' := by
 unfold PL at *
 rw [hs.1, hs.2]
 exact h
theorem PL.wpOp {wb w : World} {i : Nat} {oi : Oper} {v : Value} {a : Act} (hi : ops[i]? = some oi) (hb : Below wb.heap.size wb w) (h : PL P ops wb oi v a) {K : Act → World → Prop} {Q' : Exit → Act → World → Prop} (hk : K (a.put oi.dst v) w) : wpOp P ops Q' i K a w := by
 unfold Go.wpOp
 simp only [hi]
 rcases h with ⟨hw, hv⟩ | ⟨hw, rfl⟩
 ·simp only [hw, if_true, Oper.wp, hv w hb, Oper.upon]; exact .inl hk
 ·simp only [hw, Bool.false_eq_true, if_false]; exact hk
theorem wpAnyF_first {F : Nat → Bool} {wb : World} {i : Nat} {oi : Oper} {v : Value} (hi : ops[i]? = some oi) (hsel : ∀ (j : Nat) (o : Oper) cs b, ops[j]? = some o → o.op ≠ .select cs b) :
  ∀ (fuel : Nat) (listed : Array Bool) (a : Act) (w : World), Below wb.heap.size wb w →
   (∀ j oj, ops[j]? = some oj → j ≠ i → listed.getD j true = false → (∀ e ∈ oj.after, Region.binds md e = true → e.on ≠ i) → oi.apart ops oj = true ∧ F j = true) →
   i ∈ Region.ready md ops listed → PL P ops wb oi v a →
   N5 P md ops F Q fuel (listed.setIfInBounds i true) (a.put oi.dst v) w → N5 P md ops F Q (fuel + 1) listed a w := by
 intro fuel
 induction fuel with
 | zero =>
  intro listed a w hbw _ hr hy H
  refine ⟨fun h => (by rw [h] at hr; cases hr), fun j hj => ?_⟩
  by_cases hji : j = i
  ·subst hji; exact hy.wpOp hi hbw ⟨fun _ => Below.refl _ _, H⟩
  ·have := ready_mono hj hji
   rw [H.1] at this
   cases this
 | succ fuel ih =>
  intro listed a w hbw hfree hr hy H
  refine ⟨fun h => (by rw [h] at hr; cases hr), fun j hj => ?_⟩
  by_cases hji : j = i
  ·subst hji; exact hy.wpOp hi hbw ⟨fun _ => Below.refl _ _, H⟩
  ·have h1 := H.2 j (ready_mono hj hji)
   obtain ⟨hjun, oj, hoj, hall⟩ := mem_ready.1 hj
   have hnot : ∀ e ∈ oj.after, Region.binds md e = true → e.on ≠ i := fun e he hb heq => by
    have h1 := hall e he hb
    have h0 := (mem_ready.1 hr).1
    rw [heq] at h1
    rcases Nat.lt_or_ge i listed.size with h' | h'
    ·simp [h'] at h0 h1; rw [h0] at h1; cases h1
    ·simp [Array.getElem?_eq_none h'] at h1
   obtain ⟨hap, hF⟩ := hfree j oj hoj hji hjun hnot
   have h2 := wpOp_put2 hoj hap (fun cs b => hsel i oi cs b hi) (fun cs b => hsel j oj cs b hoj) h1
   have hfree' : ∀ k ok, ops[k]? = some ok → k ≠ i → (listed.setIfInBounds j true).getD k true = false →
     (∀ e ∈ ok.after, Region.binds md e = true → e.on ≠ i) → oi.apart ops ok = true ∧ F k = true := fun k ok hk hki hun hno => by
    refine hfree k ok hk hki ?_ hno
    by_cases hjk : j = k
    ·subst hjk; exact hjun
    ·rw [getD_set_ne true hjk] at hun; exact hun
   refine wpOp_mono (fun a' w' ⟨h3, h4, h5⟩ => ⟨h4, ih (listed.setIfInBounds j true) a' w' (hbw.trans ((h4 hF).mono hbw.size)) hfree' (ready_mono hr (Ne.symm hji)) (hy.same h3) ?_⟩) h2
   rw [Array.setIfInBounds_comm _ _ hji]
   exact h5
def KU (P : Program) (ops : Array Oper) (Q : Act → World → Prop) : List (Nat × Nat) → Act → World → Prop
 | [], a, w => Q a w
 | (i, k) :: rest, a, w => ∃ o, ops[i]? = some o ∧ (k = 0 → Region.wanted o (yielded ops a.tmps) = true → KT P (execOp a.eval o)) ∧
   wpList P ops (Nm fun a' w' => (k = 2 → Below w.heap.size w w') ∧ KU P ops Q rest a' w') [o] a w
def kindF (σ : List (Nat × Nat)) (j : Nat) : Bool := σ.any fun (i, k) => i == j && k != 1
def planB (md : Region.Mode) (ops : Array Oper) (F : Nat → Bool) : List (Nat × Nat) → Array Bool → Bool
 | [], listed => (Region.ready md ops listed).isEmpty
 | (i, k) :: rest, listed =>
  (if k == 0 then
   (Region.ready md ops listed).contains i && (match ops[i]? with
    | none => false
    | some oi => (List.range ops.size).all fun j => j == i || listed.getD j true || match ops[j]? with
     | some oj => oj.after.any (fun e => Region.binds md e && e.on == i) || (oi.apart ops oj && F j)
     | none => true)
  else Region.ready md ops listed == [i] && (k == 1 || k == 2) && (k != 2 || true) && (k == 2 || !F i)) && planB md ops F rest (listed.setIfInBounds i true)
theorem Ke {F : Nat → Bool} (hs : Region.noSelect ops = true) : ∀ (σ : List (Nat × Nat)) (listed : Array Bool) (a : Act) (w : World), planB md ops F σ listed = true → KU P ops Q σ a w → N5 P md ops F Q σ.length listed a w
 | [], listed, a, w, hp, h => ⟨by simpa [planB] using hp, h⟩
 | (i, k) :: rest, listed, a, w, hp, h => by
  obtain ⟨o, ho, hcalm, hl⟩ := h
  unfold planB at hp
  simp only [Bool.and_eq_true] at hp
  obtain ⟨h1, h2⟩ := hp
  unfold wpList at hl
  by_cases hk : k = 0
  ·subst hk
   simp only [beq_self_eq_true, if_true, Bool.and_eq_true, ho] at h1
   obtain ⟨hr, hf⟩ := h1
   have hr' : i ∈ Region.ready md ops listed := by simpa using hr
   have hfree : ∀ j oj, ops[j]? = some oj → j ≠ i → listed.getD j true = false → (∀ e ∈ oj.after, Region.binds md e = true → e.on ≠ i) → o.apart ops oj = true ∧ F j = true := by
    intro j oj hj hne hun hno
    have h3 := List.all_eq_true.1 hf j (List.mem_range.2 (Array.getElem?_eq_some_iff.1 hj).1)
    simp only [hj, Bool.or_eq_true, beq_iff_eq, hne, false_or, hun, Bool.false_eq_true, Bool.and_eq_true] at h3
    rcases h3 with h3 | h3
    ·obtain ⟨e, he, hb⟩ := Array.any_eq_true'.1 h3
     simp only [Bool.and_eq_true, beq_iff_eq] at hb
     exact absurd hb.2 (hno e he hb.1)
    ·exact h3
   by_cases hw : Region.wanted o (yielded ops a.tmps) = true
   ·rw [if_pos hw] at hl
    rcases hl with hl | ⟨_, hlets⟩
    case inr => exact absurd hlets JR
    unfold Oper.wp at hl
    cases hrun : (execOp a.eval o).run P w with
    | ok n w' =>
     obtain ⟨⟨v, rfl⟩, rfl, Ga⟩ := hcalm rfl hw w n w' hrun
     rw [hrun] at hl
     simp only [Oper.upon, wpList] at hl
     exact wpAnyF_first (wb := w') ho (Region.noSelect_spec hs) rest.length listed a w' (Below.refl _ _) hfree hr' (.inl ⟨hw, Ga⟩)
      (Ke hs rest _ _ _ h2 hl.2)
    | halt x w' =>
     rw [hrun] at hl
     cases x <;> simp only [Oper.upon] at hl
     exact (hl : False).elim
   ·rw [if_neg hw] at hl
    exact wpAnyF_first (wb := w) ho (Region.noSelect_spec hs) rest.length listed a w (Below.refl _ _) hfree hr' (.inr ⟨by simpa using hw, rfl⟩)
      (Ke hs rest _ _ _ h2 hl.2)
  ·have hk' : (k == 0) = false := by simpa using hk
   simp only [hk', Bool.false_eq_true, if_false, Bool.and_eq_true] at h1
   obtain ⟨⟨⟨hr, _⟩, _⟩, hF⟩ := h1
   have hr' : Region.ready md ops listed = [i] := by simpa using hr
   refine ⟨fun h0 => absurd h0 (by simp [hr']), fun j hj => ?_⟩
   obtain rfl : j = i := by simpa [hr'] using hj
   have hgr : ∀ (w' : World), (k = 2 → Below w.heap.size w w') → F j = true → Below w.heap.size w w' := fun w' hh hFj => by
    refine hh ?_
    simp only [Bool.or_eq_true, beq_iff_eq, hFj, Bool.not_true, Bool.false_eq_true, or_false] at hF
    exact hF
   unfold Go.wpOp
   simp only [ho]
   split
   ·rename_i hw
    rw [if_pos hw] at hl
    rcases hl with hl | ⟨_, hlets⟩
    case inr => exact absurd hlets JR
    refine .inl ?_
    unfold Oper.wp at *
    generalize (execOp a.eval o).run P w = r at *
    cases r with
    | ok n w' =>
     cases n <;> simp only [Oper.upon] at hl ⊢
     case value u => exact ⟨hgr _ hl.1, Ke hs rest _ _ _ h2 hl.2⟩
     case skip => exact ⟨hgr _ hl.1, Ke hs rest _ _ _ h2 hl.2⟩
     case defer d => exact ⟨hgr _ hl.1, Ke hs rest _ _ _ h2 hl.2⟩
     case enter f args =>
      refine Calls.mono hl fun e w'' he => ?_
      cases e with
      | returned u => exact ⟨hgr _ he.1, Ke hs rest _ _ _ h2 he.2⟩
      | panicked c => exact (he : False).elim
      | outgrown => exact absurd he JR
     case row row args => exact Rows.mono hl fun u w'' he => ⟨hgr _ he.1, Ke hs rest _ _ _ h2 he.2⟩
    | halt x w' =>
     cases x <;> simp only [Oper.upon] at hl ⊢
     exact (hl : False).elim
   ·rename_i hw
    rw [if_neg hw] at hl
    exact ⟨hgr _ hl.1, Ke hs rest _ _ _ h2 hl.2⟩
def planOK (ops : Array Oper) (σ : List (Nat × Nat)) : Bool :=
 Region.noSelect ops && planB .any ops (kindF σ) σ (Array.replicate ops.size false) && σ.length == ops.size
theorem GO {id : Nat} {l : List Oper} {Q : Exit → Act → World → Prop} {a : Act} {w : World} (σ : List (Nat × Nat)) (hm : P.follows .mixedOrders = true) (hp : planOK l.toArray σ = true)
  (h : KU P l.toArray (fun a w => Q .normal a w) σ a w.drew) : (Code.region id l.toArray true).wp P Q a w := by
 simp only [planOK, Bool.and_eq_true, beq_iff_eq] at hp
 obtain ⟨⟨hs, hp⟩, hlen⟩ := hp
 refine Code.wp_mono (Q := Nm fun a w => Q .normal a w) (fun e a w q => ?_) (wp_region_any hm ?_)
 ·cases e <;> first | exact q | exact (q : False).elim
 ·have := Ke hs σ (Array.replicate l.toArray.size false) a w.drew hp h
  rw [hlen] at this
  exact Pv _ _ _ _ this
theorem G5 {a : Act} {w : World} (h : Q a w) : KU P ops Q [] a w := h
theorem GG {i : Nat} {rest : List (Nat × Nat)} {o : Oper} {a : Act} {w : World} (ho : ops[i]? = some o) (hc : calmK a.eval o.op = true)
  (h : wpList P ops (Exit.then (KU P ops Q rest) fun _ _ _ => False) [o] a w) : KU P ops Q ((i, 0) :: rest) a w :=
 ⟨o, ho, fun _ _ => calmV_k hc, by
  have : (fun (a' : Act) (w' : World) => ((0 : Nat) = 2 → Below w.heap.size w w') ∧ KU P ops Q rest a' w') = KU P ops Q rest := by
   funext a' w'; simp
  rw [this]; exact h⟩
theorem idx_qv {i : Nat} {rest : List (Nat × Nat)} {o : Oper} {a : Act} {w : World} (ho : ops[i]? = some o) (hc : KT P (execOp a.eval o))
  (h : wpList P ops (Exit.then (KU P ops Q rest) fun _ _ _ => False) [o] a w) : KU P ops Q ((i, 0) :: rest) a w :=
 ⟨o, ho, fun _ _ => hc, by
  have : (fun (a' : Act) (w' : World) => ((0 : Nat) = 2 → Below w.heap.size w w') ∧ KU P ops Q rest a' w') = KU P ops Q rest := by
   funext a' w'; simp
  rw [this]; exact h⟩
theorem J6 {i : Nat} {rest : List (Nat × Nat)} {o : Oper} {a : Act} {w : World} (ho : ops[i]? = some o)
  (h : wpList P ops (Exit.then (KU P ops Q rest) fun _ _ _ => False) [o] a w) : KU P ops Q ((i, 1) :: rest) a w :=
 ⟨o, ho, fun e => absurd e (by decide), by
  have : (fun (a' : Act) (w' : World) => ((1 : Nat) = 2 → Below w.heap.size w w') ∧ KU P ops Q rest a' w') = KU P ops Q rest := by
   funext a' w'; simp
  rw [this]; exact h⟩
theorem GA {i : Nat} {rest : List (Nat × Nat)} {o : Oper} {a : Act} {w : World} (ho : ops[i]? = some o)
  (h : wpList P ops (Exit.then (fun a' w' => Below w.heap.size w w' ∧ KU P ops Q rest a' w') fun _ _ _ => False) [o] a w) : KU P ops Q ((i, 2) :: rest) a w :=
 ⟨o, ho, fun e => absurd e (by decide), by
  have : (fun (a' : Act) (w' : World) => ((2 : Nat) = 2 → Below w.heap.size w w') ∧ KU P ops Q rest a' w') = fun a' w' => Below w.heap.size w w' ∧ KU P ops Q rest a' w' := by
   funext a' w'; simp
  rw [this]; exact h⟩
def fieldB (P : Program) (s f : Nat) : Bool := match P.underlying s with
 | some (.struct fs) => match fs[f]? with
  | some x => (P.info? x.type).any (fun i => i.size != 0)
  | none => true
 | _ => true
theorem H8 {i : Nat} {rest : List (Nat × Nat)} {o : Oper} {a : Act} {w : World} (ho : ops[i]? = some o) {s : TypeId} {x : Operand} {f : Nat} (hop : o.op = .fieldAddr s x f) (hf : fieldB P s f = true)
  (h : wpList P ops (Exit.then (KU P ops Q rest) fun _ _ _ => False) [o] a w) : KU P ops Q ((i, 0) :: rest) a w := by
 refine idx_qv ho ?_ h
 unfold execOp
 simp only [hop]
 refine KT.of (G2.fieldAt_slot _ _ _ (fun fs y hu hy => ?_))
 simp only [fieldB, hu, hy] at hf
 exact hf
end
end Go.Proofs.YtaebeemnipafbaaGreatDoor
