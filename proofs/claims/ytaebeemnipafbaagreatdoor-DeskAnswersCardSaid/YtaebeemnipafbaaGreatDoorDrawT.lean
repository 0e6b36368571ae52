/-
  Proved here: as Draw, where an operation waits for another one at whatever remove. No condition on any program.
-/
import Derived.Test.YtaebeemnipafbaaGreatDoorDraw
import Derived.Test.YtaebeemnipafbaaGreatDoorSq
set_option linter.unusedSimpArgs false
set_option linter.unusedVariables false
set_option maxRecDepth 100000
set_option maxHeartbeats 200000000
namespace Go.Proofs.YtaebeemnipafbaaGreatDoor
open Go.RowKit
section
variable {P : Program} {ops : Array Oper} {Q : Act → World → Prop} {md : Region.Mode}
def Kh (md : Region.Mode) (ops : Array Oper) (i : Nat) : List Nat :=
 (List.range ops.size).foldl (fun bl j => match ops[j]? with
  | some oj => if oj.after.any (fun e => Region.binds md e && (e.on == i || bl.contains e.on)) then j :: bl else bl
  | none => bl) []
theorem Mg {F : Nat → Bool} {wb : World} {i : Nat} {oi : Oper} {v : Value} {B : List Nat} (hi : ops[i]? = some oi) (hsel : ∀ (j : Nat) (o : Oper) cs b, ops[j]? = some o → o.op ≠ .select cs b)
  (hB : ∀ j oj, ops[j]? = some oj → j ∈ B → ∃ e ∈ oj.after, Region.binds md e = true ∧ (e.on = i ∨ e.on ∈ B)) :
  ∀ (fuel : Nat) (listed : Array Bool) (a : Act) (w : World), Below wb.heap.size wb w → (∀ j ∈ B, listed.getD j true = false) →
   (∀ j oj, ops[j]? = some oj → j ≠ i → listed.getD j true = false → j ∉ B → oi.apart ops oj = true ∧ F j = true) →
   i ∈ Region.ready md ops listed → PL P ops wb oi v a →
   N5 P md ops F Q fuel (listed.setIfInBounds i true) (a.put oi.dst v) w → N5 P md ops F Q (fuel + 1) listed a w := by
 intro fuel
 induction fuel with
 | zero =>
  intro listed a w hbw _ _ hr hy H
  refine ⟨fun h => (by rw [h] at hr; cases hr), fun j hj => ?_⟩
  by_cases hji : j = i
  ·subst hji; exact hy.wpOp hi hbw ⟨fun _ => Below.refl _ _, H⟩
  ·have := ready_mono hj hji
   rw [H.1] at this
   cases this
 | succ fuel ih =>
  intro listed a w hbw hBun hfree hr hy H
  refine ⟨fun h => (by rw [h] at hr; cases hr), fun j hj => ?_⟩
  by_cases hji : j = i
  ·subst hji; exact hy.wpOp hi hbw ⟨fun _ => Below.refl _ _, H⟩
  ·have h1 := H.2 j (ready_mono hj hji)
   obtain ⟨hjun, oj, hoj, hall⟩ := mem_ready.1 hj
   have hoff : ∀ k, k = i ∨ k ∈ B → ∀ e ∈ oj.after, Region.binds md e = true → e.on = k → False := fun k hk e he hb heq => by
    have h1 := hall e he hb
    have h0 : listed.getD k true = false := by
     rcases hk with rfl | hk
     ·have h0 := (mem_ready.1 hr).1
      rcases Nat.lt_or_ge k listed.size with h' | h'
      ·simpa [h'] using h0
      ·simp [Array.getElem?_eq_none h'] at h0
     ·exact hBun k hk
    rw [heq] at h1
    rcases Nat.lt_or_ge k listed.size with h' | h'
    ·simp [h'] at h0 h1; rw [h0] at h1; cases h1
    ·simp [Array.getElem?_eq_none h'] at h1
   have hnot : j ∉ B := fun hjB => by
    obtain ⟨e, he, hb, h3⟩ := hB j oj hoj hjB
    exact hoff e.on h3 e he hb rfl
   obtain ⟨hap, hF⟩ := hfree j oj hoj hji hjun hnot
   have h2 := wpOp_put2 hoj hap (fun cs b => hsel i oi cs b hi) (fun cs b => hsel j oj cs b hoj) h1
   have hfree' : ∀ k ok, ops[k]? = some ok → k ≠ i → (listed.setIfInBounds j true).getD k true = false →
     k ∉ B → oi.apart ops ok = true ∧ F k = true := fun k ok hk hki hun hno => by
    refine hfree k ok hk hki ?_ hno
    by_cases hjk : j = k
    ·subst hjk; exact hjun
    ·rw [getD_set_ne true hjk] at hun; exact hun
   have hBun' : ∀ k ∈ B, (listed.setIfInBounds j true).getD k true = false := fun k hk => by
    have hjk : j ≠ k := fun e => hnot (e ▸ hk)
    rw [getD_set_ne true hjk]
    exact hBun k hk
   refine wpOp_mono (fun a' w' ⟨h3, h4, h5⟩ => ⟨h4, ih (listed.setIfInBounds j true) a' w' (hbw.trans ((h4 hF).mono hbw.size)) hBun' hfree' (ready_mono hr (Ne.symm hji)) (hy.same h3) ?_⟩) h2
   rw [Array.setIfInBounds_comm _ _ hji]
   exact h5
def planBT (md : Region.Mode) (ops : Array Oper) (F : Nat → Bool) : List (Nat × Nat) → Array Bool → Bool
 | [], listed => (Region.ready md ops listed).isEmpty
 | (i, k) :: rest, listed =>
  (if k == 0 then
   (Region.ready md ops listed).contains i && (match ops[i]? with
    | none => false
    | some oi => ((Kh md ops i).all fun j => !listed.getD j true && match ops[j]? with
      | some oj => oj.after.any (fun e => Region.binds md e && (e.on == i || (Kh md ops i).contains e.on))
      | none => true) && (List.range ops.size).all fun j => j == i || listed.getD j true || match ops[j]? with
     | some oj => (Kh md ops i).contains j || (oi.apart ops oj && F j)
     | none => true)
  else Region.ready md ops listed == [i] && (k == 1 || k == 2) && (k != 2 || true) && (k == 2 || !F i)) && planBT md ops F rest (listed.setIfInBounds i true)
theorem J2 {F : Nat → Bool} (hs : Region.noSelect ops = true) : ∀ (σ : List (Nat × Nat)) (listed : Array Bool) (a : Act) (w : World), planBT md ops F σ listed = true → KU P ops Q σ a w → N5 P md ops F Q σ.length listed a w
 | [], listed, a, w, hp, h => ⟨by simpa [planBT] using hp, h⟩
 | (i, k) :: rest, listed, a, w, hp, h => by
  obtain ⟨o, ho, hcalm, hl⟩ := h
  unfold planBT at hp
  simp only [Bool.and_eq_true] at hp
  obtain ⟨h1, h2⟩ := hp
  unfold wpList at hl
  by_cases hk : k = 0
  ·subst hk
   simp only [beq_self_eq_true, if_true, Bool.and_eq_true, ho] at h1
   obtain ⟨hr, hwt, hf⟩ := h1
   have hr' : i ∈ Region.ready md ops listed := by simpa using hr
   have hw1 : ∀ j ∈ Kh md ops i, listed.getD j true = false := fun j hj => by
    have h3 := List.all_eq_true.1 hwt j hj
    simp only [Bool.and_eq_true, Bool.not_eq_true'] at h3
    exact h3.1
   have hw2 : ∀ j oj, ops[j]? = some oj → j ∈ Kh md ops i → ∃ e ∈ oj.after, Region.binds md e = true ∧ (e.on = i ∨ e.on ∈ Kh md ops i) := fun j oj hoj hj => by
    have h3 := List.all_eq_true.1 hwt j hj
    simp only [Bool.and_eq_true, hoj] at h3
    obtain ⟨e, he, hb⟩ := Array.any_eq_true'.1 h3.2
    simp only [Bool.and_eq_true, Bool.or_eq_true, beq_iff_eq, List.contains_iff_mem] at hb
    exact ⟨e, he, hb.1, hb.2⟩
   have hfree : ∀ j oj, ops[j]? = some oj → j ≠ i → listed.getD j true = false → j ∉ Kh md ops i → o.apart ops oj = true ∧ F j = true := by
    intro j oj hj hne hun hno
    have h3 := List.all_eq_true.1 hf j (List.mem_range.2 (Array.getElem?_eq_some_iff.1 hj).1)
    simp only [hj, Bool.or_eq_true, beq_iff_eq, hne, false_or, hun, Bool.false_eq_true, Bool.and_eq_true, List.contains_iff_mem] at h3
    rcases h3 with h3 | h3
    ·exact absurd h3 hno
    ·exact h3
   by_cases hw : Region.wanted o (yielded ops a.tmps) = true
   ·rw [if_pos hw] at hl
    rcases hl with hl | ⟨_, hlets⟩
    case inr => exact absurd hlets JR
    unfold Oper.wp at hl
    cases hrun : (execOp a.eval o).run P w with
    | ok n w' =>
     obtain ⟨⟨v, rfl⟩, rfl, Ga⟩ := hcalm rfl hw w n w' hrun
     rw [hrun] at hl
     simp only [Oper.upon, wpList] at hl
     exact Mg (wb := w') ho (Region.noSelect_spec hs) hw2 rest.length listed a w' (Below.refl _ _) hw1 hfree hr' (.inl ⟨hw, Ga⟩)
      (J2 hs rest _ _ _ h2 hl.2)
    | halt x w' =>
     rw [hrun] at hl
     cases x <;> simp only [Oper.upon] at hl
     exact (hl : False).elim
   ·rw [if_neg hw] at hl
    exact Mg (wb := w) ho (Region.noSelect_spec hs) hw2 rest.length listed a w (Below.refl _ _) hw1 hfree hr' (.inr ⟨by simpa using hw, rfl⟩)
      (J2 hs rest _ _ _ h2 hl.2)
  ·have hk' : (k == 0) = false := by simpa using hk
   simp only [hk', Bool.false_eq_true, if_false, Bool.and_eq_true] at h1
   obtain ⟨⟨⟨hr, _⟩, _⟩, hF⟩ := h1
   have hr' : Region.ready md ops listed = [i] := by simpa using hr
   refine ⟨fun h0 => absurd h0 (by simp [hr']), fun j hj => ?_⟩
   obtain rfl : j = i := by simpa [hr'] using hj
   have hgr : ∀ (w' : World), (k = 2 → Below w.heap.size w w') → F j = true → Below w.heap.size w w' := fun w' hh hFj => by
    refine hh ?_
    simp only [Bool.or_eq_true, beq_iff_eq, hFj, Bool.not_true, Bool.false_eq_true, or_false] at hF
    exact hF
   unfold Go.wpOp
   simp only [ho]
   split
   ·rename_i hw
    rw [if_pos hw] at hl
    rcases hl with hl | ⟨_, hlets⟩
    case inr => exact absurd hlets JR
    refine .inl ?_
    unfold Oper.wp at *
    generalize (execOp a.eval o).run P w = r at *
    cases r with
    | ok n w' =>
     cases n <;> simp only [Oper.upon] at hl ⊢
     case value u => exact ⟨hgr _ hl.1, J2 hs rest _ _ _ h2 hl.2⟩
     case skip => exact ⟨hgr _ hl.1, J2 hs rest _ _ _ h2 hl.2⟩
     case defer d => exact ⟨hgr _ hl.1, J2 hs rest _ _ _ h2 hl.2⟩
     case enter f args =>
      refine Calls.mono hl fun e w'' he => ?_
      cases e with
      | returned u => exact ⟨hgr _ he.1, J2 hs rest _ _ _ h2 he.2⟩
      | panicked c => exact (he : False).elim
      | outgrown => exact absurd he JR
     case row row args => exact Rows.mono hl fun u w'' he => ⟨hgr _ he.1, J2 hs rest _ _ _ h2 he.2⟩
    | halt x w' =>
     cases x <;> simp only [Oper.upon] at hl ⊢
     exact (hl : False).elim
   ·rename_i hw
    rw [if_neg hw] at hl
    exact ⟨hgr _ hl.1, J2 hs rest _ _ _ h2 hl.2⟩
def planOKT (ops : Array Oper) (σ : List (Nat × Nat)) : Bool :=
 Region.noSelect ops && planBT .any ops (kindF σ) σ (Array.replicate ops.size false) && σ.length == ops.size
theorem J3 {id : Nat} {l : List Oper} {Q : Exit → Act → World → Prop} {a : Act} {w : World} (σ : List (Nat × Nat)) (hm : P.follows .mixedOrders = true) (hp : planOKT l.toArray σ = true)
  (h : KU P l.toArray (fun a w => Q .normal a w) σ a w.drew) : (Code.region id l.toArray true).wp P Q a w := by
 simp only [planOKT, Bool.and_eq_true, beq_iff_eq] at hp
 obtain ⟨⟨hs, hp⟩, hlen⟩ := hp
 refine Code.wp_mono (Q := Nm fun a w => Q .normal a w) (fun e a w q => ?_) (wp_region_any hm ?_)
 ·cases e <;> first | exact q | exact (q : False).elim
 ·have := J2 hs σ (Array.replicate l.toArray.size false) a w.drew hp h
  rw [hlen] at this
  exact Pv _ _ _ _ this
end
end Go.Proofs.YtaebeemnipafbaaGreatDoor
