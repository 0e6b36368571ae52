/-
  Proved here: as DrawT, where two operations that act are ready at once: each order is walked. No condition on any program.
-/
import Derived.Test.YtaebeemnipafbaaGreatDoorDrawT
set_option linter.unusedSimpArgs false
set_option linter.unusedVariables false
namespace Go.Proofs.YtaebeemnipafbaaGreatDoor
open Go.RowKit

section
variable {P : Program} {ops : Array Oper} {Q : Act → World → Prop} {md : Region.Mode}

/-- an operation that yields the same in every world, and leaves it -/
def PureV (P : Program) (s : Sem Next) : Prop := ∀ w n w', s.run P w = .ok n w' → (∃ v, n = .value v) ∧ w' = w ∧ ∀ W, s.run P W = .ok n W
theorem PureV.pure (v : Value) : PureV P (Pure.pure (.value v)) := fun w n w' hr => by
  simp only [Sem.run_pure, Result.ok.injEq] at hr
  obtain ⟨rfl, rfl⟩ := hr
  exact ⟨⟨v, rfl⟩, rfl, fun W => by simp⟩
def pureK : Op → Bool
  | .move _ | .assign _ | .pick .. | .extract .. => true
  | _ => false
theorem pureV_k {ρ : Operand → Value} {o : Oper} (h : pureK o.op = true) : PureV P (execOp ρ o) := by
  obtain ⟨dst, op, type, pos, after, guard⟩ := o
  cases op <;> simp only [pureK] at h <;> simp only [execOp] <;> (try (cases h; done))
  case move x => exact PureV.pure _
  case assign x => exact PureV.pure _
  case pick c a b =>
    intro w n w' hr
    cases hc : ρ c <;> simp [hc, asBool, stuck, Sem.run] at hr
    obtain ⟨rfl, rfl⟩ := hr
    exact ⟨⟨_, rfl⟩, rfl, fun W => by simp [asBool]⟩
  case extract x i =>
    intro w n w' hr
    cases hc : ρ x <;> simp [hc, Instr.extract, stuck, Sem.run] at hr
    rename_i cs
    cases hi : cs[i]? <;> simp [hi] at hr
    obtain ⟨rfl, rfl⟩ := hr
    exact ⟨⟨_, rfl⟩, rfl, fun W => by simp [Instr.extract, hi]⟩
/-- oi yields v in whatever world -/
def YieldsP (P : Program) (ops : Array Oper) (oi : Oper) (v : Value) (a : Act) : Prop :=
  (Region.wanted oi (yielded ops a.tmps) = true ∧ ∀ W, (execOp a.eval oi).run P W = .ok (.value v) W) ∨
  (Region.wanted oi (yielded ops a.tmps) = false ∧ v = undef)
theorem YieldsP.same {oi : Oper} {v : Value} {a a' : Act} (h : YieldsP P ops oi v a) (hs : SameOp ops oi a a') : YieldsP P ops oi v a' := by
  unfold YieldsP at *
  rw [hs.1, hs.2]
  exact h
theorem YieldsP.wpOp {w : World} {i : Nat} {oi : Oper} {v : Value} {a : Act} (hi : ops[i]? = some oi) (h : YieldsP P ops oi v a) {K : Act → World → Prop} {Q' : Exit → Act → World → Prop} (hk : K (a.put oi.dst v) w) : wpOp P ops Q' i K a w := by
  unfold Go.wpOp
  simp only [hi]
  rcases h with ⟨hw, hv⟩ | ⟨hw, rfl⟩
  · simp only [hw, if_true, Oper.wp, hv w, Oper.upon]; exact .inl hk
  · simp only [hw, Bool.false_eq_true, if_false]; exact hk
theorem wpAnyF_firstP {F : Nat → Bool} {i : Nat} {oi : Oper} {v : Value} {B : List Nat} (hi : ops[i]? = some oi) (hsel : ∀ (j : Nat) (o : Oper) cs b, ops[j]? = some o → o.op ≠ .select cs b)
    (hB : ∀ j oj, ops[j]? = some oj → j ∈ B → ∃ e ∈ oj.after, Region.binds md e = true ∧ (e.on = i ∨ e.on ∈ B)) :
    ∀ (fuel : Nat) (listed : Array Bool) (a : Act) (w : World), (∀ j ∈ B, listed.getD j true = false) →
      (∀ j oj, ops[j]? = some oj → j ≠ i → listed.getD j true = false → j ∉ B → oi.apart ops oj = true) →
      i ∈ Region.ready md ops listed → YieldsP P ops oi v a →
      wpAnyF P md ops F Q fuel (listed.setIfInBounds i true) (a.put oi.dst v) w → wpAnyF P md ops F Q (fuel + 1) listed a w := by
  intro fuel
  induction fuel with
  | zero =>
    intro listed a w _ _ hr hy H
    refine ⟨fun h => (by rw [h] at hr; cases hr), fun j hj => ?_⟩
    by_cases hji : j = i
    · subst hji; exact hy.wpOp hi ⟨fun _ => Below.refl _ _, H⟩
    · have := ready_mono hj hji
      rw [H.1] at this
      cases this
  | succ fuel ih =>
    intro listed a w hBun hfree hr hy H
    refine ⟨fun h => (by rw [h] at hr; cases hr), fun j hj => ?_⟩
    by_cases hji : j = i
    · subst hji; exact hy.wpOp hi ⟨fun _ => Below.refl _ _, H⟩
    · have h1 := H.2 j (ready_mono hj hji)
      obtain ⟨hjun, oj, hoj, hall⟩ := mem_ready.1 hj
      have hoff : ∀ k, k = i ∨ k ∈ B → ∀ e ∈ oj.after, Region.binds md e = true → e.on = k → False := fun k hk e he hb heq => by
        have h1 := hall e he hb
        have h0 : listed.getD k true = false := by
          rcases hk with rfl | hk
          · have h0 := (mem_ready.1 hr).1
            rcases Nat.lt_or_ge k listed.size with h' | h'
            · simpa [h'] using h0
            · simp [Array.getElem?_eq_none h'] at h0
          · exact hBun k hk
        rw [heq] at h1
        rcases Nat.lt_or_ge k listed.size with h' | h'
        · simp [h'] at h0 h1; rw [h0] at h1; cases h1
        · simp [Array.getElem?_eq_none h'] at h1
      have hnot : j ∉ B := fun hjB => by
        obtain ⟨e, he, hb, h3⟩ := hB j oj hoj hjB
        exact hoff e.on h3 e he hb rfl
      have hap := hfree j oj hoj hji hjun hnot
      have h2 := wpOp_put2 hoj hap (fun cs b => hsel i oi cs b hi) (fun cs b => hsel j oj cs b hoj) h1
      have hfree' : ∀ k ok, ops[k]? = some ok → k ≠ i → (listed.setIfInBounds j true).getD k true = false →
          k ∉ B → oi.apart ops ok = true := fun k ok hk hki hun hno => by
        refine hfree k ok hk hki ?_ hno
        by_cases hjk : j = k
        · subst hjk; exact hjun
        · rw [getD_set_ne true hjk] at hun; exact hun
      have hBun' : ∀ k ∈ B, (listed.setIfInBounds j true).getD k true = false := fun k hk => by
        have hjk : j ≠ k := fun e => hnot (e ▸ hk)
        rw [getD_set_ne true hjk]
        exact hBun k hk
      refine wpOp_mono (fun a' w' ⟨h3, h4, h5⟩ => ⟨h4, ih (listed.setIfInBounds j true) a' w' hBun' hfree' (ready_mono hr (Ne.symm hji)) (hy.same h3) ?_⟩) h2
      rw [Array.setIfInBounds_comm _ _ hji]
      exact h5

/-- a plan: who is walked next, and how; where two that act are ready, both -/
inductive Pn where
  | nil
  | one (i k : Nat) (r : Pn)
  | two (i : Nat) (r : Pn) (j : Nat) (s : Pn)
def Pn.len : Pn → Nat
  | .nil => 0
  | .one _ _ r => r.len + 1
  | .two _ r _ _ => r.len + 1
/-- who leaves what stood as it was -/
def Pn.f : Pn → Nat → Bool
  | .nil, _ => false
  | .one i k r, x => (i == x && k != 1) || r.f x
  | .two i r j s, x => i == x || j == x || r.f x || s.f x
/-- the walk by a plan -/
def wpPn (P : Program) (ops : Array Oper) (Q : Act → World → Prop) : Pn → Act → World → Prop
  | .nil, a, w => Q a w
  | .one i k r, a, w => ∃ o, ops[i]? = some o ∧ (k = 0 → CalmV P (execOp a.eval o)) ∧ (k = 3 → PureV P (execOp a.eval o)) ∧
      wpList P ops (onlyN fun a' w' => (k = 2 → Below w.heap.size w w') ∧ wpPn P ops Q r a' w') [o] a w
  | .two i r j s, a, w => (∃ o, ops[i]? = some o ∧ wpList P ops (onlyN fun a' w' => Below w.heap.size w w' ∧ wpPn P ops Q r a' w') [o] a w) ∧
      (∃ o, ops[j]? = some o ∧ wpList P ops (onlyN fun a' w' => Below w.heap.size w w' ∧ wpPn P ops Q s a' w') [o] a w)
def planP (md : Region.Mode) (ops : Array Oper) (F : Nat → Bool) : Pn → Array Bool → Bool
  | .nil, listed => (Region.ready md ops listed).isEmpty
  | .one i k r, listed =>
    (if k == 0 then
      (Region.ready md ops listed).contains i && (match ops[i]? with
        | none => false
        | some oi => ((waits md ops i).all fun j => !listed.getD j true && match ops[j]? with
            | some oj => oj.after.any (fun e => Region.binds md e && (e.on == i || (waits md ops i).contains e.on))
            | none => true) && (List.range ops.size).all fun j => j == i || listed.getD j true || match ops[j]? with
          | some oj => (waits md ops i).contains j || (oi.apart ops oj && F j)
          | none => true)
    else if k == 3 then
      (Region.ready md ops listed).contains i && (match ops[i]? with
        | none => false
        | some oi => ((waits md ops i).all fun j => !listed.getD j true && match ops[j]? with
            | some oj => oj.after.any (fun e => Region.binds md e && (e.on == i || (waits md ops i).contains e.on))
            | none => true) && (List.range ops.size).all fun j => j == i || listed.getD j true || match ops[j]? with
          | some oj => (waits md ops i).contains j || oi.apart ops oj
          | none => true)
    else Region.ready md ops listed == [i] && (k == 1 || k == 2) && (k == 2 || !F i)) && planP md ops F r (listed.setIfInBounds i true)
  | .two i r j s, listed => Region.ready md ops listed == [i, j] && r.len == s.len && planP md ops F r (listed.setIfInBounds i true) && planP md ops F s (listed.setIfInBounds j true)

theorem wpOp_of_list {K : Act → World → Prop} {i : Nat} {o : Oper} {a : Act} {w : World} (ho : ops[i]? = some o) (hl : wpList P ops (onlyN K) [o] a w) : wpOp P ops (onlyN Q) i K a w := by
  unfold wpList at hl
  unfold Go.wpOp
  simp only [ho]
  split
  · rename_i hw
    rw [if_pos hw] at hl
    rcases hl with hl | ⟨_, hlets⟩
    case inr => exact absurd hlets onlyN_out
    refine .inl ?_
    unfold Oper.wp at *
    generalize (execOp a.eval o).run P w = r at *
    cases r with
    | ok n w' =>
      cases n <;> simp only [Oper.upon] at hl ⊢
      case value u => exact hl
      case skip => exact hl
      case defer d => exact hl
      case enter f args =>
        refine Calls.mono hl fun e w'' he => ?_
        cases e with
        | returned u => exact he
        | panicked c => exact (he : False).elim
        | outgrown => exact absurd he onlyN_out
      case row row args => exact Rows.mono hl fun u w'' he => he
    | halt x w' =>
      cases x <;> simp only [Oper.upon] at hl ⊢
      exact (hl : False).elim
  · rename_i hw
    rw [if_neg hw] at hl
    exact hl

theorem wpAnyF_of_pn {F : Nat → Bool} (hs : Region.noSelect ops = true) : ∀ (p : Pn) (listed : Array Bool) (a : Act) (w : World), planP md ops F p listed = true → wpPn P ops Q p a w → wpAnyF P md ops F Q p.len listed a w
  | .nil, listed, a, w, hp, h => ⟨by simpa [planP] using hp, h⟩
  | .two i r j s, listed, a, w, hp, h => by
    obtain ⟨⟨oi, hoi, hli⟩, oj, hoj, hlj⟩ := h
    simp only [planP, Bool.and_eq_true, beq_iff_eq] at hp
    obtain ⟨⟨⟨hr, hlen⟩, h1⟩, h2⟩ := hp
    refine ⟨fun h0 => absurd h0 (by simp [hr]), fun x hx => ?_⟩
    rw [hr] at hx
    rcases List.mem_cons.1 hx with rfl | hx
    · exact wpOp_mono (fun a' w' hh => ⟨fun _ => hh.1, wpAnyF_of_pn hs r _ _ _ h1 hh.2⟩) (wpOp_of_list hoi hli)
    · obtain rfl : x = j := by simpa using hx
      refine wpOp_mono (fun a' w' hh => ⟨fun _ => hh.1, ?_⟩) (wpOp_of_list hoj hlj)
      have := wpAnyF_of_pn hs s _ _ _ h2 hh.2
      rw [← hlen] at this
      exact this
  | .one i k r, listed, a, w, hp, h => by
    obtain ⟨o, ho, hcalm, hpure, hl⟩ := h
    unfold planP at hp
    simp only [Bool.and_eq_true] at hp
    obtain ⟨h1, h2⟩ := hp
    unfold wpList at hl
    by_cases hk3 : k = 3
    · subst hk3
      have hk' : ((3 : Nat) == 0) = false := rfl
      simp only [hk', Bool.false_eq_true, if_false, beq_self_eq_true, if_true, Bool.and_eq_true, ho] at h1
      obtain ⟨hr, hwt, hf⟩ := h1
      have hr' : i ∈ Region.ready md ops listed := by simpa using hr
      have hw1 : ∀ j ∈ waits md ops i, listed.getD j true = false := fun j hj => by
        have h3 := List.all_eq_true.1 hwt j hj
        simp only [Bool.and_eq_true, Bool.not_eq_true'] at h3
        exact h3.1
      have hw2 : ∀ j oj, ops[j]? = some oj → j ∈ waits md ops i → ∃ e ∈ oj.after, Region.binds md e = true ∧ (e.on = i ∨ e.on ∈ waits md ops i) := fun j oj hoj hj => by
        have h3 := List.all_eq_true.1 hwt j hj
        simp only [Bool.and_eq_true, hoj] at h3
        obtain ⟨e, he, hb⟩ := Array.any_eq_true'.1 h3.2
        simp only [Bool.and_eq_true, Bool.or_eq_true, beq_iff_eq, List.contains_iff_mem] at hb
        exact ⟨e, he, hb.1, hb.2⟩
      have hfree : ∀ j oj, ops[j]? = some oj → j ≠ i → listed.getD j true = false → j ∉ waits md ops i → o.apart ops oj = true := by
        intro j oj hj hne hun hno
        have h3 := List.all_eq_true.1 hf j (List.mem_range.2 (Array.getElem?_eq_some_iff.1 hj).1)
        simp only [hj, Bool.or_eq_true, beq_iff_eq, hne, false_or, hun, Bool.false_eq_true, List.contains_iff_mem] at h3
        rcases h3 with h3 | h3
        · exact absurd h3 hno
        · exact h3
      by_cases hw : Region.wanted o (yielded ops a.tmps) = true
      · rw [if_pos hw] at hl
        rcases hl with hl | ⟨_, hlets⟩
        case inr => exact absurd hlets onlyN_out
        unfold Oper.wp at hl
        cases hrun : (execOp a.eval o).run P w with
        | ok n w' =>
          obtain ⟨⟨v, rfl⟩, rfl, hst⟩ := hpure rfl w n w' hrun
          rw [hrun] at hl
          simp only [Oper.upon, wpList] at hl
          exact wpAnyF_firstP ho (Region.noSelect_spec hs) hw2 r.len listed a w' hw1 hfree hr' (.inl ⟨hw, hst⟩)
            (wpAnyF_of_pn hs r _ _ _ h2 hl.2)
        | halt x w' =>
          rw [hrun] at hl
          cases x <;> simp only [Oper.upon] at hl
          exact (hl : False).elim
      · rw [if_neg hw] at hl
        exact wpAnyF_firstP ho (Region.noSelect_spec hs) hw2 r.len listed a w hw1 hfree hr' (.inr ⟨by simpa using hw, rfl⟩)
            (wpAnyF_of_pn hs r _ _ _ h2 hl.2)
    by_cases hk : k = 0
    · subst hk
      simp only [beq_self_eq_true, if_true, Bool.and_eq_true, ho] at h1
      obtain ⟨hr, hwt, hf⟩ := h1
      have hr' : i ∈ Region.ready md ops listed := by simpa using hr
      have hw1 : ∀ j ∈ waits md ops i, listed.getD j true = false := fun j hj => by
        have h3 := List.all_eq_true.1 hwt j hj
        simp only [Bool.and_eq_true, Bool.not_eq_true'] at h3
        exact h3.1
      have hw2 : ∀ j oj, ops[j]? = some oj → j ∈ waits md ops i → ∃ e ∈ oj.after, Region.binds md e = true ∧ (e.on = i ∨ e.on ∈ waits md ops i) := fun j oj hoj hj => by
        have h3 := List.all_eq_true.1 hwt j hj
        simp only [Bool.and_eq_true, hoj] at h3
        obtain ⟨e, he, hb⟩ := Array.any_eq_true'.1 h3.2
        simp only [Bool.and_eq_true, Bool.or_eq_true, beq_iff_eq, List.contains_iff_mem] at hb
        exact ⟨e, he, hb.1, hb.2⟩
      have hfree : ∀ j oj, ops[j]? = some oj → j ≠ i → listed.getD j true = false → j ∉ waits md ops i → o.apart ops oj = true ∧ F j = true := by
        intro j oj hj hne hun hno
        have h3 := List.all_eq_true.1 hf j (List.mem_range.2 (Array.getElem?_eq_some_iff.1 hj).1)
        simp only [hj, Bool.or_eq_true, beq_iff_eq, hne, false_or, hun, Bool.false_eq_true, Bool.and_eq_true, List.contains_iff_mem] at h3
        rcases h3 with h3 | h3
        · exact absurd h3 hno
        · exact h3
      by_cases hw : Region.wanted o (yielded ops a.tmps) = true
      · rw [if_pos hw] at hl
        rcases hl with hl | ⟨_, hlets⟩
        case inr => exact absurd hlets onlyN_out
        unfold Oper.wp at hl
        cases hrun : (execOp a.eval o).run P w with
        | ok n w' =>
          obtain ⟨⟨v, rfl⟩, rfl, hst⟩ := hcalm rfl w n w' hrun
          rw [hrun] at hl
          simp only [Oper.upon, wpList] at hl
          exact wpAnyF_firstT (wb := w') ho (Region.noSelect_spec hs) hw2 r.len listed a w' (Below.refl _ _) hw1 hfree hr' (.inl ⟨hw, hst⟩)
            (wpAnyF_of_pn hs r _ _ _ h2 hl.2)
        | halt x w' =>
          rw [hrun] at hl
          cases x <;> simp only [Oper.upon] at hl
          exact (hl : False).elim
      · rw [if_neg hw] at hl
        exact wpAnyF_firstT (wb := w) ho (Region.noSelect_spec hs) hw2 r.len listed a w (Below.refl _ _) hw1 hfree hr' (.inr ⟨by simpa using hw, rfl⟩)
            (wpAnyF_of_pn hs r _ _ _ h2 hl.2)
    · have hk' : (k == 0) = false := by simpa using hk
      have hk3' : (k == 3) = false := by simpa using hk3
      simp only [hk', hk3', Bool.false_eq_true, if_false, Bool.and_eq_true] at h1
      obtain ⟨⟨hr, _⟩, hF⟩ := h1
      have hr' : Region.ready md ops listed = [i] := by simpa using hr
      refine ⟨fun h0 => absurd h0 (by simp [hr']), fun j hj => ?_⟩
      obtain rfl : j = i := by simpa [hr'] using hj
      have hgr : ∀ (w' : World), (k = 2 → Below w.heap.size w w') → F j = true → Below w.heap.size w w' := fun w' hh hFj => by
        refine hh ?_
        simp only [Bool.or_eq_true, beq_iff_eq, hFj, Bool.not_true, Bool.false_eq_true, or_false] at hF
        exact hF
      unfold Go.wpOp
      simp only [ho]
      split
      · rename_i hw
        rw [if_pos hw] at hl
        rcases hl with hl | ⟨_, hlets⟩
        case inr => exact absurd hlets onlyN_out
        refine .inl ?_
        unfold Oper.wp at *
        generalize (execOp a.eval o).run P w = rr at *
        cases rr with
        | ok n w' =>
          cases n <;> simp only [Oper.upon] at hl ⊢
          case value u => exact ⟨hgr _ hl.1, wpAnyF_of_pn hs r _ _ _ h2 hl.2⟩
          case skip => exact ⟨hgr _ hl.1, wpAnyF_of_pn hs r _ _ _ h2 hl.2⟩
          case defer d => exact ⟨hgr _ hl.1, wpAnyF_of_pn hs r _ _ _ h2 hl.2⟩
          case enter f args =>
            refine Calls.mono hl fun e w'' he => ?_
            cases e with
            | returned u => exact ⟨hgr _ he.1, wpAnyF_of_pn hs r _ _ _ h2 he.2⟩
            | panicked c => exact (he : False).elim
            | outgrown => exact absurd he onlyN_out
          case row row args => exact Rows.mono hl fun u w'' he => ⟨hgr _ he.1, wpAnyF_of_pn hs r _ _ _ h2 he.2⟩
        | halt x w' =>
          cases x <;> simp only [Oper.upon] at hl ⊢
          exact (hl : False).elim
      · rename_i hw
        rw [if_neg hw] at hl
        exact ⟨hgr _ hl.1, wpAnyF_of_pn hs r _ _ _ h2 hl.2⟩

/-- the whole plan, as one closed fact -/
def planPOK (ops : Array Oper) (p : Pn) : Bool :=
  Region.noSelect ops && planP .any ops p.f p (Array.replicate ops.size false) && p.len == ops.size

theorem wp_region_pn {id : Nat} {l : List Oper} {Q : Exit → Act → World → Prop} {a : Act} {w : World} (p : Pn) (hm : P.follows .mixedOrders = true) (hp : planPOK l.toArray p = true)
    (h : wpPn P l.toArray (fun a w => Q .normal a w) p a w.drew) : (Code.region id l.toArray true).wp P Q a w := by
  simp only [planPOK, Bool.and_eq_true, beq_iff_eq] at hp
  obtain ⟨⟨hs, hp⟩, hlen⟩ := hp
  refine Code.wp_mono (Q := onlyN fun a w => Q .normal a w) (fun e a w q => ?_) (wp_region_any hm ?_)
  · cases e <;> first | exact q | exact (q : False).elim
  · have := wpAnyF_of_pn hs p (Array.replicate l.toArray.size false) a w.drew hp h
    rw [hlen] at this
    exact wpAny_of_F _ _ _ _ this

/-! ### its steps -/
theorem pn_nil {a : Act} {w : World} (h : Q a w) : wpPn P ops Q .nil a w := h
theorem pn_q {i : Nat} {r : Pn} {o : Oper} {a : Act} {w : World} (ho : ops[i]? = some o) (hc : calmK a.eval o.op = true)
    (h : wpList P ops (Exit.then (wpPn P ops Q r) fun _ _ _ => False) [o] a w) : wpPn P ops Q (.one i 0 r) a w :=
  ⟨o, ho, fun _ => calmV_k hc, fun e => absurd e (by decide), by
    have : (fun (a' : Act) (w' : World) => ((0 : Nat) = 2 → Below w.heap.size w w') ∧ wpPn P ops Q r a' w') = wpPn P ops Q r := by
      funext a' w'; simp
    rw [this]; exact h⟩
theorem pn_p {i : Nat} {r : Pn} {o : Oper} {a : Act} {w : World} (ho : ops[i]? = some o) (hc : pureK o.op = true)
    (h : wpList P ops (Exit.then (wpPn P ops Q r) fun _ _ _ => False) [o] a w) : wpPn P ops Q (.one i 3 r) a w :=
  ⟨o, ho, fun e => absurd e (by decide), fun _ => pureV_k hc, by
    have : (fun (a' : Act) (w' : World) => ((3 : Nat) = 2 → Below w.heap.size w w') ∧ wpPn P ops Q r a' w') = wpPn P ops Q r := by
      funext a' w'; simp
    rw [this]; exact h⟩
theorem pn_e {i : Nat} {r : Pn} {o : Oper} {a : Act} {w : World} (ho : ops[i]? = some o)
    (h : wpList P ops (Exit.then (wpPn P ops Q r) fun _ _ _ => False) [o] a w) : wpPn P ops Q (.one i 1 r) a w :=
  ⟨o, ho, fun e => absurd e (by decide), fun e => absurd e (by decide), by
    have : (fun (a' : Act) (w' : World) => ((1 : Nat) = 2 → Below w.heap.size w w') ∧ wpPn P ops Q r a' w') = wpPn P ops Q r := by
      funext a' w'; simp
    rw [this]; exact h⟩
theorem pn_g {i : Nat} {r : Pn} {o : Oper} {a : Act} {w : World} (ho : ops[i]? = some o)
    (h : wpList P ops (Exit.then (fun a' w' => Below w.heap.size w w' ∧ wpPn P ops Q r a' w') fun _ _ _ => False) [o] a w) : wpPn P ops Q (.one i 2 r) a w :=
  ⟨o, ho, fun e => absurd e (by decide), fun e => absurd e (by decide), by
    have : (fun (a' : Act) (w' : World) => ((2 : Nat) = 2 → Below w.heap.size w w') ∧ wpPn P ops Q r a' w') = fun a' w' => Below w.heap.size w w' ∧ wpPn P ops Q r a' w' := by
      funext a' w'; simp
    rw [this]; exact h⟩
theorem pn_two {i j : Nat} {r s : Pn} {o u : Oper} {a : Act} {w : World} (ho : ops[i]? = some o) (hu : ops[j]? = some u)
    (h1 : wpList P ops (Exit.then (fun a' w' => Below w.heap.size w w' ∧ wpPn P ops Q r a' w') fun _ _ _ => False) [o] a w)
    (h2 : wpList P ops (Exit.then (fun a' w' => Below w.heap.size w w' ∧ wpPn P ops Q s a' w') fun _ _ _ => False) [u] a w) : wpPn P ops Q (.two i r j s) a w :=
  ⟨⟨o, ho, h1⟩, u, hu, h2⟩
end
end Go.Proofs.YtaebeemnipafbaaGreatDoor
