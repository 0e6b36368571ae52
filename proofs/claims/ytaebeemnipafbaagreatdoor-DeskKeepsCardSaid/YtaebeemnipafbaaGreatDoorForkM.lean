/-
  Proved here: as Fork, where of two operations that are ready at once one reads and one stores: each order is walked. No condition on any program.
-/
import Derived.Test.YtaebeemnipafbaaGreatDoorFork
set_option maxRecDepth 20000
set_option linter.unusedSimpArgs false
set_option linter.unusedVariables false
namespace Go.Proofs.YtaebeemnipafbaaGreatDoor
open Go.RowKit

section
variable {P : Program} {ops : Array Oper} {Q : Act → World → Prop} {md : Region.Mode}

/-- a plan: who is walked next, and how; where two that act are ready, both -/
inductive Pm where
  | nil
  | one (i k : Nat) (r : Pm)
  | two (i ki : Nat) (r : Pm) (j kj : Nat) (s : Pm)
def Pm.len : Pm → Nat
  | .nil => 0
  | .one _ _ r => r.len + 1
  | .two _ _ r _ _ _ => r.len + 1
/-- who leaves what stood as it was -/
def Pm.f : Pm → Nat → Bool
  | .nil, _ => false
  | .one i k r, x => (i == x && k != 1) || r.f x
  | .two i ki r j kj s, x => (i == x && ki == 2) || (j == x && kj == 2) || r.f x || s.f x
/-- the walk by a plan -/
def wpPm (P : Program) (ops : Array Oper) (Q : Act → World → Prop) : Pm → Act → World → Prop
  | .nil, a, w => Q a w
  | .one i k r, a, w => ∃ o, ops[i]? = some o ∧ (k = 0 → CalmV P (execOp a.eval o)) ∧ (k = 3 → PureV P (execOp a.eval o)) ∧
      wpList P ops (onlyN fun a' w' => (k = 2 → Below w.heap.size w w') ∧ wpPm P ops Q r a' w') [o] a w
  | .two i ki r j kj s, a, w => (∃ o, ops[i]? = some o ∧ wpList P ops (onlyN fun a' w' => (ki = 2 → Below w.heap.size w w') ∧ wpPm P ops Q r a' w') [o] a w) ∧
      (∃ o, ops[j]? = some o ∧ wpList P ops (onlyN fun a' w' => (kj = 2 → Below w.heap.size w w') ∧ wpPm P ops Q s a' w') [o] a w)
def planM (md : Region.Mode) (ops : Array Oper) (F : Nat → Bool) : Pm → Array Bool → Bool
  | .nil, listed => (Region.ready md ops listed).isEmpty
  | .one i k r, listed =>
    (if k == 0 then
      (Region.ready md ops listed).contains i && (match ops[i]? with
        | none => false
        | some oi => ((waits md ops i).all fun j => !listed.getD j true && match ops[j]? with
            | some oj => oj.after.any (fun e => Region.binds md e && (e.on == i || (waits md ops i).contains e.on))
            | none => true) && (List.range ops.size).all fun j => j == i || listed.getD j true || match ops[j]? with
          | some oj => (waits md ops i).contains j || (oi.apart ops oj && F j)
          | none => true)
    else if k == 3 then
      (Region.ready md ops listed).contains i && (match ops[i]? with
        | none => false
        | some oi => ((waits md ops i).all fun j => !listed.getD j true && match ops[j]? with
            | some oj => oj.after.any (fun e => Region.binds md e && (e.on == i || (waits md ops i).contains e.on))
            | none => true) && (List.range ops.size).all fun j => j == i || listed.getD j true || match ops[j]? with
          | some oj => (waits md ops i).contains j || oi.apart ops oj
          | none => true)
    else Region.ready md ops listed == [i] && (k == 1 || k == 2) && (k == 2 || !F i)) && planM md ops F r (listed.setIfInBounds i true)
  | .two i ki r j kj s, listed => Region.ready md ops listed == [i, j] && (ki == 2 || !F i) && (kj == 2 || !F j) && r.len == s.len && planM md ops F r (listed.setIfInBounds i true) && planM md ops F s (listed.setIfInBounds j true)

theorem wpAnyF_of_pm {F : Nat → Bool} (hs : Region.noSelect ops = true) : ∀ (p : Pm) (listed : Array Bool) (a : Act) (w : World), planM md ops F p listed = true → wpPm P ops Q p a w → wpAnyF P md ops F Q p.len listed a w
  | .nil, listed, a, w, hp, h => ⟨by simpa [planM] using hp, h⟩
  | .two i ki r j kj s, listed, a, w, hp, h => by
    obtain ⟨⟨oi, hoi, hli⟩, oj, hoj, hlj⟩ := h
    simp only [planM, Bool.and_eq_true, beq_iff_eq] at hp
    obtain ⟨⟨⟨⟨⟨hr, hki⟩, hkj⟩, hlen⟩, h1⟩, h2⟩ := hp
    refine ⟨fun h0 => absurd h0 (by simp [hr]), fun x hx => ?_⟩
    rw [hr] at hx
    rcases List.mem_cons.1 hx with rfl | hx
    · refine wpOp_mono (fun a' w' hh => ⟨fun hF => ?_, wpAnyF_of_pm hs r _ _ _ h1 hh.2⟩) (wpOp_of_list hoi hli)
      refine hh.1 ?_
      simpa [hF] using hki
    · obtain rfl : x = j := by simpa using hx
      refine wpOp_mono (fun a' w' hh => ⟨fun hF => ?_, ?_⟩) (wpOp_of_list hoj hlj)
      · refine hh.1 ?_
        simpa [hF] using hkj
      · have := wpAnyF_of_pm hs s _ _ _ h2 hh.2
        rw [← hlen] at this
        exact this
  | .one i k r, listed, a, w, hp, h => by
    obtain ⟨o, ho, hcalm, hpure, hl⟩ := h
    unfold planM at hp
    simp only [Bool.and_eq_true] at hp
    obtain ⟨h1, h2⟩ := hp
    unfold wpList at hl
    by_cases hk3 : k = 3
    · subst hk3
      have hk' : ((3 : Nat) == 0) = false := rfl
      simp only [hk', Bool.false_eq_true, if_false, beq_self_eq_true, if_true, Bool.and_eq_true, ho] at h1
      obtain ⟨hr, hwt, hf⟩ := h1
      have hr' : i ∈ Region.ready md ops listed := by simpa using hr
      have hw1 : ∀ j ∈ waits md ops i, listed.getD j true = false := fun j hj => by
        have h3 := List.all_eq_true.1 hwt j hj
        simp only [Bool.and_eq_true, Bool.not_eq_true'] at h3
        exact h3.1
      have hw2 : ∀ j oj, ops[j]? = some oj → j ∈ waits md ops i → ∃ e ∈ oj.after, Region.binds md e = true ∧ (e.on = i ∨ e.on ∈ waits md ops i) := fun j oj hoj hj => by
        have h3 := List.all_eq_true.1 hwt j hj
        simp only [Bool.and_eq_true, hoj] at h3
        obtain ⟨e, he, hb⟩ := Array.any_eq_true'.1 h3.2
        simp only [Bool.and_eq_true, Bool.or_eq_true, beq_iff_eq, List.contains_iff_mem] at hb
        exact ⟨e, he, hb.1, hb.2⟩
      have hfree : ∀ j oj, ops[j]? = some oj → j ≠ i → listed.getD j true = false → j ∉ waits md ops i → o.apart ops oj = true := by
        intro j oj hj hne hun hno
        have h3 := List.all_eq_true.1 hf j (List.mem_range.2 (Array.getElem?_eq_some_iff.1 hj).1)
        simp only [hj, Bool.or_eq_true, beq_iff_eq, hne, false_or, hun, Bool.false_eq_true, List.contains_iff_mem] at h3
        rcases h3 with h3 | h3
        · exact absurd h3 hno
        · exact h3
      by_cases hw : Region.wanted o (yielded ops a.tmps) = true
      · rw [if_pos hw] at hl
        rcases hl with hl | ⟨_, hlets⟩
        case inr => exact absurd hlets onlyN_out
        unfold Oper.wp at hl
        cases hrun : (execOp a.eval o).run P w with
        | ok n w' =>
          obtain ⟨⟨v, rfl⟩, rfl, hst⟩ := hpure rfl w n w' hrun
          rw [hrun] at hl
          simp only [Oper.upon, wpList] at hl
          exact wpAnyF_firstP ho (Region.noSelect_spec hs) hw2 r.len listed a w' hw1 hfree hr' (.inl ⟨hw, hst⟩)
            (wpAnyF_of_pm hs r _ _ _ h2 hl.2)
        | halt x w' =>
          rw [hrun] at hl
          cases x <;> simp only [Oper.upon] at hl
          exact (hl : False).elim
      · rw [if_neg hw] at hl
        exact wpAnyF_firstP ho (Region.noSelect_spec hs) hw2 r.len listed a w hw1 hfree hr' (.inr ⟨by simpa using hw, rfl⟩)
            (wpAnyF_of_pm hs r _ _ _ h2 hl.2)
    by_cases hk : k = 0
    · subst hk
      simp only [beq_self_eq_true, if_true, Bool.and_eq_true, ho] at h1
      obtain ⟨hr, hwt, hf⟩ := h1
      have hr' : i ∈ Region.ready md ops listed := by simpa using hr
      have hw1 : ∀ j ∈ waits md ops i, listed.getD j true = false := fun j hj => by
        have h3 := List.all_eq_true.1 hwt j hj
        simp only [Bool.and_eq_true, Bool.not_eq_true'] at h3
        exact h3.1
      have hw2 : ∀ j oj, ops[j]? = some oj → j ∈ waits md ops i → ∃ e ∈ oj.after, Region.binds md e = true ∧ (e.on = i ∨ e.on ∈ waits md ops i) := fun j oj hoj hj => by
        have h3 := List.all_eq_true.1 hwt j hj
        simp only [Bool.and_eq_true, hoj] at h3
        obtain ⟨e, he, hb⟩ := Array.any_eq_true'.1 h3.2
        simp only [Bool.and_eq_true, Bool.or_eq_true, beq_iff_eq, List.contains_iff_mem] at hb
        exact ⟨e, he, hb.1, hb.2⟩
      have hfree : ∀ j oj, ops[j]? = some oj → j ≠ i → listed.getD j true = false → j ∉ waits md ops i → o.apart ops oj = true ∧ F j = true := by
        intro j oj hj hne hun hno
        have h3 := List.all_eq_true.1 hf j (List.mem_range.2 (Array.getElem?_eq_some_iff.1 hj).1)
        simp only [hj, Bool.or_eq_true, beq_iff_eq, hne, false_or, hun, Bool.false_eq_true, Bool.and_eq_true, List.contains_iff_mem] at h3
        rcases h3 with h3 | h3
        · exact absurd h3 hno
        · exact h3
      by_cases hw : Region.wanted o (yielded ops a.tmps) = true
      · rw [if_pos hw] at hl
        rcases hl with hl | ⟨_, hlets⟩
        case inr => exact absurd hlets onlyN_out
        unfold Oper.wp at hl
        cases hrun : (execOp a.eval o).run P w with
        | ok n w' =>
          obtain ⟨⟨v, rfl⟩, rfl, hst⟩ := hcalm rfl w n w' hrun
          rw [hrun] at hl
          simp only [Oper.upon, wpList] at hl
          exact wpAnyF_firstT (wb := w') ho (Region.noSelect_spec hs) hw2 r.len listed a w' (Below.refl _ _) hw1 hfree hr' (.inl ⟨hw, hst⟩)
            (wpAnyF_of_pm hs r _ _ _ h2 hl.2)
        | halt x w' =>
          rw [hrun] at hl
          cases x <;> simp only [Oper.upon] at hl
          exact (hl : False).elim
      · rw [if_neg hw] at hl
        exact wpAnyF_firstT (wb := w) ho (Region.noSelect_spec hs) hw2 r.len listed a w (Below.refl _ _) hw1 hfree hr' (.inr ⟨by simpa using hw, rfl⟩)
            (wpAnyF_of_pm hs r _ _ _ h2 hl.2)
    · have hk' : (k == 0) = false := by simpa using hk
      have hk3' : (k == 3) = false := by simpa using hk3
      simp only [hk', hk3', Bool.false_eq_true, if_false, Bool.and_eq_true] at h1
      obtain ⟨⟨hr, _⟩, hF⟩ := h1
      have hr' : Region.ready md ops listed = [i] := by simpa using hr
      refine ⟨fun h0 => absurd h0 (by simp [hr']), fun j hj => ?_⟩
      obtain rfl : j = i := by simpa [hr'] using hj
      have hgr : ∀ (w' : World), (k = 2 → Below w.heap.size w w') → F j = true → Below w.heap.size w w' := fun w' hh hFj => by
        refine hh ?_
        simp only [Bool.or_eq_true, beq_iff_eq, hFj, Bool.not_true, Bool.false_eq_true, or_false] at hF
        exact hF
      unfold Go.wpOp
      simp only [ho]
      split
      · rename_i hw
        rw [if_pos hw] at hl
        rcases hl with hl | ⟨_, hlets⟩
        case inr => exact absurd hlets onlyN_out
        refine .inl ?_
        unfold Oper.wp at *
        generalize (execOp a.eval o).run P w = rr at *
        cases rr with
        | ok n w' =>
          cases n <;> simp only [Oper.upon] at hl ⊢
          case value u => exact ⟨hgr _ hl.1, wpAnyF_of_pm hs r _ _ _ h2 hl.2⟩
          case skip => exact ⟨hgr _ hl.1, wpAnyF_of_pm hs r _ _ _ h2 hl.2⟩
          case defer d => exact ⟨hgr _ hl.1, wpAnyF_of_pm hs r _ _ _ h2 hl.2⟩
          case enter f args =>
            refine Calls.mono hl fun e w'' he => ?_
            cases e with
            | returned u => exact ⟨hgr _ he.1, wpAnyF_of_pm hs r _ _ _ h2 he.2⟩
            | panicked c => exact (he : False).elim
            | outgrown => exact absurd he onlyN_out
          case row row args => exact Rows.mono hl fun u w'' he => ⟨hgr _ he.1, wpAnyF_of_pm hs r _ _ _ h2 he.2⟩
        | halt x w' =>
          cases x <;> simp only [Oper.upon] at hl ⊢
          exact (hl : False).elim
      · rename_i hw
        rw [if_neg hw] at hl
        exact ⟨hgr _ hl.1, wpAnyF_of_pm hs r _ _ _ h2 hl.2⟩

/-- the whole plan, as one closed fact -/
def planMOK (ops : Array Oper) (p : Pm) : Bool :=
  Region.noSelect ops && planM .any ops p.f p (Array.replicate ops.size false) && p.len == ops.size

theorem wp_region_pm {id : Nat} {l : List Oper} {Q : Exit → Act → World → Prop} {a : Act} {w : World} (p : Pm) (hm : P.follows .mixedOrders = true) (hp : planMOK l.toArray p = true)
    (h : wpPm P l.toArray (fun a w => Q .normal a w) p a w.drew) : (Code.region id l.toArray true).wp P Q a w := by
  simp only [planMOK, Bool.and_eq_true, beq_iff_eq] at hp
  obtain ⟨⟨hs, hp⟩, hlen⟩ := hp
  refine Code.wp_mono (Q := onlyN fun a w => Q .normal a w) (fun e a w q => ?_) (wp_region_any hm ?_)
  · cases e <;> first | exact q | exact (q : False).elim
  · have := wpAnyF_of_pm hs p (Array.replicate l.toArray.size false) a w.drew hp h
    rw [hlen] at this
    exact wpAny_of_F _ _ _ _ this

/-! ### its steps -/
theorem pm_nil {a : Act} {w : World} (h : Q a w) : wpPm P ops Q .nil a w := h
theorem pm_q {i : Nat} {r : Pm} {o : Oper} {a : Act} {w : World} (ho : ops[i]? = some o) (hc : calmK a.eval o.op = true)
    (h : wpList P ops (Exit.then (wpPm P ops Q r) fun _ _ _ => False) [o] a w) : wpPm P ops Q (.one i 0 r) a w :=
  ⟨o, ho, fun _ => calmV_k hc, fun e => absurd e (by decide), by
    have : (fun (a' : Act) (w' : World) => ((0 : Nat) = 2 → Below w.heap.size w w') ∧ wpPm P ops Q r a' w') = wpPm P ops Q r := by
      funext a' w'; simp
    rw [this]; exact h⟩
theorem pm_qv {i : Nat} {r : Pm} {o : Oper} {a : Act} {w : World} (ho : ops[i]? = some o) (hc : CalmV P (execOp a.eval o))
    (h : wpList P ops (Exit.then (wpPm P ops Q r) fun _ _ _ => False) [o] a w) : wpPm P ops Q (.one i 0 r) a w :=
  ⟨o, ho, fun _ => hc, fun e => absurd e (by decide), by
    have : (fun (a' : Act) (w' : World) => ((0 : Nat) = 2 → Below w.heap.size w w') ∧ wpPm P ops Q r a' w') = wpPm P ops Q r := by
      funext a' w'; simp
    rw [this]; exact h⟩
theorem pm_qf {i : Nat} {r : Pm} {o : Oper} {a : Act} {w : World} (ho : ops[i]? = some o) {s : TypeId} {x : Operand} {f : Nat} (hop : o.op = .fieldAddr s x f) (hf : fieldB P s f = true)
    (h : wpList P ops (Exit.then (wpPm P ops Q r) fun _ _ _ => False) [o] a w) : wpPm P ops Q (.one i 0 r) a w := by
  refine pm_qv ho ?_ h
  unfold execOp
  simp only [hop]
  refine CalmV.of (Calm.fieldAt_slot _ _ _ (fun fs y hu hy => ?_))
  simp only [fieldB, hu, hy] at hf
  exact hf
theorem pm_p {i : Nat} {r : Pm} {o : Oper} {a : Act} {w : World} (ho : ops[i]? = some o) (hc : pureK o.op = true)
    (h : wpList P ops (Exit.then (wpPm P ops Q r) fun _ _ _ => False) [o] a w) : wpPm P ops Q (.one i 3 r) a w :=
  ⟨o, ho, fun e => absurd e (by decide), fun _ => pureV_k hc, by
    have : (fun (a' : Act) (w' : World) => ((3 : Nat) = 2 → Below w.heap.size w w') ∧ wpPm P ops Q r a' w') = wpPm P ops Q r := by
      funext a' w'; simp
    rw [this]; exact h⟩
theorem pm_e {i : Nat} {r : Pm} {o : Oper} {a : Act} {w : World} (ho : ops[i]? = some o)
    (h : wpList P ops (Exit.then (wpPm P ops Q r) fun _ _ _ => False) [o] a w) : wpPm P ops Q (.one i 1 r) a w :=
  ⟨o, ho, fun e => absurd e (by decide), fun e => absurd e (by decide), by
    have : (fun (a' : Act) (w' : World) => ((1 : Nat) = 2 → Below w.heap.size w w') ∧ wpPm P ops Q r a' w') = wpPm P ops Q r := by
      funext a' w'; simp
    rw [this]; exact h⟩
theorem pm_g {i : Nat} {r : Pm} {o : Oper} {a : Act} {w : World} (ho : ops[i]? = some o)
    (h : wpList P ops (Exit.then (fun a' w' => Below w.heap.size w w' ∧ wpPm P ops Q r a' w') fun _ _ _ => False) [o] a w) : wpPm P ops Q (.one i 2 r) a w :=
  ⟨o, ho, fun e => absurd e (by decide), fun e => absurd e (by decide), by
    have : (fun (a' : Act) (w' : World) => ((2 : Nat) = 2 → Below w.heap.size w w') ∧ wpPm P ops Q r a' w') = fun a' w' => Below w.heap.size w w' ∧ wpPm P ops Q r a' w' := by
      funext a' w'; simp
    rw [this]; exact h⟩
theorem pm_two {i j ki kj : Nat} {r s : Pm} {o u : Oper} {a : Act} {w : World} (ho : ops[i]? = some o) (hu : ops[j]? = some u)
    (h1 : wpList P ops (Exit.then (fun a' w' => (ki = 2 → Below w.heap.size w w') ∧ wpPm P ops Q r a' w') fun _ _ _ => False) [o] a w)
    (h2 : wpList P ops (Exit.then (fun a' w' => (kj = 2 → Below w.heap.size w w') ∧ wpPm P ops Q s a' w') fun _ _ _ => False) [u] a w) : wpPm P ops Q (.two i ki r j kj s) a w :=
  ⟨⟨o, ho, h1⟩, u, hu, h2⟩
end
end Go.Proofs.YtaebeemnipafbaaGreatDoor
