/-
  Proved here: plain laws of a diary: records one behind the other, each with its length ahead of it and eight bytes of a digest behind it; what is read of any bytes. No condition on any program.
-/
import Derived.Test.YtkbleigmfcleaaaDoorShaSpec
set_option maxRecDepth 20000
set_option linter.unusedSimpArgs false
set_option linter.unusedVariables false
namespace Go.Proofs.YtkbleigmfcleaaaDoor

/-- the mark behind a record -/
def dmark (last r : List UInt8) : List UInt8 := (sha (14 :: (last ++ r))).l.take 8
theorem length_dmark (last r : List UInt8) : (dmark last r).length = 8 := by
  unfold dmark
  rw [List.length_take, (sha _).h]
  rfl
/-- a record with its length and its mark -/
def frameD (last r : List UInt8) : List UInt8 := UInt8.ofNat (r.length / 256) :: UInt8.ofNat r.length :: (r ++ dmark last r)
theorem length_frameD (last r : List UInt8) : (frameD last r).length = r.length + 10 := by
  simp [frameD, length_dmark]
/-- records one behind the other -/
def diaryN : List UInt8 → List (List UInt8) → List UInt8
  | _, [] => []
  | last, r :: rs => frameD last r ++ diaryN (dmark last r) rs
/-- the last mark -/
def lastN : List UInt8 → List (List UInt8) → List UInt8
  | last, [] => last
  | last, r :: rs => lastN (dmark last r) rs
theorem diaryN_append : ∀ (rs ss : List (List UInt8)) (last), diaryN last (rs ++ ss) = diaryN last rs ++ diaryN (lastN last rs) ss := by
  intro rs
  induction rs with
  | nil => intro ss last; rfl
  | cons r rs ih => intro ss last; simp only [List.cons_append, diaryN, lastN, ih, List.append_assoc]
theorem lastN_append : ∀ (rs ss : List (List UInt8)) (last), lastN last (rs ++ ss) = lastN (lastN last rs) ss := by
  intro rs
  induction rs with
  | nil => intro ss last; rfl
  | cons r rs ih => intro ss last; simp only [List.cons_append, lastN, ih]
/-- the next record, and what is behind it -/
def nextD (last : List UInt8) : List UInt8 → Option (List UInt8 × List UInt8)
  | a :: b :: d => if 1000 < a.toNat * 256 + b.toNat ∨ d.length < a.toNat * 256 + b.toNat + 8 then none else
      if (d.drop (a.toNat * 256 + b.toNat)).take 8 = dmark last (d.take (a.toNat * 256 + b.toNat)) then some (d.take (a.toNat * 256 + b.toNat), d.drop (a.toNat * 256 + b.toNat + 8)) else none
  | _ => none
theorem nextD_frame (last r rest : List UInt8) (h : r.length ≤ 1000) : nextD last (frameD last r ++ rest) = some (r, rest) := by
  have e : (UInt8.ofNat (r.length / 256)).toNat * 256 + (UInt8.ofNat r.length).toNat = r.length := by
    rw [UInt8.toNat_ofNat', UInt8.toNat_ofNat']
    omega
  have hm := length_dmark last r
  simp only [frameD, List.cons_append, nextD, e]
  rw [if_neg (by simp only [List.length_append, hm]; omega), if_pos]
  · rw [List.append_assoc, List.take_left' rfl, ← List.append_assoc, List.drop_left' (by rw [List.length_append, hm])]
  · rw [List.append_assoc, List.drop_left' rfl, List.take_left' rfl, List.take_left' hm]
theorem nextD_some {last d r rest : List UInt8} (h : nextD last d = some (r, rest)) : r.length ≤ 1000 ∧ d = frameD last r ++ rest := by
  match d, h with
  | a :: b :: d, h =>
    simp only [nextD] at h
    by_cases h1 : 1000 < a.toNat * 256 + b.toNat ∨ d.length < a.toNat * 256 + b.toNat + 8
    · rw [if_pos h1] at h; cases h
    · rw [if_neg h1] at h
      by_cases h2 : (d.drop (a.toNat * 256 + b.toNat)).take 8 = dmark last (d.take (a.toNat * 256 + b.toNat))
      · rw [if_pos h2] at h
        simp only [Option.some.injEq, Prod.mk.injEq] at h
        obtain ⟨h3, h4⟩ := h
        have ha := a.toNat_lt
        have hb := b.toNat_lt
        have hl : r.length = a.toNat * 256 + b.toNat := by rw [← h3, List.length_take]; omega
        refine ⟨by omega, ?_⟩
        have ea : UInt8.ofNat (r.length / 256) = a := by
          apply UInt8.toNat.inj
          rw [UInt8.toNat_ofNat']
          omega
        have eb : UInt8.ofNat r.length = b := by
          apply UInt8.toNat.inj
          rw [UInt8.toNat_ofNat']
          omega
        have ed : d = r ++ (dmark last r ++ rest) := by
          rw [h3] at h2
          rw [← h2, ← h4, ← List.drop_drop (i := 8) (j := a.toNat * 256 + b.toNat), List.take_append_drop, ← h3, List.take_append_drop]
        simp only [frameD, ea, eb, List.cons_append, List.append_assoc]
        rw [← ed]
      · rw [if_neg h2] at h; cases h
/-- what is read: the records, and what is left -/
def readD (last d : List UInt8) : List (List UInt8) × List UInt8 :=
  match _h : nextD last d with
  | none => ([], d)
  | some (r, rest) => (r :: (readD (dmark last r) rest).1, (readD (dmark last r) rest).2)
termination_by d.length
decreasing_by
  all_goals
    have := (nextD_some _h).2
    rw [this, List.length_append, length_frameD]
    omega
theorem readD_none {last d : List UInt8} (h : nextD last d = none) : readD last d = ([], d) := by
  rw [readD]
  split
  · rfl
  · rename_i h'; rw [h] at h'; cases h'
theorem readD_some {last d r rest : List UInt8} (h : nextD last d = some (r, rest)) : readD last d = (r :: (readD (dmark last r) rest).1, (readD (dmark last r) rest).2) := by
  rw [readD]
  split
  · rename_i h'; rw [h] at h'; cases h'
  · rename_i r' rest' h'
    rw [h] at h'
    simp only [Option.some.injEq, Prod.mk.injEq] at h'
    obtain ⟨rfl, rfl⟩ := h'
    rfl
/-- what is read, written, and what is left are all; nothing more can be read -/
theorem readD_split : ∀ (n : Nat) (last d : List UInt8), d.length ≤ n → d = diaryN last (readD last d).1 ++ (readD last d).2 ∧ (∀ r ∈ (readD last d).1, r.length ≤ 1000) ∧ nextD (lastN last (readD last d).1) (readD last d).2 = none := by
  intro n
  induction n with
  | zero =>
    intro last d hd
    have : d = [] := List.eq_nil_of_length_eq_zero (by omega)
    subst this
    rw [readD_none rfl]
    exact ⟨rfl, by simp, rfl⟩
  | succ n ih =>
    intro last d hd
    cases h : nextD last d with
    | none =>
      rw [readD_none h]
      exact ⟨rfl, by simp, h⟩
    | some x =>
      obtain ⟨r, rest⟩ := x
      obtain ⟨h1, h2⟩ := nextD_some h
      have hl := congrArg List.length h2
      rw [List.length_append, length_frameD] at hl
      obtain ⟨i1, i2, i3⟩ := ih (dmark last r) rest (by omega)
      rw [readD_some h]
      refine ⟨?_, ?_, ?_⟩
      · simp only [diaryN]
        rw [List.append_assoc, ← i1]
        exact h2
      · intro q hq
        rcases List.mem_cons.1 hq with rfl | hq
        · exact h1
        · exact i2 q hq
      · simp only [lastN]; exact i3
/-- records that were written are read, and then what is behind them -/
theorem readD_diary : ∀ (rs : List (List UInt8)) (last x : List UInt8), (∀ r ∈ rs, r.length ≤ 1000) → readD last (diaryN last rs ++ x) = (rs ++ (readD (lastN last rs) x).1, (readD (lastN last rs) x).2) := by
  intro rs
  induction rs with
  | nil => intro last x _; rfl
  | cons r rs ih =>
    intro last x h
    have e : diaryN last (r :: rs) ++ x = frameD last r ++ (diaryN (dmark last r) rs ++ x) := by simp only [diaryN, List.append_assoc]
    rw [e, readD_some (nextD_frame last r _ (h r (List.mem_cons_self ..))), ih (dmark last r) x (fun q hq => h q (List.mem_cons_of_mem _ hq))]
    rfl
/-- of a frame that is cut off nothing is read -/
theorem nextD_torn {last r y z : List UInt8} (hr : r.length ≤ 1000) (h : y ++ z = frameD last r) (hz : z ≠ []) : nextD last y = none := by
  have hl := congrArg List.length h
  rw [List.length_append, length_frameD] at hl
  have hp : 0 < z.length := List.length_pos_iff.2 hz
  match y, h with
  | [], _ => rfl
  | [_], _ => rfl
  | a :: b :: d, h =>
    simp only [frameD, List.cons_append, List.cons.injEq] at h
    obtain ⟨rfl, rfl, h⟩ := h
    have e : (UInt8.ofNat (r.length / 256)).toNat * 256 + (UInt8.ofNat r.length).toNat = r.length := by
      rw [UInt8.toNat_ofNat', UInt8.toNat_ofNat']
      omega
    simp only [nextD, e]
    rw [if_pos]
    simp only [List.length_cons] at hl
    omega
/-- where the first so many records end -/
def endD (rs : List (List UInt8)) : Nat := (rs.map fun r => 2 + r.length + 8).foldl (· + ·) 0
theorem foldl_add (l : List Nat) : ∀ a : Nat, l.foldl (· + ·) a = a + l.foldl (· + ·) 0 := by
  induction l with
  | nil => intro a; rfl
  | cons x l ih => intro a; rw [List.foldl_cons, List.foldl_cons, ih (a + x), ih (0 + x)]; omega
theorem endD_cons (r : List UInt8) (rs : List (List UInt8)) : endD (r :: rs) = 2 + r.length + 8 + endD rs := by
  unfold endD
  rw [List.map_cons, List.foldl_cons, foldl_add]
  omega
theorem length_diaryN : ∀ (rs : List (List UInt8)) (last : List UInt8), (diaryN last rs).length = endD rs := by
  intro rs
  induction rs with
  | nil => intro last; rfl
  | cons r rs ih => intro last; rw [diaryN, List.length_append, length_frameD, ih, endD_cons]; omega
/-- how many records end within so many bytes -/
def wholeN : List (List UInt8) → Nat → Nat
  | [], _ => 0
  | r :: rs, n => if n < 2 + r.length + 8 then 0 else wholeN rs (n - (2 + r.length + 8)) + 1
theorem wholeN_le : ∀ (rs : List (List UInt8)) (n : Nat), wholeN rs n ≤ rs.length ∧ endD (rs.take (wholeN rs n)) ≤ n := by
  intro rs
  induction rs with
  | nil => intro n; exact ⟨Nat.le_refl _, by simp [wholeN, endD]⟩
  | cons r rs ih =>
    intro n
    simp only [wholeN]
    by_cases h : n < 2 + r.length + 8
    · rw [if_pos h]; exact ⟨Nat.zero_le _, by simp [endD]⟩
    · rw [if_neg h, List.take_succ_cons, endD_cons, List.length_cons]
      have := ih (n - (2 + r.length + 8))
      omega
/-- the first bytes of a diary: records that are whole, and part of the next one -/
theorem take_diary : ∀ (rs : List (List UInt8)) (last : List UInt8) (n : Nat), n ≤ (diaryN last rs).length → (∀ r ∈ rs, r.length ≤ 1000) →
    ∃ y, (diaryN last rs).take n = diaryN last (rs.take (wholeN rs n)) ++ y ∧ nextD (lastN last (rs.take (wholeN rs n))) y = none := by
  intro rs
  induction rs with
  | nil => intro last n _ _; exact ⟨[], by simp [diaryN, wholeN], rfl⟩
  | cons r rs ih =>
    intro last n hn hr
    simp only [wholeN]
    have hf := length_frameD last r
    by_cases h : n < 2 + r.length + 8
    · rw [if_pos h]
      refine ⟨(frameD last r).take n, ?_, ?_⟩
      · simp only [List.take_zero, diaryN, List.nil_append]
        rw [List.take_append_of_le_length (by omega)]
      · simp only [List.take_zero, lastN]
        refine nextD_torn (z := (frameD last r).drop n) (hr r (List.mem_cons_self ..)) (List.take_append_drop _ _) (fun h0 => ?_)
        have := congrArg List.length h0
        rw [List.length_drop, List.length_nil] at this
        omega
    · rw [if_neg h]
      have hl : (diaryN last (r :: rs)).length = r.length + 10 + (diaryN (dmark last r) rs).length := by rw [diaryN, List.length_append, hf]
      obtain ⟨y, h1, h2⟩ := ih (dmark last r) (n - (2 + r.length + 8)) (by omega) (fun q hq => hr q (List.mem_cons_of_mem _ hq))
      refine ⟨y, ?_, ?_⟩
      · simp only [List.take_succ_cons, diaryN]
        rw [List.take_append, List.take_of_length_le (by omega), hf, show n - (r.length + 10) = n - (2 + r.length + 8) by omega, h1, List.append_assoc]
      · simp only [List.take_succ_cons, lastN]; exact h2
/-- torn anywhere: the records that are whole -/
theorem readD_torn (rs : List (List UInt8)) (last : List UInt8) (n : Nat) (hn : n ≤ (diaryN last rs).length) (hr : ∀ r ∈ rs, r.length ≤ 1000) :
    (readD last ((diaryN last rs).take n)).1 = rs.take (wholeN rs n) ∧ (diaryN last rs).take n = diaryN last (rs.take (wholeN rs n)) ++ (readD last ((diaryN last rs).take n)).2 := by
  obtain ⟨y, h1, h2⟩ := take_diary rs last n hn hr
  rw [h1, readD_diary _ _ _ (fun r h => hr r (List.mem_of_mem_take h)), readD_none h2]
  exact ⟨List.append_nil _, rfl⟩
/-- with any bytes behind: the records that were whole are read first -/
theorem readD_spoilt (rs : List (List UInt8)) (last tail : List UInt8) (n : Nat) (hn : n ≤ (diaryN last rs).length) (hr : ∀ r ∈ rs, r.length ≤ 1000) :
    ∃ ss, (readD last ((diaryN last rs).take n ++ tail)).1 = rs.take (wholeN rs n) ++ ss := by
  obtain ⟨y, h1, _⟩ := take_diary rs last n hn hr
  rw [h1, List.append_assoc, readD_diary _ _ _ (fun r h => hr r (List.mem_of_mem_take h))]
  exact ⟨_, rfl⟩
/-- what is read, with one record more -/
theorem readD_more (rs : List (List UInt8)) (last r : List UInt8) (hr : ∀ r ∈ rs, r.length ≤ 1000) (h : r.length ≤ 1000) : readD last (diaryN last rs ++ frameD (lastN last rs) r) = (rs ++ [r], []) := by
  rw [readD_diary rs last _ hr, readD_some (last := lastN last rs) (d := frameD (lastN last rs) r) (r := r) (rest := []) (by simpa using nextD_frame (lastN last rs) r [] h), readD_none rfl]
end Go.Proofs.YtkbleigmfcleaaaDoor
