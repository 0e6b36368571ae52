/-
  Proved here: the digest of a map of 2^32 keys, its paths, plainly. No condition on any program.
-/
import Derived.Test.YtaebeemnipafbaaDoorSha
import Derived.Test.YtaebeemnipafbaaDoorSum
import Derived.Test.YtaebeemnipafbaaDoorRefPlain
set_option maxRecDepth 20000
set_option linter.unusedSimpArgs false
set_option linter.unusedVariables false
namespace Go.Proofs.YtaebeemnipafbaaDoor

/-- the leaf of an entry -/
def eLeaf (k : Nat) (d : Dig) : Dig := sha (9 :: (bigE 4 k ++ d.l))
/-- the digest of two; nothing of nothing -/
def mNode (l r : Dig) : Dig := if l = zeroD ∧ r = zeroD then zeroD else ofN 10 [l, r]
theorem mNode_zero : mNode zeroD zeroD = zeroD := if_pos ⟨rfl, rfl⟩
/-- what stands at a key -/
def leafAt (es : List (Nat × Dig)) (k : Nat) : Dig := match es.find? (fun e => e.1 == k) with | some e => eLeaf k e.2 | none => zeroD
/-- the root of the 2^b keys from one on -/
def mRoot (f : Nat → Dig) : Nat → Nat → Dig
  | 0, frm => f frm
  | b + 1, frm => mNode (mRoot f b frm) (mRoot f b (frm + 2 ^ b))
theorem mRoot_s (f : Nat → Dig) (b frm : Nat) : mRoot f (b + 1) frm = mNode (mRoot f b frm) (mRoot f b (frm + 2 ^ b)) := rfl
theorem mRoot_congr {f g : Nat → Dig} : ∀ (b frm : Nat), (∀ k, frm ≤ k → k < frm + 2 ^ b → f k = g k) → mRoot f b frm = mRoot g b frm
  | 0, frm, h => h frm (Nat.le_refl _) (by simp)
  | b + 1, frm, h => by
    have e : 2 ^ (b + 1) = 2 ^ b + 2 ^ b := by rw [Nat.pow_succ]; omega
    rw [mRoot_s, mRoot_s, mRoot_congr b frm (fun k h1 h2 => h k h1 (by omega)), mRoot_congr b (frm + 2 ^ b) (fun k h1 h2 => h k (by omega) (by omega))]
theorem mRoot_none : ∀ (b frm : Nat), mRoot (fun _ => zeroD) b frm = zeroD
  | 0, _ => rfl
  | b + 1, frm => by rw [mRoot_s, mRoot_none b, mRoot_none b, mNode_zero]
theorem mRoot_zero {f : Nat → Dig} {b frm : Nat} (h : ∀ k, frm ≤ k → k < frm + 2 ^ b → f k = zeroD) : mRoot f b frm = zeroD := (mRoot_congr b frm h).trans (mRoot_none b frm)

/-- the keys beside a key's, at a bit: from where on -/
def sibN (b k : Nat) : Nat := if k / 2 ^ b % 2 = 1 then (k / 2 ^ b - 1) * 2 ^ b else (k / 2 ^ b + 1) * 2 ^ b
/-- what stands beside a key's way -/
def mPath (f : Nat → Dig) (k n : Nat) : List Dig := (List.range n).map fun b => mRoot f b (sibN b k)
theorem length_mPath (f : Nat → Dig) (k n : Nat) : (mPath f k n).length = n := by simp [mPath]
theorem mPath_s (f : Nat → Dig) (k n : Nat) : mPath f k (n + 1) = mPath f k n ++ [mRoot f n (sibN n k)] := by simp [mPath, List.range_succ]
/-- the way up -/
def mFold : Nat → Dig → List Dig → Dig
  | _, l, [] => l
  | k, l, p :: ps => mFold (k / 2) (if k % 2 = 1 then mNode p l else mNode l p) ps
theorem mFold_snoc : ∀ (ps : List Dig) (k : Nat) (l p : Dig), mFold k l (ps ++ [p]) = if k / 2 ^ ps.length % 2 = 1 then mNode p (mFold k l ps) else mNode (mFold k l ps) p
  | [], k, l, p => by simp [mFold]
  | q :: ps, k, l, p => by
    rw [List.cons_append, mFold, mFold_snoc ps, mFold, List.length_cons, Nat.div_div_eq_div_mul, Nat.pow_succ, Nat.mul_comm 2]
theorem half_step (k b : Nat) : k / 2 ^ (b + 1) = k / 2 ^ b / 2 := by rw [Nat.pow_succ, Nat.div_div_eq_div_mul]
theorem mFold_path (f : Nat → Dig) (k : Nat) : ∀ n, mFold k (f k) (mPath f k n) = mRoot f n (k / 2 ^ n * 2 ^ n)
  | 0 => by simp [mFold, mPath, mRoot]
  | n + 1 => by
    rw [mPath_s, mFold_snoc, length_mPath, mFold_path f k n, mRoot_s, half_step, sibN]
    generalize k / 2 ^ n = q
    have e : 2 ^ (n + 1) = 2 * 2 ^ n := by rw [Nat.pow_succ, Nat.mul_comm]
    by_cases h : q % 2 = 1
    · rw [if_pos h, if_pos h]
      have e1 : q / 2 * 2 ^ (n + 1) = (q - 1) * 2 ^ n := by rw [e, ← Nat.mul_assoc]; congr 1; omega
      have e2 : (q - 1) * 2 ^ n + 2 ^ n = q * 2 ^ n := by rw [← Nat.succ_mul]; congr 1; omega
      rw [e1, e2]
    · rw [if_neg h, if_neg h]
      have e1 : q / 2 * 2 ^ (n + 1) = q * 2 ^ n := by rw [e, ← Nat.mul_assoc]; congr 1; omega
      rw [e1, ← Nat.succ_mul]
theorem mFold_root (f : Nat → Dig) {k : Nat} (h : k < 2 ^ 32) : mFold k (f k) (mPath f k 32) = mRoot f 32 0 := by
  rw [mFold_path, Nat.div_eq_of_lt h, Nat.zero_mul]

/-! ## entries -/
theorem leafAt_nil (k : Nat) : leafAt [] k = zeroD := rfl
theorem leafAt_none {es : List (Nat × Dig)} {k : Nat} (h : ∀ e ∈ es, e.1 ≠ k) : leafAt es k = zeroD := by
  unfold leafAt
  rw [List.find?_eq_none.2 (fun e he => by simpa using h e he)]
theorem leafAt_some {es : List (Nat × Dig)} (hd : (es.map (·.1)).Nodup) {e : Nat × Dig} (he : e ∈ es) : leafAt es e.1 = eLeaf e.1 e.2 := by
  unfold leafAt
  have : es.find? (fun x => x.1 == e.1) = some e := by
    induction es with
    | nil => cases he
    | cons a es ih =>
      rw [List.map_cons, List.nodup_cons] at hd
      rcases List.mem_cons.1 he with rfl | he
      · simp
      · have hne : a.1 ≠ e.1 := fun h => hd.1 (by rw [h]; exact List.mem_map.2 ⟨e, he, rfl⟩)
        rw [List.find?_cons_of_neg (by simpa using hne)]
        exact ih hd.2 he
  rw [this]
/-- two lists of entries with the same members -/
theorem leafAt_perm {es fs : List (Nat × Dig)} (hd : (es.map (·.1)).Nodup) (hp : es.Perm fs) (k : Nat) : leafAt es k = leafAt fs k := by
  have hd' : (fs.map (·.1)).Nodup := (hp.map _).nodup_iff.1 hd
  by_cases h : ∃ e ∈ es, e.1 = k
  · obtain ⟨e, he, rfl⟩ := h
    rw [leafAt_some hd he, leafAt_some hd' (hp.mem_iff.1 he)]
  · rw [leafAt_none (fun e he hk => h ⟨e, he, hk⟩), leafAt_none (fun e he hk => h ⟨e, hp.mem_iff.2 he, hk⟩)]
theorem leafAt_filter (es : List (Nat × Dig)) (q : Nat → Bool) {k : Nat} (hk : q k = true) : leafAt (es.filter fun e => q e.1) k = leafAt es k := by
  unfold leafAt
  rw [List.find?_filter]
  congr 2
  funext e
  by_cases h : e.1 = k
  · rw [h, hk]; simp
  · simp [h]
/-- sorted entries, cut where the keys reach mid -/
theorem cut_low : ∀ (es : List (Nat × Dig)) (mid : Nat), es.Pairwise (fun a b => a.1 < b.1) → es.take (es.findIdx fun e => decide (mid ≤ e.1)) = es.filter fun e => decide (e.1 < mid)
  | [], _, _ => rfl
  | e :: es, mid, h => by
    obtain ⟨h1, h2⟩ := List.pairwise_cons.1 h
    rw [List.findIdx_cons]
    by_cases hm : mid ≤ e.1
    · have : ∀ x ∈ e :: es, ¬ decide (x.1 < mid) = true := fun x hx => by
        rcases List.mem_cons.1 hx with rfl | hx
        · simp; omega
        · have := h1 x hx; simp; omega
      rw [List.filter_eq_nil_iff.2 this]
      simp [hm]
    · have ih := cut_low es mid h2
      simp [hm, ih]
      rw [List.filter_cons_of_pos (by simp; omega)]
theorem cut_high : ∀ (es : List (Nat × Dig)) (mid : Nat), es.Pairwise (fun a b => a.1 < b.1) → es.drop (es.findIdx fun e => decide (mid ≤ e.1)) = es.filter fun e => decide (mid ≤ e.1)
  | [], _, _ => rfl
  | e :: es, mid, h => by
    obtain ⟨h1, h2⟩ := List.pairwise_cons.1 h
    rw [List.findIdx_cons]
    by_cases hm : mid ≤ e.1
    · have : ∀ x ∈ e :: es, decide (mid ≤ x.1) = true := fun x hx => by
        rcases List.mem_cons.1 hx with rfl | hx
        · simp; omega
        · have := h1 x hx; simp; omega
      rw [List.filter_eq_self.2 this]
      simp [hm]
    · have ih := cut_high es mid h2
      simp [hm, ih]
/-- no entry there -/
theorem mRoot_empty (b frm : Nat) : mRoot (leafAt []) b frm = zeroD := mRoot_zero (fun _ _ _ => rfl)
/-- the root of the halves -/
theorem mRoot_halves (es : List (Nat × Dig)) (b frm : Nat) : mRoot (leafAt es) (b + 1) frm = mNode (mRoot (leafAt (es.filter fun e => decide (e.1 < frm + 2 ^ b))) b frm) (mRoot (leafAt (es.filter fun e => decide (frm + 2 ^ b ≤ e.1))) b (frm + 2 ^ b)) := by
  rw [mRoot_s]
  congr 1
  · exact mRoot_congr b frm (fun k h1 h2 => (leafAt_filter es (fun x => decide (x < frm + 2 ^ b)) (decide_eq_true h2)).symm)
  · exact mRoot_congr b _ (fun k h1 h2 => (leafAt_filter es (fun x => decide (frm + 2 ^ b ≤ x)) (decide_eq_true h1)).symm)
end Go.Proofs.YtaebeemnipafbaaDoor
