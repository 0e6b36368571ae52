/-
  Proved here: the digest of a map of 2^32 keys, its paths, plainly. No condition on any program.
-/
import Derived.Test.YtaebeemnipafbaaGreatDoorSha
import Derived.Test.YtaebeemnipafbaaGreatDoorSum
import Derived.Test.YtaebeemnipafbaaGreatDoorRefPlain
import Derived.Test.YtaebeemnipafbaaGreatDoorSq
set_option linter.unusedSimpArgs false
set_option linter.unusedVariables false
set_option maxRecDepth 100000
set_option maxHeartbeats 200000000
namespace Go.Proofs.YtaebeemnipafbaaGreatDoor
def K2 (k : Nat) (d : Dig) : Dig := sha (9 :: (Mp 4 k ++ d.l))
def Nf (l r : Dig) : Dig := if l = GM ∧ r = GM then GM else ofN 10 [l, r]
theorem mNode_zero : Nf GM GM = GM := if_pos ⟨rfl, rfl⟩
def Hq (es : List (Nat × Dig)) (k : Nat) : Dig := match es.find? (fun e => e.1 == k) with | some e => K2 k e.2 | none => GM
def Jy (f : Nat → Dig) : Nat → Nat → Dig
 | 0, frm => f frm
 | b + 1, frm => Nf (Jy f b frm) (Jy f b (frm + 2 ^ b))
theorem mRoot_s (f : Nat → Dig) (b frm : Nat) : Jy f (b + 1) frm = Nf (Jy f b frm) (Jy f b (frm + 2 ^ b)) := rfl
theorem Mu {f g : Nat → Dig} : ∀ (b frm : Nat), (∀ k, frm ≤ k → k < frm + 2 ^ b → f k = g k) → Jy f b frm = Jy g b frm
 | 0, frm, h => h frm (Nat.le_refl _) (by simp)
 | b + 1, frm, h => by
  have e : 2 ^ (b + 1) = 2 ^ b + 2 ^ b := by rw [Nat.pow_succ]; omega
  rw [mRoot_s, mRoot_s, Mu b frm (fun k h1 h2 => h k h1 (by omega)), Mu b (frm + 2 ^ b) (fun k h1 h2 => h k (by omega) (by omega))]
theorem mRoot_none : ∀ (b frm : Nat), Jy (fun _ => GM) b frm = GM
 | 0, _ => rfl
 | b + 1, frm => by rw [mRoot_s, mRoot_none b, mRoot_none b, mNode_zero]
theorem mRoot_zero {f : Nat → Dig} {b frm : Nat} (h : ∀ k, frm ≤ k → k < frm + 2 ^ b → f k = GM) : Jy f b frm = GM := (Mu b frm h).trans (mRoot_none b frm)
def Nw (b k : Nat) : Nat := if k / 2 ^ b % 2 = 1 then (k / 2 ^ b - 1) * 2 ^ b else (k / 2 ^ b + 1) * 2 ^ b
def MK (f : Nat → Dig) (k n : Nat) : List Dig := (List.range n).map fun b => Jy f b (Nw b k)
theorem length_mPath (f : Nat → Dig) (k n : Nat) : (MK f k n).length = n := by simp [MK]
theorem mPath_s (f : Nat → Dig) (k n : Nat) : MK f k (n + 1) = MK f k n ++ [Jy f n (Nw n k)] := by simp [MK, List.range_succ]
def KV : Nat → Dig → List Dig → Dig
 | _, l, [] => l
 | k, l, p :: ps => KV (k / 2) (if k % 2 = 1 then Nf p l else Nf l p) ps
theorem mFold_snoc : ∀ (ps : List Dig) (k : Nat) (l p : Dig), KV k l (ps ++ [p]) = if k / 2 ^ ps.length % 2 = 1 then Nf p (KV k l ps) else Nf (KV k l ps) p
 | [], k, l, p => by simp [KV]
 | q :: ps, k, l, p => by
  rw [List.cons_append, KV, mFold_snoc ps, KV, List.length_cons, Nat.div_div_eq_div_mul, Nat.pow_succ, Nat.mul_comm 2]
theorem half_step (k b : Nat) : k / 2 ^ (b + 1) = k / 2 ^ b / 2 := by rw [Nat.pow_succ, Nat.div_div_eq_div_mul]
theorem PM {es : List (Nat × Dig)} {k : Nat} (h : ∀ e ∈ es, e.1 ≠ k) : Hq es k = GM := by
 unfold Hq
 rw [List.find?_eq_none.2 (fun e he => by simpa using h e he)]
theorem NT {es : List (Nat × Dig)} (hd : (es.map (·.1)).Nodup) {e : Nat × Dig} (he : e ∈ es) : Hq es e.1 = K2 e.1 e.2 := by
 unfold Hq
 have : es.find? (fun x => x.1 == e.1) = some e := by
  induction es with
  | nil => cases he
  | cons a es ih =>
   rw [List.map_cons, List.nodup_cons] at hd
   rcases List.mem_cons.1 he with rfl | he
   ·simp
   ·have hne : a.1 ≠ e.1 := fun h => hd.1 (by rw [h]; exact List.mem_map.2 ⟨e, he, rfl⟩)
    rw [List.find?_cons_of_neg (by simpa using hne)]
    exact ih hd.2 he
 rw [this]
theorem leafAt_perm {es fs : List (Nat × Dig)} (hd : (es.map (·.1)).Nodup) (hp : es.Perm fs) (k : Nat) : Hq es k = Hq fs k := by
 have hd' : (fs.map (·.1)).Nodup := (hp.map _).nodup_iff.1 hd
 by_cases h : ∃ e ∈ es, e.1 = k
 ·obtain ⟨e, he, rfl⟩ := h
  rw [NT hd he, NT hd' (hp.mem_iff.1 he)]
 ·rw [PM (fun e he hk => h ⟨e, he, hk⟩), PM (fun e he hk => h ⟨e, hp.mem_iff.2 he, hk⟩)]
theorem MR (es : List (Nat × Dig)) (q : Nat → Bool) {k : Nat} (hk : q k = true) : Hq (es.filter fun e => q e.1) k = Hq es k := by
 unfold Hq
 rw [List.find?_filter]
 congr 2
 funext e
 by_cases h : e.1 = k
 ·rw [h, hk]; simp
 ·simp [h]
theorem cut_low : ∀ (es : List (Nat × Dig)) (mid : Nat), es.Pairwise (fun a b => a.1 < b.1) → es.take (es.findIdx fun e => decide (mid ≤ e.1)) = es.filter fun e => decide (e.1 < mid)
 | [], _, _ => rfl
 | e :: es, mid, h => by
  obtain ⟨h1, h2⟩ := List.pairwise_cons.1 h
  rw [List.findIdx_cons]
  by_cases hm : mid ≤ e.1
  ·have : ∀ x ∈ e :: es, ¬ decide (x.1 < mid) = true := fun x hx => by
    rcases List.mem_cons.1 hx with rfl | hx
    ·simp; omega
    ·have := h1 x hx; simp; omega
   rw [List.filter_eq_nil_iff.2 this]
   simp [hm]
  ·have ih := cut_low es mid h2
   simp [hm, ih]
   rw [List.filter_cons_of_pos (by simp; omega)]
theorem cut_high : ∀ (es : List (Nat × Dig)) (mid : Nat), es.Pairwise (fun a b => a.1 < b.1) → es.drop (es.findIdx fun e => decide (mid ≤ e.1)) = es.filter fun e => decide (mid ≤ e.1)
 | [], _, _ => rfl
 | e :: es, mid, h => by
  obtain ⟨h1, h2⟩ := List.pairwise_cons.1 h
  rw [List.findIdx_cons]
  by_cases hm : mid ≤ e.1
  ·have : ∀ x ∈ e :: es, decide (mid ≤ x.1) = true := fun x hx => by
    rcases List.mem_cons.1 hx with rfl | hx
    ·simp; omega
    ·have := h1 x hx; simp; omega
   rw [List.filter_eq_self.2 this]
   simp [hm]
  ·have ih := cut_high es mid h2
   simp [hm, ih]
theorem mRoot_empty (b frm : Nat) : Jy (Hq []) b frm = GM := mRoot_zero (fun _ _ _ => rfl)
theorem mRoot_halves (es : List (Nat × Dig)) (b frm : Nat) : Jy (Hq es) (b + 1) frm = Nf (Jy (Hq (es.filter fun e => decide (e.1 < frm + 2 ^ b))) b frm) (Jy (Hq (es.filter fun e => decide (frm + 2 ^ b ≤ e.1))) b (frm + 2 ^ b)) := by
 rw [mRoot_s]
 congr 1
 ·exact Mu b frm (fun k h1 h2 => (MR es (fun x => decide (x < frm + 2 ^ b)) (decide_eq_true h2)).symm)
 ·exact Mu b _ (fun k h1 h2 => (MR es (fun x => decide (frm + 2 ^ b ≤ x)) (decide_eq_true h1)).symm)
end Go.Proofs.YtaebeemnipafbaaGreatDoor
