/-
  Proved here: the reference's words of a block and its state, as rows of numbers. No program in sight.
-/
import Derived.Test.YtaebeemnipafbaaGreatDoorRefWord
import Derived.Test.YtaebeemnipafbaaGreatDoorRefPlain
import Derived.Test.YtaebeemnipafbaaGreatDoorShaSpec
import Derived.Test.YtaebeemnipafbaaGreatDoorSq
set_option linter.unusedSimpArgs false
set_option linter.unusedVariables false
set_option maxRecDepth 100000
set_option maxHeartbeats 200000000
namespace Go.Proofs.YtaebeemnipafbaaGreatDoor
def S8.ints (s : S8) : List Value := [iW s.a, iW s.b, iW s.c, iW s.d, iW s.e, iW s.f, iW s.g, iW s.h]
theorem S8.ints_at (s : S8) (k : Nat) (h : k < 8) : s.ints[k]? = some (iW (s.get k)) := by
 match k, h with
 | 0, _ => rfl
 | 1, _ => rfl
 | 2, _ => rfl
 | 3, _ => rfl
 | 4, _ => rfl
 | 5, _ => rfl
 | 6, _ => rfl
 | 7, _ => rfl
def wRow (b : List UInt8) (n : Nat) : List Value := (JD b n).map iW ++ List.replicate (64 - n) (.int .i64 0)
theorem wRow_start (b : List UInt8) : wRow b 0 = List.replicate 64 (.int .i64 0) := by simp [wRow, JD]
theorem wRow_set (b : List UInt8) (k : Nat) (hk : k < 64) (x : Wd) (hx : JD b (k + 1) = JD b k ++ [x]) : (wRow b k).set k (iW x) = wRow b (k + 1) := by
 unfold wRow
 rw [hx, show 64 - k = (64 - (k + 1)) + 1 by omega, List.replicate_succ, List.set_append, if_neg (by simp [Ks])]
 simp [Ks]
theorem wRow_at (b : List UInt8) (n k : Nat) (hk : k < n) : (wRow b n)[k]? = some (iW ((JD b n).getD k zW)) := by
 have hl := Ks b n
 have h1 : k < (JD b n).length := by omega
 simp [wRow, List.getElem?_append, hl, hk]
theorem natE_word (b : List UInt8) (t : Nat) (h : 4 * t + 4 ≤ b.length) : natE ((b.drop (4 * t)).take 4) = (word b t).n := by
 have e : (b.drop (4 * t)).take 4 = [b.getD (4 * t) 0, b.getD (4 * t + 1) 0, b.getD (4 * t + 2) 0, b.getD (4 * t + 3) 0] := by
  apply List.ext_getElem?
  intro i
  rw [List.getElem?_take, List.getElem?_drop]
  match i with
  | 0 => simp [List.getElem?_eq_getElem (show 4 * t < b.length by omega)]
  | 1 => simp [List.getElem?_eq_getElem (show 4 * t + 1 < b.length by omega)]
  | 2 => simp [List.getElem?_eq_getElem (show 4 * t + 2 < b.length by omega)]
  | 3 => simp [List.getElem?_eq_getElem (show 4 * t + 3 < b.length by omega)]
  | i + 4 => simp; omega
 rw [e]
 have h0 := UInt8.toNat_lt (b.getD (4 * t) 0)
 have h1 := UInt8.toNat_lt (b.getD (4 * t + 1) 0)
 have h2 := UInt8.toNat_lt (b.getD (4 * t + 2) 0)
 have h3 := UInt8.toNat_lt (b.getD (4 * t + 3) 0)
 simp only [natE, List.foldl_cons, List.foldl_nil, Nat.zero_mul, Nat.zero_add]
 show _ = ((((_ <<< 24) % 4294967296) ||| ((_ <<< 16) % 4294967296)) ||| ((_ <<< 8) % 4294967296)) ||| _
 simp only [Wd.ofByte]
 generalize (b.getD (4 * t) 0).toNat = x0 at *
 generalize (b.getD (4 * t + 1) 0).toNat = x1 at *
 generalize (b.getD (4 * t + 2) 0).toNat = x2 at *
 generalize (b.getD (4 * t + 3) 0).toNat = x3 at *
 have or_of : ∀ (hi lo : Nat) (k p : Nat), p = 2 ^ k → lo < p → (hi * p) ||| lo = hi * p + lo := by
  intro hi lo k p hp hlo
  subst hp
  have := Nat.shiftLeft_add_eq_or_of_lt hlo hi
  rw [Nat.shiftLeft_eq] at this
  exact this.symm
 rw [Nat.shiftLeft_eq, Nat.shiftLeft_eq, Nat.shiftLeft_eq, show (2 : Nat) ^ 24 = 16777216 from rfl, show (2 : Nat) ^ 16 = 65536 from rfl, show (2 : Nat) ^ 8 = 256 from rfl, Nat.mod_eq_of_lt (by omega), Nat.mod_eq_of_lt (by omega), Nat.mod_eq_of_lt (by omega)]
 have a1 := or_of x0 (x1 * 65536) 24 16777216 rfl (by omega)
 have a2 := or_of (x0 * 256 + x1) (x2 * 256) 16 65536 rfl (by omega)
 have a3 := or_of (x0 * 65536 + x1 * 256 + x2) x3 8 256 rfl (by omega)
 clear h0 h1 h2 h3 or_of
 have e2 : (x0 * 256 + x1) * 65536 = x0 * 16777216 + x1 * 65536 := by omega
 have e3 : (x0 * 65536 + x1 * 256 + x2) * 256 = x0 * 16777216 + x1 * 65536 + x2 * 256 := by rw [Nat.add_mul, Nat.add_mul, Nat.mul_assoc, Nat.mul_assoc]
 rw [e2] at a2
 rw [e3] at a3
 rw [a1, a2, a3]
 clear a1 a2 a3 e2 e3
 omega
theorem iw_sum4 (a b c d : Wd) : bits .and .i64 ((a.n : Int) + (b.n : Int) + (c.n : Int) + (d.n : Int)) 4294967295 = ((((a.add b).add c).add d).n : Int) := by
 have ha := a.h
 have hb := b.h
 have hc := c.h
 have hd := d.h
 have := iw_mask (a.n + b.n + c.n + d.n) (by omega)
 rw [show (a.n : Int) + (b.n : Int) + (c.n : Int) + (d.n : Int) = ((a.n + b.n + c.n + d.n : Nat) : Int) by omega, this]
 show (((a.n + b.n + c.n + d.n) % 4294967296 : Nat) : Int) = (((((a.n + b.n) % 4294967296 + c.n) % 4294967296 + d.n) % 4294967296 : Nat) : Int)
 omega
theorem iw_sum2 (a b : Wd) : bits .and .i64 ((a.n : Int) + (b.n : Int)) 4294967295 = ((a.add b).n : Int) := by
 have ha := a.h
 have hb := b.h
 have := iw_mask (a.n + b.n) (by omega)
 rw [show (a.n : Int) + (b.n : Int) = ((a.n + b.n : Nat) : Int) by omega, this]
 rfl
theorem S8.ints_one (s : S8) : ∀ u ∈ s.ints, u.oneCell' = true := by
 intro u hu
 simp only [S8.ints, List.mem_cons, List.not_mem_nil, or_false] at hu
 rcases hu with rfl | rfl | rfl | rfl | rfl | rfl | rfl | rfl <;> rfl
def tableI : List Value := Pw.map fun (n : Nat) => Value.int .i64 (n : Int)
theorem tableI_at (t : Nat) (ht : t < 64) : tableI[t]? = some (iW (tbl t)) := by
 have hl : Pw.length = 64 := rfl
 have hs : ∀ x ∈ Pw, x < 4294967296 := by decide
 have hx := hs (Pw[t]'(by omega)) (List.getElem_mem _)
 simp only [tableI, List.getElem?_map, List.getElem?_eq_getElem (show t < Pw.length by omega), Option.map_some, iW, tbl, Wd.mk', List.getD_eq_getElem?_getD, Option.getD_some, Nat.mod_eq_of_lt hx]
def shV (v : S8) (i : Nat) : List Value := (List.range 8).map fun p => iW (v.get (if p ≤ i then p else p - 1))
theorem shV_at (v : S8) (i : Nat) (hi : i < 7) : (shV v (i + 1))[i]? = some (iW (v.get i)) := by
 simp [shV, show i < 8 by omega]
theorem shV_set (v : S8) (i : Nat) (hi : i < 7) : (shV v (i + 1)).set (i + 1) (iW (v.get i)) = shV v i := by
 match i, hi with
 | 0, _ => rfl
 | 1, _ => rfl
 | 2, _ => rfl
 | 3, _ => rfl
 | 4, _ => rfl
 | 5, _ => rfl
 | 6, _ => rfl
theorem shV_4 (v : S8) : (shV v 0)[4]? = some (iW v.d) := rfl
theorem iw_sumN (d p : Wd) (n : Nat) (hn : n ≤ 42949672960) (h : Wd.mk' n = p) : bits .and .i64 ((d.n : Int) + (n : Int)) 4294967295 = ((d.add p).n : Int) := by
 have hd := d.h
 subst h
 have := iw_mask (d.n + n) (by omega)
 rw [show (d.n : Int) + (n : Int) = ((d.n + n : Nat) : Int) by omega, this]
 show (((d.n + n) % 4294967296 : Nat) : Int) = (((d.n + n % 4294967296) % 4294967296 : Nat) : Int)
 omega
theorem iw_sumM (p q : Wd) (m n : Nat) (hm : m ≤ 42949672960) (hn : n ≤ 42949672960) (h1 : Wd.mk' m = p) (h : Wd.mk' n = q) : bits .and .i64 ((m : Int) + (n : Int)) 4294967295 = ((p.add q).n : Int) := by
 subst h h1
 have := iw_mask (m + n) (by omega)
 rw [show (m : Int) + (n : Int) = ((m + n : Nat) : Int) by omega, this]
 show (((m + n) % 4294967296 : Nat) : Int) = (((m % 4294967296 + n % 4294967296) % 4294967296 : Nat) : Int)
 omega
theorem sum5 (a b c d e : Wd) : ∃ n : Nat, (a.n : Int) + (b.n : Int) + (c.n : Int) + (d.n : Int) + (e.n : Int) = (n : Int) ∧ n ≤ 42949672960 ∧ Wd.mk' n = ((((a.add b).add c).add d).add e) := by
 have ha := a.h
 have hb := b.h
 have hc := c.h
 have hd := d.h
 have he := e.h
 refine ⟨a.n + b.n + c.n + d.n + e.n, by omega, by omega, Wd.ext' ?_⟩
 show (a.n + b.n + c.n + d.n + e.n) % 4294967296 = ((((a.n + b.n) % 4294967296 + c.n) % 4294967296 + d.n) % 4294967296 + e.n) % 4294967296
 omega
theorem sum2 (a b : Wd) : ∃ n : Nat, (a.n : Int) + (b.n : Int) = (n : Int) ∧ n ≤ 42949672960 ∧ Wd.mk' n = a.add b := by
 have ha := a.h
 have hb := b.h
 exact ⟨a.n + b.n, by omega, by omega, rfl⟩
def addV (v s : S8) (i : Nat) : List Value := (List.range 8).map fun p => iW (if p < i then (v.get p).add (s.get p) else v.get p)
theorem addV_end (v s : S8) : addV v s 8 = (v.add s).ints := rfl
theorem addV_at (v s : S8) (i : Nat) (hi : i < 8) : (addV v s i)[i]? = some (iW (v.get i)) := by
 simp [addV, hi]
theorem addV_set (v s : S8) (i : Nat) (hi : i < 8) : (addV v s i).set i (iW ((v.get i).add (s.get i))) = addV v s (i + 1) := by
 match i, hi with
 | 0, _ => rfl
 | 1, _ => rfl
 | 2, _ => rfl
 | 3, _ => rfl
 | 4, _ => rfl
 | 5, _ => rfl
 | 6, _ => rfl
 | 7, _ => rfl
end Go.Proofs.YtaebeemnipafbaaGreatDoor
