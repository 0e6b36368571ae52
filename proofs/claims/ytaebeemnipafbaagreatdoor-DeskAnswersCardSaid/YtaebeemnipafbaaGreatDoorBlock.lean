/-
  Proved here: the contract of the program's function that takes one block of 64 bytes into a state.
-/
import Derived.Test.YtaebeemnipafbaaGreatDoorRot
import Derived.Test.YtaebeemnipafbaaGreatDoorShaSpec
import Derived.Test.YtaebeemnipafbaaGreatDoorBuild
import Derived.BigQuiet
import Derived.Deep.QuietTactic
import Derived.StillTailTactics
import Derived.Test.YtaebeemnipafbaaGreatDoorSq
set_option linter.unusedSimpArgs false
set_option linter.unusedVariables false
set_option maxRecDepth 100000
set_option maxHeartbeats 200000000
namespace Go.Proofs.YtaebeemnipafbaaGreatDoor
open Go.RowKit
def KX (n : Nat) : List Value := List.replicate n (.int .u32 0)
theorem elS : GW Tryz.prog 198 (.agg (KX 8).toArray) 8 32 := by unfold GW; kernel_rfl
theorem elS8 : GW Tryz.prog 198 (.agg #[.int .u32 0, .int .u32 0, .int .u32 0, .int .u32 0, .int .u32 0, .int .u32 0, .int .u32 0, .int .u32 0]) 8 32 := by unfold GW; kernel_rfl
theorem el64 : GW Tryz.prog 225 (.agg (KX 64).toArray) 64 256 := by unfold GW; kernel_rfl
theorem el32 : GW Tryz.prog 196 (.int .u32 0) 1 4 := by unfold GW; kernel_rfl
theorem S8.size (s : S8) : s.arr.size = 8 := rfl
theorem zeros8 : (KX 8).toArray.size = 8 := rfl
theorem S8.one (s : S8) : s.arr.all (·.oneCell') = true := by
 refine Array.all_eq_true_iff_forall_mem.2 (fun v hv => ?_)
 simp only [S8.arr, List.mem_toArray, List.mem_cons, List.not_mem_nil, or_false] at hv
 rcases hv with rfl | rfl | rfl | rfl | rfl | rfl | rfl | rfl <;> rfl
def Tb (W : World) : Prop := ∃ t fr, W.heap[1]? = some (.cells tblArr t fr)
theorem Tb.lt {W : World} (h : Tb W) : 1 < W.heap.size := by
 obtain ⟨t, fr, h⟩ := h
 exact (Array.getElem?_eq_some_iff.1 h).1
theorem Tb.of {w0 W : World} {L : List Res} (h : Tb w0) (Ga : St w0 W L) : Tb W := by
 have hl := h.lt
 obtain ⟨t, fr, h⟩ := h
 exact ⟨t, fr, (Ga.below.block _ hl).trans h⟩
def wordsV (l : List Wd) : List Value := l.map wV
def Nd (b : List UInt8) (n : Nat) : Array Value := (wordsV (JD b n) ++ KX (64 - n)).toArray
theorem size_wCells (b : List UInt8) (n : Nat) (h : n ≤ 64) : (Nd b n).size = 64 := by
 simp only [Nd, List.size_toArray, List.length_append, wordsV, List.length_map, Ks, KX, List.length_replicate]
 omega
theorem wCells_set (b : List UInt8) (k : Nat) (hk : k < 64) (x : Wd) (hx : JD b (k + 1) = JD b k ++ [x]) : (Nd b k).setIfInBounds k (wV x) = Nd b (k + 1) := by
 have hl : (wordsV (JD b k)).length = k := by simp only [wordsV, List.length_map, Ks]
 have hz : KX (64 - k) = .int .u32 0 :: KX (64 - (k + 1)) := by
  unfold KX
  rw [show 64 - k = (64 - (k + 1)) + 1 by omega, List.replicate_succ]
 unfold Nd
 rw [hz, hx]
 apply Array.ext'
 simp only [Array.toList_setIfInBounds]
 rw [List.set_append, if_neg (by omega), hl, Nat.sub_self, List.set_cons_zero]
 simp [wordsV]
theorem wCells_get (b : List UInt8) (n k : Nat) (hk : k < n) : (Nd b n)[k]? = some (wV ((JD b n).getD k zW)) := by
 have hl := Ks b n
 have h1 : k < (JD b n).length := by omega
 simp [Nd, wordsV, List.getElem?_append, hl, hk]
theorem w_cell {W : World} {g t : Nat} {b : List UInt8} {n : Nat} {fr : Nat × Nat} (hg : W.heap[g]? = some (.cells (Nd b n) t fr)) (k : Nat) (hk : k < n) : W.cell? ⟨g, k, none⟩ = some (.int .u32 (((JD b n).getD k zW).n : Int)) := by
 rw [cell_of_row _ _ _ _ _ _ hg]
 exact wCells_get b n k hk
theorem byte_cell {W : World} {bb oo : Nat} {b : List UInt8} (h : W.rangeAt bb oo (GK b)) (j : Nat) (hj : j < b.length) : W.cell? ⟨bb, oo + j, none⟩ = some (.int .u8 ((b.getD j 0).toNat : Int)) :=
 h j _ (by simp [GK, hj, JC])
theorem cast_byte (x : UInt8) : IntKind.u32.wrap (x.toNat : Int) = ((Wd.ofByte x).n : Int) := by
 have := UInt8.toNat_lt x
 rw [IntKind.wrap_u32]
 show _ = ((x.toNat : Nat) : Int)
 omega
theorem shl_byte (x : UInt8) (c : Nat) : IntKind.u32.wrap (IntKind.u32.wrap (x.toNat : Int) * ((2 ^ c : Nat) : Int)) = (((Wd.ofByte x).shl c).n : Int) := by
 rw [cast_byte, IntKind.wrap_u32]
 show _ = ((((Wd.ofByte x).n <<< c) % 4294967296 : Nat) : Int)
 rw [Nat.shiftLeft_eq]
 simp
theorem rnd_arr (v : S8) (k w : Wd) : (rnd v k w).arr = #[.int .u32 ((((((v.h.add (v.e.turned 6 11 25)).add ((v.e.and v.f).xor (v.e.not.and v.g))).add k).add w).add ((v.a.turned 2 13 22).add (((v.a.and v.b).xor (v.a.and v.c)).xor (v.b.and v.c)))).n : Int),
  .int .u32 (v.a.n : Int), .int .u32 (v.b.n : Int), .int .u32 (v.c.n : Int), .int .u32 ((v.d.add ((((v.h.add (v.e.turned 6 11 25)).add ((v.e.and v.f).xor (v.e.not.and v.g))).add k).add w)).n : Int), .int .u32 (v.e.n : Int), .int .u32 (v.f.n : Int), .int .u32 (v.g.n : Int)] := rfl
theorem v_cells {W : World} {g t : Nat} {v : S8} {fr : Nat × Nat} (hg : W.heap[g]? = some (.cells v.arr t fr)) :
  W.cell? ⟨g, 0, none⟩ = some (.int .u32 (v.a.n : Int)) ∧ W.cell? ⟨g, 1, none⟩ = some (.int .u32 (v.b.n : Int)) ∧ W.cell? ⟨g, 2, none⟩ = some (.int .u32 (v.c.n : Int)) ∧ W.cell? ⟨g, 3, none⟩ = some (.int .u32 (v.d.n : Int)) ∧
  W.cell? ⟨g, 4, none⟩ = some (.int .u32 (v.e.n : Int)) ∧ W.cell? ⟨g, 5, none⟩ = some (.int .u32 (v.f.n : Int)) ∧ W.cell? ⟨g, 6, none⟩ = some (.int .u32 (v.g.n : Int)) ∧ W.cell? ⟨g, 7, none⟩ = some (.int .u32 (v.h.n : Int)) := by
 refine ⟨?_, ?_, ?_, ?_, ?_, ?_, ?_, ?_⟩ <;> (rw [cell_of_row _ _ _ _ _ _ hg]; rfl)
def Nv (v s : S8) (k : Nat) : Array Value := ((List.range 8).map fun i => wV (if i < k then (v.get i).add (s.get i) else v.get i)).toArray
theorem mixArr_zero (v s : S8) : v.arr = Nv v s 0 := rfl
theorem mixArr_get (v s : S8) (k i : Nat) (hi : i < 8) : (Nv v s k)[i]? = some (wV (if i < k then (v.get i).add (s.get i) else v.get i)) := by
 simp [Nv, hi]
theorem mixArr_set (v s : S8) (k : Nat) (hk : k < 8) : (Nv v s k).setIfInBounds k (wV ((v.get k).add (s.get k))) = Nv v s (k + 1) := by
 have hsz : ∀ j, (Nv v s j).size = 8 := fun j => by simp [Nv]
 apply Array.ext_getElem?
 intro i
 rw [Array.getElem?_setIfInBounds, hsz]
 by_cases hi : i < 8
 ·rw [mixArr_get v s (k + 1) i hi]
  by_cases hik : k = i
  ·subst hik; simp [hk]
  ·rw [if_neg hik, mixArr_get v s k i hi]
   by_cases h1 : i < k
   ·simp [h1, show i < k + 1 by omega]
   ·simp [h1, show ¬ i < k + 1 by omega]
 ·have e1 : ∀ j, (Nv v s j)[i]? = none := fun j => Array.getElem?_eq_none (by rw [hsz]; omega)
  rw [e1, e1]
  split <;> simp_all
theorem tbl_get (k : Nat) (hk : k < 64) : tblArr[k]? = some (.int .u32 ((tbl k).n : Int)) := by
 have h : ∀ k : Fin 64, tblArr[k.1]? = some (.int .u32 ((tbl k.1).n : Int)) := by
  intro k
  have hl : Pw.length = 64 := by decide
  have hlt : ∀ n ∈ Pw, n < 4294967296 := by decide
  have hk : k.1 < Pw.length := by omega
  have := hlt _ (List.getElem_mem hk)
  simp only [tblArr, tbl, Wd.mk', List.getElem?_toArray, List.getElem?_map, List.getElem?_eq_getElem hk, Option.map_some, List.getD_eq_getElem?_getD, Option.getD_some, Nat.mod_eq_of_lt this]
 exact h ⟨k, hk⟩
theorem quiet_eq2 {P : Program} {f : FuncId} {args : Array Value} {w : World} {a n : Nat} {v : Value}
  (h : Calls P f args (w.drewN (a + n)) fun e w' => e = .returned v ∧ w.drewN (a + n) = w') : Calls P f args (w.drewN (a + n)) fun e w'' => e = .returned v ∧ ∃ m, w'' = w.drewN (a + m) :=
 h.mono fun _ _ ⟨he, hm⟩ => ⟨he, n, hm.symm⟩
theorem block_any (s : S8) (A : Option Addr) (n c : Nat) (b : List UInt8) (w : World) (hT : Tb w) (hr : SlR w A n c 1 (GK b)) (hn0 : 64 ≤ n) :
  Calls Tryz.prog 128 #[.agg s.arr, .slice A n c] w fun e w' => e = .returned (.agg (Nc s b).arr) ∧ St w w' [] := by
 have Ga := St.refl w
 have HT : Hid (∃ t fr, ∀ W L, St w W L → W.heap[1]? = some (.cells tblArr t fr)) := by
  have hl := hT.lt
  obtain ⟨t, fr, h⟩ := hT
  exact ⟨t, fr, fun W L hW => (hW.below.block _ hl).trans h⟩
 obtain ⟨tt, tfr, HT⟩ := HT
 have HT := Lib.hid HT
 clear hT
 obtain ⟨hlen0, hnc0, hcm0, hex⟩ := hr
 obtain ⟨bb, oo, rfl, hra0⟩ := hex (by omega)
 rw [G7, Nat.mul_one] at hlen0
 have hbb : bb < w.heap.size := rangeAt_lt hra0 (by intro e; have := G7 b; rw [e] at this; simp at this; omega)
 have hra := Gg hra0
 have hcm : (c : Int) ≤ 9223372036854775807 := by simp only [maxLen] at hcm0; omega
 have hnc : (n : Int) ≤ (c : Int) := by omega
 have hn : (64 : Int) ≤ (n : Int) := by omega
 have hlen : 64 ≤ b.length := by omega
 clear hlen0 hnc0 hcm0 hra0 hn0 hex
 go_enter Tryz.func128, Tryz.ntmps128
 go_wp2_with (first | (refine GB (.box 198 (.tmp 0)) rfl ?_; refine wpl_boxAgg rfl Ga 198 (.tmp 0) rfl (cs := s.arr) (by rfl) ?_; clear Ga; intro gs W1 Ga) | (refine GB (.alloc 198) rfl ?_; refine Pd rfl Ga 198 rfl elS ?_; clear Ga; intro gr W2 Ga) | (refine GB (.alloc 225) rfl ?_; refine Pd rfl Ga 225 rfl el64 ?_; clear Ga; intro gw W3 Ga))
 go_loopw [20] (fun i wr => ∃ k : Nat, k ≤ 16 ∧ i = .int .i64 k ∧ St w wr [.blk gw 225 (Nd b k), .blk gr 198 (KX 8).toArray, .blk gs 198 s.arr])
  (fun i _ => 16 - (intOf i).toNat)
 case atStart => exact ⟨0, by omega, rfl, Ga⟩
 case round =>
  clear Ga
  obtain ⟨k, hk, rfl, Ga⟩ := hrel
  by_cases hlt : k < 16
  ·as_aux_lemma =>
    have hrw := Ns hra.out (Ga.below.block bb hbb)
    have c0 := byte_cell hrw (4 * k) (by omega)
    have c1 := byte_cell hrw (4 * k + 1) (by omega)
    have c2 := byte_cell hrw (4 * k + 2) (by omega)
    have c3 := byte_cell hrw (4 * k + 3) (by omega)
    have hsc := Gg (show JD b (k + 1) = JD b k ++ [word b k] by rw [JD, if_pos hlt])
    have hw := Gg (show word b k = ((((Wd.ofByte (b.getD (4 * k) 0)).shl 24).or ((Wd.ofByte (b.getD (4 * k + 1) 0)).shl 16)).or ((Wd.ofByte (b.getD (4 * k + 2) 0)).shl 8)).or (Wd.ofByte (b.getD (4 * k + 3) 0)) from rfl)
    clear hrw
    have w1 : IntKind.i64.wrap (4 * (k : Int)) = 4 * k := IntWalk.i64_in _ (by omega)
    have w2 : IntKind.i64.wrap (4 * (k : Int) + 1) = 4 * k + 1 := IntWalk.i64_in _ (by omega)
    have w3 : IntKind.i64.wrap (4 * (k : Int) + 2) = 4 * k + 2 := IntWalk.i64_in _ (by omega)
    have w4 : IntKind.i64.wrap (4 * (k : Int) + 3) = 4 * k + 3 := IntWalk.i64_in _ (by omega)
    have n1 : (4 * (k : Int)).toNat = 4 * k := by omega
    have n2 : (4 * (k : Int) + 1).toNat = 4 * k + 1 := by omega
    have n3 : (4 * (k : Int) + 2).toNat = 4 * k + 2 := by omega
    have n4 : (4 * (k : Int) + 3).toNat = 4 * k + 3 := by omega
    have b1 : (0 : Int) ≤ 4 * (k : Int) := by omega
    have b2 : 4 * (k : Int) < n := by omega
    have b3 : (0 : Int) ≤ 4 * (k : Int) + 1 := by omega
    have b4 : 4 * (k : Int) + 1 < n := by omega
    have b5 : (0 : Int) ≤ 4 * (k : Int) + 2 := by omega
    have b6 : 4 * (k : Int) + 2 < n := by omega
    have b7 : (0 : Int) ≤ 4 * (k : Int) + 3 := by omega
    have b8 : 4 * (k : Int) + 3 < n := by omega
    have t1 := UInt8.toNat_lt (b.getD (4 * k) 0)
    have t2 := UInt8.toNat_lt (b.getD (4 * k + 1) 0)
    have t3 := UInt8.toNat_lt (b.getD (4 * k + 2) 0)
    have t4 := UInt8.toNat_lt (b.getD (4 * k + 3) 0)
    generalize b.getD (4 * k) 0 = x0 at *
    generalize b.getD (4 * k + 1) 0 = x1 at *
    generalize b.getD (4 * k + 2) 0 = x2 at *
    generalize b.getD (4 * k + 3) 0 = x3 at *
    have e0 : IntKind.u32.wrap (IntKind.u32.wrap (x0.toNat : Int) * 16777216) = (((Wd.ofByte x0).shl 24).n : Int) := shl_byte x0 24
    have e1 : IntKind.u32.wrap (IntKind.u32.wrap (x1.toNat : Int) * 65536) = (((Wd.ofByte x1).shl 16).n : Int) := shl_byte x1 16
    have e2 : IntKind.u32.wrap (IntKind.u32.wrap (x2.toNat : Int) * 256) = (((Wd.ofByte x2).shl 8).n : Int) := shl_byte x2 8
    have e3 : IntKind.u32.wrap (x3.toNat : Int) = ((Wd.ofByte x3).n : Int) := cast_byte x3
    have hor := wd_or
    go_wp2_with fail
    go_still_tail 34, (by kernel_rfl)
    replace Ga := Ga.drew
    have hsz := Gg (size_wCells b k (by omega))
    have Hset := Gg (wCells_set b k (by omega) (word b k) hsc.out)
    clear c0 c1 c2 c3 w1 w2 w3 w4 n1 n2 n3 n4 b1 b2 b3 b4 b5 b6 b7 b8 e0 e1 e2 e3 hor t1 t2 t3 t4
    go_wp2_with (refine GB (.store 196 (.tmp 57) (.tmp 56)) rfl ?_; refine wpl_store1 rfl Ga 196 (.tmp 57) (.tmp 56) rfl (by rfl) (v := wV (word b k)) (by rw [wV, hw.out]; rfl) rfl el32.size 0 rfl (by rw [hsz.out]; omega) ?_; clear Ga; intro W4 Ga)
    go_roundw
    case rel => exact ⟨k + 1, by omega, by go_num, by rw [← Hset.out]; exact Ga⟩
    case measure => simp [intOf]; omega
  ·obtain rfl : k = 16 := by omega
   rw [show ((16 : Nat) : Int) = 16 from rfl]
   go_wp2_with fail
   go_loopw [7] (fun i wr => ∃ k : Nat, 16 ≤ k ∧ k ≤ 64 ∧ i = .int .i64 k ∧ St w wr [.blk gw 225 (Nd b k), .blk gr 198 (KX 8).toArray, .blk gs 198 s.arr])
    (fun i _ => 64 - (intOf i).toNat)
   case atStart => exact ⟨16, by omega, by omega, rfl, Ga⟩
   case round =>
    clear Ga hk hlt
    obtain ⟨k, hk1, hk, rfl, Ga⟩ := hrel
    by_cases hlt : k < 64
    ·as_aux_lemma =>
      have c2 := w_cell (Ga.get 0 rfl) (k - 2) (by omega)
      have c15 := w_cell (Ga.get 0 rfl) (k - 15) (by omega)
      have h7 := fun nq => w_cell ((Ga.drewN nq).get 0 rfl) (k - 7) (by omega)
      have h16 := fun nq => w_cell ((Ga.drewN nq).get 0 rfl) (k - 16) (by omega)
      have hsc := Gg (show JD b (k + 1) = JD b k ++ [nextW (JD b k)] by rw [JD, if_neg (by omega)])
      have hnw := Gg (show nextW (JD b k) = (((sig1 ((JD b k).getD (k - 2) zW)).add ((JD b k).getD (k - 7) zW)).add (sig0 ((JD b k).getD (k - 15) zW))).add ((JD b k).getD (k - 16) zW) by rw [nextW, Ks])
      generalize (JD b k).getD (k - 2) zW = x2 at *
      generalize (JD b k).getD (k - 7) zW = x7 at *
      generalize (JD b k).getD (k - 15) zW = x15 at *
      generalize (JD b k).getD (k - 16) zW = x16 at *
      have w2 : IntKind.i64.wrap ((k : Int) - 2) = k - 2 := IntWalk.i64_in _ (by omega)
      have w7 : IntKind.i64.wrap ((k : Int) - 7) = k - 7 := IntWalk.i64_in _ (by omega)
      have w15 : IntKind.i64.wrap ((k : Int) - 15) = k - 15 := IntWalk.i64_in _ (by omega)
      have w16 : IntKind.i64.wrap ((k : Int) - 16) = k - 16 := IntWalk.i64_in _ (by omega)
      have n2 : ((k : Int) - 2).toNat = k - 2 := by omega
      have n7 : ((k : Int) - 7).toNat = k - 7 := by omega
      have n15 : ((k : Int) - 15).toNat = k - 15 := by omega
      have n16 : ((k : Int) - 16).toNat = k - 16 := by omega
      have b2 : (2 : Int) ≤ (k : Int) := by omega
      have b7 : (7 : Int) ≤ (k : Int) := by omega
      have b15 : (15 : Int) ≤ (k : Int) := by omega
      have b16 : (16 : Int) ≤ (k : Int) := by omega
      have d2 : (k : Int) - 2 < 64 := by omega
      have d7 : (k : Int) - 7 < 64 := by omega
      have d15 : (k : Int) - 15 < 64 := by omega
      have d16 : (k : Int) - 16 < 64 := by omega
      have hx := wd_xor
      have ha := wd_add
      have s3 : (x15.n : Int) / 8 = ((x15.shr 3).n : Int) := wd_shr_int x15 3
      have s10 : (x2.n : Int) / 1024 = ((x2.shr 10).n : Int) := wd_shr_int x2 10
      have h7 := Gg h7
      have h16 := Gg h16
      go_wp2_with fail
      go_quiet (fail)
      have c7 := h7.out nq
      have c16 := h16.out nq
      replace Ga := Ga.drewN nq
      clear h7 h16 c2 c15
      generalize wr.drewN nq = W4 at *
      go_wp2_with fail
      refine (rot_any x15 7 (by omega) (by omega) _).mono ?_
      rintro e w' ⟨rfl, rfl⟩
      go_wp2_with fail
      refine (rot_any x15 18 (by omega) (by omega) _).mono ?_
      rintro e w' ⟨rfl, rfl⟩
      go_wp2_with fail
      refine (rot_any x2 17 (by omega) (by omega) _).mono ?_
      rintro e w' ⟨rfl, rfl⟩
      go_wp2_with fail
      refine (rot_any x2 19 (by omega) (by omega) _).mono ?_
      rintro e w' ⟨rfl, rfl⟩
      go_wp2_with fail
      go_still_tail 14, (by kernel_rfl)
      replace Ga := Ga.drew
      have hsz := Gg (size_wCells b k (by omega))
      have Hset := Gg (wCells_set b k (by omega) (nextW (JD b k)) hsc.out)
      clear c7 c16 w2 w7 w15 w16 n2 n7 n15 n16 b2 b7 b15 b16 d2 d7 d15 d16 hx ha s3 s10
      go_wp2_with (refine GB (.store 196 (.tmp 101) (.tmp 100)) rfl ?_; refine wpl_store1 rfl Ga 196 (.tmp 101) (.tmp 100) rfl (by rfl) (v := wV (nextW (JD b k))) (by rw [wV, hnw.out]; rfl) rfl el32.size 0 rfl (by rw [hsz.out]; omega) ?_; clear Ga; intro W5 Ga)
      go_roundw
      case rel => exact ⟨k + 1, by omega, by omega, by go_num, by rw [← Hset.out]; exact Ga⟩
      case measure => simp [intOf]; omega
    ·obtain rfl : k = 64 := by omega
     rw [show ((64 : Nat) : Int) = 64 from rfl]
     have hs8 : (Tryz.prog.info? 198).map (·.size) = some s.arr.size := by rw [elS.size]; rfl
     have HS8 := Gg hs8
     have Hone := Gg (S8.one s)
     clear hs8
     generalize hsa : s.arr = sa at *
     have Hsa := Gg hsa
     clear hsa
     have Hz := Gg (show (KX 8).toArray.size = sa.size by rw [← Hsa.out]; rfl)
     go_wp2_with (first | (refine GB (.load 198 (.tmp 2)) rfl ?_; refine wpl_loadRow rfl 198 (.tmp 2) rfl (by rfl) uz198 rfl (cs := sa) HS8.out (Ga.get 2 rfl) ?_) | (refine GB (.alloc 198) rfl ?_; refine Pd rfl Ga 198 rfl elS ?_; clear Ga; intro gv W6 Ga) | (refine GB (.store 198 (.tmp 12) (.tmp 102)) rfl ?_; refine Pe rfl Ga 198 (.tmp 12) (.tmp 102) rfl (by rfl) (cells := sa) (by rfl) Hone.out HS8.out 0 rfl Hz.out ?_; clear Ga; intro W7 Ga) | (refine GB (.load 225 (.global 1)) rfl ?_; refine wpl_loadRow rfl 225 (.global 1) rfl (by rfl) uz225 rfl (cs := tblArr) el64.size (HT.out _ _ Ga) ?_))
     have hst0 : St w W7 [.blk gv 198 (rounds b s 0).arr, .blk gw 225 (Nd b 64), .blk gs 198 s.arr, .blk gr 198 (KX 8).toArray] := by
      rw [← Hsa.out] at Ga
      exact Ga.perm (by simp only [List.set_cons_zero, rounds]; exact (List.Perm.refl _ |>.cons _ |>.cons _ |>.trans (((List.Perm.swap _ _ _).cons _).cons _)))
     clear Ga
     go_loopw [104] (fun i wr => ∃ k : Nat, k ≤ 64 ∧ i = .int .i64 k ∧ St w wr [.blk gv 198 (rounds b s k).arr, .blk gw 225 (Nd b 64), .blk gs 198 s.arr, .blk gr 198 (KX 8).toArray])
      (fun i _ => 64 - (intOf i).toNat)
     case atStart => exact ⟨0, by omega, rfl, hst0⟩
     case round =>
      clear hst0 hk hlt hk1
      obtain ⟨k, hk, rfl, Ga⟩ := hrel
      by_cases hlt : k < 64
      ·as_aux_lemma =>
        obtain ⟨c0, c1, c2, c3, c4, c5, c6, c7⟩ := v_cells (Ga.get 0 rfl)
        have cw := w_cell (Ga.get 1 rfl) k (by omega)
        have Hr := Gg (show rounds b s (k + 1) = rnd (rounds b s k) (tbl k) ((JD b 64).getD k zW) from rfl)
        have Htb := Gg (tbl_get k hlt)
        have hx := wd_xor
        have ha := wd_add
        have hand := wd_and
        have hnot := wd_not
        have hsg : IntKind.u32.signed = false := rfl
        generalize rounds b s k = v at *
        generalize (JD b 64).getD k zW = xw at *
        generalize tbl k = xt at *
        go_wp2_with (refine GB (.index 225 (.tmp 103) (.tmp 104)) rfl ?_; refine wpl_index1 rfl (.tmp 103) (.tmp 104) rfl uz225 uz196 rfl el32 (by rfl) (by rfl) hlt Htb.out ?_)
        go_quiet (fail)
        go_wp2_with fail
        go_quiet ((go_at_call 145; exact quiet_eq2 (turned_any v.e 6 11 25 (by omega) (by omega) (by omega) (by omega) (by omega) (by omega) _)))
        go_wp2_with fail
        go_quiet ((go_at_call 145; exact quiet_eq2 (turned_any v.a 2 13 22 (by omega) (by omega) (by omega) (by omega) (by omega) (by omega) _)))
        go_wp2_with (first | (refine GB (.build 198 #[(0, .tmp 154), (1, .tmp 155), (2, .tmp 157), (3, .tmp 159), (4, .tmp 163), (5, .tmp 164), (6, .tmp 166), (7, .tmp 168)]) rfl ?_; refine wpl_build8 rfl 198 (.tmp 154) (.tmp 155) (.tmp 157) (.tmp 159) (.tmp 163) (.tmp 164) (.tmp 166) (.tmp 168) rfl uz198 el32 elS8 (by rfl) (by rfl) (by rfl) (by rfl) (by rfl) (by rfl) (by rfl) (by rfl) rfl rfl rfl rfl rfl rfl rfl rfl ?_) | (refine GB (.store 198 (.tmp 12) (.tmp 169)) rfl ?_; refine Pe rfl (Ga.drewN _) 198 (.tmp 12) (.tmp 169) rfl (by rfl) (cells := (rnd v xt xw).arr) (by rw [rnd_arr]; rfl) (S8.one _) (by rw [elS.size, S8.size]) 0 rfl (by rw [S8.size, S8.size]) ?_; clear Ga; intro W8 Ga))
        exact ⟨⟨k + 1, by omega, by go_num, by rw [Hr.out]; exact Ga⟩, by simp [intOf]; omega⟩
      ·obtain rfl : k = 64 := by omega
       rw [show ((64 : Nat) : Int) = 64 from rfl]
       go_wp2_with fail
       have hst0 : St w wr [.blk gv 198 (Nv (rounds b s 64) s 0), .blk gw 225 (Nd b 64), .blk gs 198 s.arr, .blk gr 198 (KX 8).toArray] := Ga
       have Hfin := Gg (show Nv (rounds b s 64) s 8 = (Nc s b).arr from rfl)
       clear Ga
       generalize rounds b s 64 = v at *
       go_loopw [171] (fun i wr => ∃ k : Nat, k ≤ 8 ∧ i = .int .i64 k ∧ St w wr [.blk gv 198 (Nv v s k), .blk gw 225 (Nd b 64), .blk gs 198 s.arr, .blk gr 198 (KX 8).toArray])
        (fun i _ => 8 - (intOf i).toNat)
       case atStart => exact ⟨0, by omega, rfl, hst0⟩
       case round =>
        clear hst0 hk hlt
        obtain ⟨k, hk, rfl, Ga⟩ := hrel
        by_cases hlt : k < 8
        ·as_aux_lemma =>
          have cv : wr.cell? ⟨gv, k, none⟩ = some (.int .u32 ((v.get k).n : Int)) := by
           rw [cell_of_row _ _ _ _ _ _ (Ga.get 0 rfl), mixArr_get v s k k hlt, if_neg (by omega)]
          have cs : wr.cell? ⟨gs, k, none⟩ = some (.int .u32 ((s.get k).n : Int)) := by
           rw [cell_of_row _ _ _ _ _ _ (Ga.get 2 rfl), mixArr_zero s s, mixArr_get s s 0 k hlt, if_neg (by omega)]
          have Hset := Gg (mixArr_set v s k hlt)
          have hsz := Gg (show (Nv v s k).size = 8 by simp [Nv])
          have ha := wd_add
          go_wp2_with fail
          go_still_tail 7, (by kernel_rfl)
          replace Ga := Ga.drew
          clear cv cs
          go_wp2_with (refine GB (.store 196 (.tmp 181) (.tmp 180)) rfl ?_; refine wpl_store1 rfl Ga 196 (.tmp 181) (.tmp 180) rfl (by rfl) (v := wV ((v.get k).add (s.get k))) (by rfl) rfl el32.size 0 rfl (by rw [hsz.out]; omega) ?_; clear Ga; intro W9 Ga)
          exact ⟨⟨k + 1, by omega, by go_num, by rw [← Hset.out]; exact Ga⟩, by simp [intOf]; omega⟩
        ·obtain rfl : k = 8 := by omega
         rw [Hfin.out] at Ga
         go_wp2_with (first | (refine GB (.load 198 (.tmp 12)) rfl ?_; refine wpl_loadRow rfl 198 (.tmp 12) rfl (by rfl) uz198 rfl (cs := (Nc s b).arr) (by rw [elS.size, S8.size]) (Ga.get 0 rfl) ?_) | (refine GB (.store 198 (.tmp 4) (.tmp 183)) rfl ?_; refine Pe rfl Ga 198 (.tmp 4) (.tmp 183) rfl (by rfl) (cells := (Nc s b).arr) (by rfl) (S8.one _) (by rw [elS.size, S8.size]) 3 rfl (by rw [zeros8, S8.size]) ?_; clear Ga; intro W9 Ga))
         exact bodyPost_ret (results_cell_row rfl _ _ gr 198 _ (0, 0) _ (by rfl) (Ga.get 3 rfl) uz198 rfl (by rw [elS.size, S8.size])) rfl ⟨rfl, Ga.forget⟩
end Go.Proofs.YtaebeemnipafbaaGreatDoor
