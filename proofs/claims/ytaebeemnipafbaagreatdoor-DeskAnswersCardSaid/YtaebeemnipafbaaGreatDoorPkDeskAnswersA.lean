/-
  Proved here, ahead of the law: DeskAnswers: the law returns true for every input, and leaves its arguments as they were.
-/
import Derived.Test.YtaebeemnipafbaaGreatDoorShelf
import Derived.Test.YtaebeemnipafbaaGreatDoorStrEq
import Derived.Test.YtaebeemnipafbaaGreatDoorSkip
import Derived.Test.YtaebeemnipafbaaGreatDoorLawC
import Derived.Test.YtaebeemnipafbaaGreatDoorDrawT
import Derived.Lib.LaidTab
import Derived.Deep.DeepCutAuto
import Derived.Deep.RegionWith
import Derived.Test.YtaebeemnipafbaaGreatDoorSq
import Derived.Test.YtaebeemnipafbaaGreatDoorRows
import Derived.Test.YtaebeemnipafbaaGreatDoorLaw
import Derived.Shelf.Strings.BuilderX
import Derived.Lib.Strings
import Derived.Lib.Slices
import Derived.Lib.Walk
import Derived.Lib.Builder
import Derived.Lib.AppendStr
import Derived.Test.YtaebeemnipafbaaGreatDoorEl
import Derived.Test.YtaebeemnipafbaaGreatDoorLawB
import Derived.Test.YtaebeemnipafbaaGreatDoorRefWord
import Derived.Test.YtaebeemnipafbaaGreatDoorErr
import Derived.Test.YtaebeemnipafbaaGreatDoorOpenH
import Derived.Test.YtaebeemnipafbaaGreatDoorEqS
import Derived.Test.YtaebeemnipafbaaGreatDoorHead
import Derived.Test.YtaebeemnipafbaaGreatDoorMac
import Derived.Test.YtaebeemnipafbaaGreatDoorTree
import Derived.Test.YtaebeemnipafbaaGreatDoorSha
import Derived.Test.YtaebeemnipafbaaGreatDoorChain
import Derived.Test.YtaebeemnipafbaaGreatDoorLawD
import Derived.Test.YtaebeemnipafbaaGreatDoorLawE
import Derived.Test.YtaebeemnipafbaaGreatDoorShaSpec
import Derived.Defers
import Derived.Recover
import Derived.Test.YtaebeemnipafbaaGreatDoorLogPlain
import Derived.Maps.RangeRun
import Derived.Maps.Keyed
import Derived.Laws.Tables
set_option linter.unusedSimpArgs false
set_option linter.unusedVariables false
set_option maxRecDepth 100000
set_option maxHeartbeats 200000000
namespace Go.Proofs.YtaebeemnipafbaaGreatDoor
section
open Go.RowKit
theorem bsOf_extract (l : List UInt8) (i j : Nat) : (GZ l).extract i j = GZ ((l.take j).drop i) := by
 apply ByteArray.ext
 rw [ByteArray.data_extract]
 unfold GZ
 simp [List.drop_take]
theorem KL (l m : List UInt8) : GZ l ++ GZ m = GZ (l ++ m) := by
 apply ByteArray.ext
 simp [GZ]
def Pa : Nat → List UInt8
 | 0 => [79, 75]
 | 1 => [69, 114, 114, 83, 121, 110, 116, 97, 120]
 | 2 => [69, 114, 114, 82, 97, 110, 103, 101]
 | 3 => [69, 114, 114, 76, 101, 110, 103, 116, 104]
 | 4 => [69, 114, 114, 70, 117, 108, 108]
 | 5 => [69, 114, 114, 78, 111, 110, 101]
 | 6 => [69, 114, 114, 83, 112, 101, 110, 116]
 | 7 => [69, 114, 114, 84, 119, 105, 99, 101]
 | 8 => [69, 114, 114, 79, 108, 100]
 | 9 => [69, 114, 114, 70, 111, 114, 107]
 | _ => [69, 114, 114, 110, 111]
def Ki : List UInt8 := [104, 101, 97, 100]
def Kw : List UInt8 := [104, 101, 108, 100]
def KM : List UInt8 := [116, 97, 107, 101]
def tFind : List UInt8 := [102, 105, 110, 100]
def tAdd : List UInt8 := [97, 100, 100]
def Mj : List UInt8 := [102, 105, 110, 100, 32]
def Nk : List UInt8 := [97, 100, 100, 32]
def tOk : List UInt8 := [111, 107]
def tNone : List UInt8 := [110, 111, 110, 101]
def tSp : List UInt8 := [32]
def spI (s : List UInt8) : Nat := s.findIdx fun b => b == 32
theorem spI_le (s : List UInt8) : spI s ≤ s.length := List.findIdx_le_length
theorem indexByte_sp : ∀ s : List UInt8, Lib.indexByte s 32 = if spI s < s.length then (spI s : Int) else -1
 | [] => rfl
 | b :: l => by
  have ih := indexByte_sp l
  unfold spI at *
  rw [Lib.indexByte, List.findIdx_cons, ih]
  by_cases hb : b = 32
  ·subst hb; simp
  ·have h1 : (b == 32) = false := by simp [hb]
   rw [h1]
   simp only [cond_false, Bool.false_eq_true, if_false, List.length_cons]
   by_cases hl : List.findIdx (fun b => b == 32) l < l.length
   ·have h2 : (((List.findIdx (fun b => b == 32) l : Nat) : Int) == -1) = false := by rw [beq_eq_false_iff_ne]; omega
    have h3 : List.findIdx (fun b => b == 32) l + 1 < l.length + 1 := by omega
    simp only [hl, h3, if_true, h2, Bool.false_eq_true, if_false]
    rfl
   ·have h3 : ¬ List.findIdx (fun b => b == 32) l + 1 < l.length + 1 := by omega
    simp only [hl, h3, if_false]
    rfl
theorem grow_St (w : World) (os : Array Obj) : St w (Sort.grow w os) [] := by
 refine ⟨⟨rfl, rfl, rfl, ?_, ?_⟩, by simp, by simp, List.Pairwise.nil⟩
 ·simp [Sort.grow]
 ·intro b hb
  show (w.heap ++ os)[b]? = _
  rw [Array.getElem?_append_left hb]
def Pz (W : World) : Prop := Lib.TabIs Tryz.prog W "internal/strconv.uint64pow10" .u64 Lib.pow10Tab
theorem Pz.of {w0 W : World} {L : List Res} (h : Pz w0) (Ga : St w0 W L) : Pz W := by
 unfold Pz Lib.TabIs World.var? at *
 cases hg : Tryz.prog.globalNamed "internal/strconv.uint64pow10" with
 | none => rw [hg] at h; simp at h
 | some g =>
  rw [hg] at h
  simp only [Option.bind_some] at h ⊢
  cases hb : w0.heap[g]? with
  | none => rw [hb] at h; simp at h
  | some o => rw [(Ga.below.block _ (Array.getElem?_eq_some_iff.1 hb).1).trans hb]; rw [hb] at h; exact h
theorem itoa_any (n : Int) (h0 : -9223372036854775808 ≤ n) (h1 : n ≤ 9223372036854775807) (w : World) (hP : Pz w) :
  Calls Tryz.prog 133 #[.int .i64 n] w fun e w' => e = .returned (.string (GZ (Lib.itoa n))) ∧ St w w' [] := by
 refine (Tryz.strconv_Itoa n h0 h1 w hP).mono ?_
 rintro e w' ⟨rfl, k, os, rfl⟩
 refine ⟨rfl, ?_⟩
 exact ((St.refl w).drewN k).keep (grow_St _ os)
section
variable {P : Program} {ops : Array Oper} {rest : List Oper} {o : Oper} {a : Act} {W : World} {Q : Exit → Act → World → Prop} {d : Option Tmp}
theorem L_strTo (hd : o.dst = d) (hw : Region.wanted o (yielded ops a.tmps) = true) {t : TypeId} {x hi : Operand} (ho : o.op = .slice t x none (some hi) none) (hu : P.underlying t = some .string) {l : List UInt8} (hx : a.eval x = .string (GZ l)) {k' : IntKind} {j' : Int} (hh : a.eval hi = .int k' j') (j : Nat) (hj' : j' = (j : Int)) (hjs : j ≤ l.length)
  (h : wpList P ops Q rest (a.put d (.string (GZ (l.take j)))) W) : wpList P ops Q (o :: rest) a W := by
 subst hj'
 have hz : j ≤ (GZ l).size := by rw [Hf]; exact hjs
 have he : (GZ l).extract 0 j = GZ (l.take j) := by rw [bsOf_extract, List.drop_zero]
 refine Js hd hw ?_ h
 unfold execOp
 simp only [ho, hx]
 simp [Instr.sliceAt, Instr.slice, Instr.sliceBounds, Instr.sliceBound, asIntOf, run_underlying hu, hh, hz, he]
theorem ME (hd : o.dst = d) (hw : Region.wanted o (yielded ops a.tmps) = true) {t : TypeId} {x lo : Operand} (ho : o.op = .slice t x (some lo) none none) (hu : P.underlying t = some .string) {l : List UInt8} (hx : a.eval x = .string (GZ l)) {k : IntKind} {i' : Int} (hl : a.eval lo = .int k i') (i : Nat) (hi' : i' = (i : Int)) (his : i ≤ l.length)
  (h : wpList P ops Q rest (a.put d (.string (GZ (l.drop i)))) W) : wpList P ops Q (o :: rest) a W := by
 subst hi'
 have hz : i ≤ (GZ l).size := by rw [Hf]; exact his
 have he : (GZ l).extract i (GZ l).size = GZ (l.drop i) := by rw [bsOf_extract, Hf, List.take_length]
 refine Js hd hw ?_ h
 unfold execOp
 simp only [ho, hx]
 simp [Instr.sliceAt, Instr.slice, Instr.sliceBounds, Instr.sliceBound, asIntOf, run_underlying hu, hl, hz, he]
end
theorem bp_tmp3 {P : Program} {a : Act} {W : World} {fn : Func} {R : Ending → World → Prop} {p q q' : Tmp} (hr : fn.results = #[.tmp p, .tmp q, .tmp q']) (hd : a.defers = []) {v0 v v' : Value} (hp : a.tmps.toList[p]? = some v0) (hq : a.tmps.toList[q]? = some v) (hq2 : a.tmps.toList[q']? = some v') (hR : R (.returned (.tuple #[v0, v, v'])) W) : bodyPost P fn R .ret a W := by
 have h0 : a.tmps[p]?.getD undef = v0 := by
  have : a.tmps[p]? = some v0 := by simpa using hp
  simp [this]
 have h1 : a.tmps[q]?.getD undef = v := by
  have : a.tmps[q]? = some v := by simpa using hq
  simp [this]
 have h2 : a.tmps[q']?.getD undef = v' := by
  have : a.tmps[q']? = some v' := by simpa using hq2
  simp [this]
 refine bodyPost_ret ?_ hd hR
 simp [results, hr, h0, h1, h2]
theorem scut_any (s : List UInt8) (w : World) (hz : s.length ≤ 9223372036854775806) :
  Calls Tryz.prog 131 #[.string (GZ s), .string (GZ tSp)] w fun e w' => e = .returned (.tuple #[.string (GZ (s.take (spI s))), .string (GZ (s.drop (spI s + 1))), .bool (decide (spI s < s.length))]) ∧ St w w' [] := by
 have Ga := St.refl w
 have hle := spI_le s
 have HI := Gg (fun w' => by
  have := Tryz.stringslite_Index_one (GZ s) 32 w'
  rw [Km, indexByte_sp] at this
  exact this)
 by_cases hs : spI s < s.length
 ·rw [decide_eq_true hs]
  rw [if_pos hs] at HI
  generalize spI s = i at *
  have HW := Gg (show wrap64 ((i : Int) + ((GZ tSp).size : Int)) = ((i + 1 : Nat) : Int) by
   rw [Hf, show tSp.length = 1 from rfl]
   unfold wrap64
   omega)
  have p1 : (0 : Int) ≤ (i : Int) := by omega
  go_enter Tryz.func131, Tryz.ntmps131
  go_upto_region 1 with (go_big_may; fail)
  go_upto_region 2 with (go_big_may; (go_at_call 146; refine (HI.out _).mono ?_; rintro e Wi ⟨rfl, rfl⟩))
  go_upto_region 3 with (go_big_may; fail)
  refine GO [(0, 0), (1, 0), (2, 0), (3, 0), (4, 0), (5, 0), (6, 0), (7, 0), (8, 0), (9, 2), (10, 2), (11, 2)] (by kernel_rfl) (by kernel_rfl) ?_
  replace Ga := Ga.drew
  refine GG rfl rfl ?_; go_wp2_with fail
  refine GG rfl rfl ?_; go_wp2_with fail
  refine GG rfl rfl ?_; go_wp2_with (refine L_strTo (d := some 15) rfl rfl rfl uz9 (Gw rfl) (Gw rfl) i rfl (by omega) ?_)
  refine GG rfl rfl ?_; go_wp2_with fail
  refine GG rfl rfl ?_; go_wp2_with fail
  refine GG rfl rfl ?_; go_wp2_with fail
  refine GG rfl rfl ?_; go_wp2_with (fail)
  refine GG rfl rfl ?_; go_wp2_with fail
  refine GG rfl rfl ?_; go_wp2_with (refine ME (d := some 21) rfl rfl rfl uz9 (Gw rfl) (Gw rfl) (i + 1) HW.out (by omega) ?_)
  refine GA rfl ?_; go_wp2_with fail; refine Gh ?_
  refine GA rfl ?_; go_wp2_with fail; refine Gh ?_
  refine GA rfl ?_; go_wp2_with fail; refine Gh ?_
  refine G5 ?_
  go_wp2_with fail
  refine bp_tmp3 rfl rfl rfl rfl rfl ?_
  exact ⟨rfl, Ga⟩
 ·rw [decide_eq_false hs]
  rw [if_neg hs] at HI
  have e1 : s.take (spI s) = s := List.take_of_length_le (by omega)
  have e2 : s.drop (spI s + 1) = [] := List.drop_eq_nil_of_le (by omega)
  rw [e1, e2]
  clear e1 e2
  go_enter Tryz.func131, Tryz.ntmps131
  go_upto_region 1 with (go_big_may; fail)
  go_upto_region 2 with (go_big_may; (go_at_call 146; refine (HI.out _).mono ?_; rintro e Wi ⟨rfl, rfl⟩))
  go_upto_region 4 with (go_big_may; fail)
  go_wp2_with (fail)
  refine bp_tmp3 rfl rfl rfl rfl rfl ?_
  exact ⟨rfl, Ga⟩
theorem cut_any (s : List UInt8) (w : World) (hz : s.length ≤ 9223372036854775806) :
  Calls Tryz.prog 106 #[.string (GZ s), .string (GZ tSp)] w fun e w' => e = .returned (.tuple #[.string (GZ (s.take (spI s))), .string (GZ (s.drop (spI s + 1))), .bool (decide (spI s < s.length))]) ∧ St w w' [] := by
 have Ga := St.refl w
 have HC := Gg (fun w' => scut_any s w' hz)
 go_enter Tryz.func106, Tryz.ntmps106
 go_upto_region 1 with (go_big_may; fail)
 go_wp2_with ((go_at_call 131; refine (HC.out _).mono ?_; rintro e Wi ⟨rfl, Gb⟩; replace Ga := Ga.keep Gb))
 refine bp_tmp3 rfl rfl rfl rfl rfl ?_
 exact ⟨rfl, Ga⟩
theorem errTx_any (r : Nat) (hr : r ≤ 9) (w : World) : Calls Tryz.prog 69 #[.int .i64 (r : Int)] w fun e w' => e = .returned (.string (GZ (Pa r))) ∧ St w w' [] := by
 have Ga := St.refl w
 have h10 : r = 0 ∨ r = 1 ∨ r = 2 ∨ r = 3 ∨ r = 4 ∨ r = 5 ∨ r = 6 ∨ r = 7 ∨ r = 8 ∨ r = 9 := by omega
 clear hr
 rcases h10 with rfl | rfl | rfl | rfl | rfl | rfl | rfl | rfl | rfl | rfl
 all_goals
  go_enter Tryz.func69, Tryz.ntmps69
  go_wp2_with fail
  go_ret
  exact ⟨rfl, Ga⟩
def NU (s p : List UInt8) : Bool := decide (s.take p.length = p)
theorem JV (s p : List UInt8) (w : World) (hp : p.length ≤ 100) : Calls Tryz.prog 70 #[.string (GZ s), .string (GZ p)] w fun e w' => e = .returned (.bool (NU s p)) ∧ St w w' [] := by
 have Ga := St.refl w
 have hs1 := Hf s
 have hs2 := Hf p
 by_cases hl : p.length ≤ s.length
 ·have e1 : decide ((p.length : Int) ≤ (s.length : Int)) = true := decide_eq_true (by omega)
  have p1 : (p.length : Int) ≤ (s.length : Int) := by omega
  unfold NU
  go_enter Tryz.func70, Tryz.ntmps70
  go_upto_region 1 with (go_big_may; fail)
  go_wp2_with (first | (refine L_strTo (d := some 14) rfl rfl rfl uz9 (Gw rfl) (Gw rfl) p.length (by rfl) hl ?_) | (refine Ja (d := some 16) rfl rfl rfl MD uz9 (Gw rfl) (Gw rfl) ?_))
  go_ret
  exact ⟨rfl, Ga⟩
 ·have e1 : decide ((p.length : Int) ≤ (s.length : Int)) = false := decide_eq_false (by omega)
  have p1 : ¬ (p.length : Int) ≤ (s.length : Int) := by omega
  have hf : NU s p = false := decide_eq_false (fun h => hl (by have := congrArg List.length h; rw [List.length_take] at this; omega))
  rw [hf]
  go_enter Tryz.func70, Tryz.ntmps70
  go_upto_region 1 with (go_big_may; fail)
  go_wp2_with (fail)
  go_ret
  exact ⟨rfl, Ga⟩
end
section
open Go.RowKit
theorem K3 {P : Program} {ops : Array Oper} {Q : Act → World → Prop} {i : Nat} {rest : List (Nat × Nat)} {o : Oper} {a : Act} {w : World} (t : Tmp) (hi : ops[i]? = some o) (hd : o.dst = some t) (hw : Region.wanted o (yielded ops a.tmps) = false) (h : KU P ops Q rest (a.put (some t) undef) w) : KU P ops Q ((i, 0) :: rest) a w := by
 refine ⟨o, hi, fun _ hw' => absurd (hw.symm.trans hw') (by decide), ?_⟩
 unfold wpList
 rw [if_neg (by simp [hw]), hd]
 exact ⟨fun h => absurd h (by decide), h⟩
theorem calmV_strAdd {P : Program} {ρ : Operand → Value} {o : Oper} {t t' : TypeId} {x y : Operand} {s u : ByteArray} (ho : o.op = .binOp .add t x y t') (hx : ρ x = .string s) (hy : ρ y = .string u) : KT P (execOp ρ o) := by
 have e : execOp ρ o = (do Pure.pure (.value (← (do eqGuard .add t x y (.string s) (.string u); Go.binOp .add t (.string s) (.string u)))) : Sem Next) := by
  unfold execOp
  simp only [ho, hx, hy]
 rw [e]
 refine KT.of (G2.bind ?_ fun _ => ?_)
 ·have e1 : eqGuard .add t x y (.string s) (.string u) = Pure.pure () := rfl
  rw [e1]
  exact G2.pure _
 ·show G2 P (Op.stringOp .add s u)
  unfold Op.stringOp
  simp only
  split
  ·(exact G2.halt _)
  ·exact G2.pure _
theorem idx_sa {P : Program} {ops : Array Oper} {Q : Act → World → Prop} {i : Nat} {rest : List (Nat × Nat)} {o : Oper} {a : Act} {w : World} (hi : ops[i]? = some o) {t t' : TypeId} {x y : Operand} {s u : ByteArray} (ho : o.op = .binOp .add t x y t') (hx : a.eval x = .string s) (hy : a.eval y = .string u)
  (h : wpList P ops (Exit.then (KU P ops Q rest) fun _ _ _ => False) [o] a w) : KU P ops Q ((i, 0) :: rest) a w :=
 idx_qv hi (calmV_strAdd ho hx hy) h
end
section
open Go.RowKit
theorem copyCheck_used (b : Nat) (w : World) (h0 : w.cell? ⟨b, 0, none⟩ = some (.pointer (some ⟨b, 0, none⟩))) :
  Calls Tryz.prog 166 #[.pointer (some ⟨b, 0, none⟩)] w fun e w' => e = .returned (.tuple #[]) ∧ w' = w := by
 obtain ⟨j, hj, _⟩ := Option.map_eq_some_iff.1 (show (Tryz.prog.info? 232).map (·.size) = some 2 from by kernel_rfl)
 go_enter Tryz.func166, Tryz.ntmps166
 go_wp2
 rw [Lib.run_neq_ptr_same w _ Tryz.underlying230 hj]
 go_wp2
 go_end0
 exact ⟨rfl, rfl⟩
theorem copyCheck_fresh (b : Nat) (w : World) (h0 : w.cell? ⟨b, 0, none⟩ = some (.pointer none)) (hsh : w.shape? b = some (232, 2)) (hfz : w.frozen? ⟨b, 0, none⟩ = false) :
  Calls Tryz.prog 166 #[.pointer (some ⟨b, 0, none⟩)] w fun e w' => e = .returned (.tuple #[]) ∧ w' = w.setCell ⟨b, 0, none⟩ (.pointer (some ⟨b, 0, none⟩)) := by
 obtain ⟨j, hj, hjs⟩ := Option.map_eq_some_iff.1 (show (Tryz.prog.info? 232).map (·.size) = some 2 from by kernel_rfl)
 go_enter Tryz.func166, Tryz.ntmps166
 go_wp2
 rw [Lib.run_to_unsafe w ⟨b, 0, none⟩ Tryz.underlying230 Tryz.underlying171 hj (by rw [hjs]; decide) hsh (Nat.zero_lt_succ 1)]
 simp only [Result.andThen]
 rw [Oper.upon_value]
 go_wp2
 rw [run_callFunc_extern Tryz.func179 (by kernel_rfl) (by kernel_rfl) (by kernel_rfl) (e := Extern.AbiNoEscape.same) (by kernel_rfl)]
 rw [Lib.run_noEscape]
 simp only [Result.andThen]
 rw [Oper.upon_value]
 go_wp2
 rw [Lib.run_from_unsafe w ⟨b, 0, none⟩ Tryz.underlying171 Tryz.underlying230 hj hsh (by kernel_rfl)]
 simp only [Result.andThen]
 rw [Oper.upon_value]
 go_wp2
 go_end0
 exact ⟨rfl, rfl⟩
theorem copyCheck_any (B b : Nat) (bs : List Value) (w : World) (h : Lib.IsBuilder 232 5 B b bs w) :
  Calls Tryz.prog 166 #[.pointer (some ⟨b, 0, none⟩)] w fun e w' => e = .returned (.tuple #[]) ∧ (Lib.BuilderAt 232 5 B b (.pointer (some ⟨b, 0, none⟩)) bs w' ∧ Below B w w') := by
 rcases h with h | h
 ·refine (copyCheck_fresh b w h.cell0 h.shape h.frozen0).mono ?_
  rintro e w' ⟨rfl, rfl⟩
  exact ⟨rfl, h.used _, (Below.refl B w).setCell (p := ⟨b, 0, none⟩) h.1 _⟩
 ·refine (copyCheck_used b w h.cell0).mono ?_
  rintro e w' ⟨rfl, rfl⟩
  exact ⟨rfl, h, Below.refl B _⟩
theorem infoByte : (Tryz.prog.info? 5).map (fun i => (i.zero, i.size, i.bytes)) = some (some (.int .u8 0), 1, 1) := by kernel_rfl
theorem writeByte_any (B b : Nat) (bs : List Value) (c : Int) (w : World) (h : Lib.IsBuilder 232 5 B b bs w) (hlen : bs.length + 1 ≤ 140737488355328) (hBw : B ≤ w.heap.size) :
  Calls Tryz.prog 149 #[.pointer (some ⟨b, 0, none⟩), .int .u8 c] w fun e w' => e = .returned .nilIface ∧ (Lib.BuilderAt 232 5 B b (.pointer (some ⟨b, 0, none⟩)) (bs ++ [.int .u8 c]) w' ∧ Below B w w') := by
 obtain ⟨i0, hi, hz0, hz1, hz2⟩ := info_parts infoByte
 go_enter Tryz.func149, Tryz.ntmps149
 go_wp2_with (go_at_call 166; refine (copyCheck_any B b bs _ h).mono ?_)
 rintro e w1 ⟨rfl, h1, hb1⟩
 obtain ⟨hB, v, hbk, hown, hne⟩ := h1
 have c0 : w1.cell? ⟨b, 0, none⟩ = some (.pointer (some ⟨b, 0, none⟩)) := by rw [Lib.cell_of_heap hbk]; rfl
 have c1 : w1.cell? ⟨b, 1, none⟩ = some v := by rw [Lib.cell_of_heap hbk]; rfl
 go_wp2_with (at_builtin; refine wpList_append_own _ rfl _ _ 22 rfl B 5 i0 (.int .u8 0) 1 1 uz22 hi hz0 hz1 hz2 rfl (by decide) _ _ _ rfl (hown.alloc _) ⟨w1.heap.size, 0, none⟩ 1 1 [.int .u8 c] rfl rfl ?c1 ?c2 ?c3 ?c4 ?c5 ?_)
 case c1 =>
  intro j u hj
  match j, hj with
  | 0, hj => simp at hj; subst hj; simp [Addr.add]
 case c2 => intro u hu; simp at hu; subst hu; rfl
 case c3 => unfold maxLen; omega
 case c4 => omega
 case c5 => have := hb1.size; simp; omega
 intro v' w2 hown' hgrow _
 have hlt : b < w1.heap.size := by
  rcases Nat.lt_or_ge b w1.heap.size with h' | h'
  ·exact h'
  ·simp [Array.getElem?_eq_none h'] at hbk
 have hb2 : w2.heap[b]? = some (.cells #[.pointer (some ⟨b, 0, none⟩), v] 232 (0, 0)) := by
  rw [hgrow.block b (by simp; omega) (fun e => hne e.symm), Lib.alloc_old w1 _ b hlt]
  exact hbk
 have d0 : w2.cell? ⟨b, 0, none⟩ = some (.pointer (some ⟨b, 0, none⟩)) := by rw [Lib.cell_of_heap hb2]; rfl
 have d1 : w2.cell? ⟨b, 1, none⟩ = some v := by rw [Lib.cell_of_heap hb2]; rfl
 have f1 : w2.frozen? ⟨b, 1, none⟩ = false := Lib.frozen_of_heap hb2 1
 obtain ⟨g, cap, rfl⟩ : ∃ g cap, v' = .slice (some ⟨g, 0, none⟩) (bs.length + 1) cap := by
  rcases hown'.2 with ⟨_, h0⟩ | ⟨g, cap, cur, hv, _⟩
  ·omega
  ·exact ⟨g, cap, hv⟩
 go_wp2
 go_ret
 refine ⟨rfl, ?_, ?_⟩
 ·exact Lib.BuilderAt.put (T := 232) (e := 5) hB hb2 (bs' := bs ++ [.int .u8 c]) (by simpa using hown') (by decide)
 ·exact ((hb1.alloc (by have := hb1.size; omega) _).grown hgrow (by have := hb1.size; simp; omega) (fun k hk => (hown.lt k hk).1)).setCell (p := ⟨b, 1, none⟩) hB _
end
section
open Go.RowKit
def PO : ByteArray := ⟨#[48, 49, 50, 51, 52, 53, 54, 55, 56, 57, 97, 98, 99, 100, 101, 102]⟩
def P7 (k : Nat) : UInt8 := PO.data.toList.getD k 0
def NB (l : List UInt8) : List UInt8 := l.flatMap fun x => [P7 (x.toNat / 16), P7 (x.toNat % 16)]
theorem hexL_take (l : List UInt8) (i : Nat) (h : i < l.length) : NB (l.take (i + 1)) = NB (l.take i) ++ [P7 ((l.getD i 0).toNat / 16)] ++ [P7 ((l.getD i 0).toNat % 16)] := by
 rw [List.take_succ_eq_append_getElem h, NB, List.flatMap_append]
 simp [NB, List.getD_eq_getElem?_getD, h]
theorem length_hexL (l : List UInt8) : (NB l).length = 2 * l.length := by
 induction l with
 | nil => rfl
 | cons x l ih => simp only [NB, List.flatMap_cons, List.length_append, List.length_cons, List.length_nil] at ih ⊢; omega
theorem Kq {P : Program} {ops : Array Oper} {rest : List Oper} {o : Oper} {a : Act} {W : World} {Q : Exit → Act → World → Prop} {d : Option Tmp} (hd : o.dst = d) (hw : Region.wanted o (yielded ops a.tmps) = true) {t : TypeId} {x y : Operand} (ho : o.op = .index t x y) (hu : P.underlying t = some .string) {s : ByteArray} (hx : a.eval x = .string s) {k : IntKind} {i : Int} (hy : a.eval y = .int k i) (j : Nat) (hj : i = (j : Int)) {b : UInt8} (hb : s[j]? = some b)
  (h : wpList P ops Q rest (a.put d (.int .u8 (b.toNat : Int))) W) : wpList P ops Q (o :: rest) a W := by
 subst hj
 refine Js hd hw ?_ h
 unfold execOp
 simp only [ho, hx, hy]
 simp [Instr.index, asIntOf, run_underlying hu, hb]
theorem digitsS_at : ∀ k : Fin 16, PO[k.val]? = some (P7 k.val) := by decide +kernel
theorem hex_any (l : List UInt8) (A : Option Addr) (n c : Nat) (w : World) (hx : SlR w A n c 1 (GK l)) (hn : 2 * n ≤ 140737488355000) :
  Calls Tryz.prog 134 #[.slice A n c] w fun e w' => e = .returned (.string ⟨(NB l).toArray⟩) ∧ St w w' [] := by
 have Ga := St.refl w
 have hl := hx.1
 rw [G7, Nat.mul_one] at hl
 have Hl := Gg hl
 have hcap := hx.2.1
 have hmx := hx.2.2.1
 simp only [maxLen] at hmx
 clear hl
 go_enter Tryz.func134, Tryz.ntmps134
 go_wp2_with fail
 have hfb := Lib.fresh_isBuilder 232 5 w
 have Ga : St w (w.alloc (.cells #[.pointer none, .slice none 0 0] 232)) [] := (Ga.alloc _ _).forget
 generalize w.alloc (.cells #[.pointer none, .slice none 0 0] 232) = w1 at *
 go_loopg [5, 8] n (fun gk s5 s8 wr => ∃ i : Nat, Hid (i + gk = n) ∧ s8 = .int .i64 (i : Int) ∧ Hid (Lib.IsBuilder 232 5 w.heap.size w.heap.size (Lib.byteCells (NB (l.take i))) wr) ∧ St w wr [])
 case atStart => exact ⟨0, Gg (by omega), rfl, Gg hfb, Ga⟩
 case round =>
  clear Ga hfb
  obtain ⟨i, HI, rfl, HB, Ga⟩ := hrel
  have hi := HI.out
  by_cases hin : i < n
  ·clear hi
   have hb := Gg (show i < l.length by rw [Hl.out]; exact hin)
   have HC := Gg (fun (W : World) (g off : Nat) h => Me (W := W) (g := g) (off := off) (i := i) (l := l) h hb.out)
   have HT := Gg (hexL_take l i hb.out)
   have HLn := Gg (show (NB (l.take i)).length = 2 * i by rw [length_hexL, List.length_take, Hl.out]; omega)
   have hx256 := UInt8.toNat_lt (l.getD i 0)
   generalize l.getD i 0 = x at *
   have HD1 := Gg (digitsS_at ⟨x.toNat / 16, by omega⟩)
   have HD2 := Gg (digitsS_at ⟨x.toNat % 16, by omega⟩)
   go_wp2_with (first | (refine Gj 11 rfl (by rfl) uz5 rfl (HC.out _ _ _ hr10) ?_) | (refine Kq (d := some 14) rfl rfl rfl uz9 rfl (by rfl) (x.toNat / 16) (by omega) HD1.out ?_) | (refine Kq (d := some 18) rfl rfl rfl uz9 rfl (by rfl) (x.toNat % 16) (by omega) HD2.out ?_) | (go_at_call 149; first | (refine (writeByte_any w.heap.size w.heap.size _ _ wr HB.out (by rw [Lib.byteCells_length, HLn.out]; omega) Ga.below.size).mono ?_; rintro e W15 ⟨rfl, hB1, hbel⟩; have HB1 := Gg hB1; have hst1 : St w W15 [] := ⟨Ga.below.trans hbel, by simp, by simp, List.Pairwise.nil⟩; clear hB1 hbel) | (refine (writeByte_any w.heap.size w.heap.size _ _ _ (.inr HB1.out) (by rw [List.length_append, Lib.byteCells_length, HLn.out]; simp; omega) hst1.below.size).mono ?_; rintro e W19 ⟨rfl, hB2, hbel⟩; have HB2 := Gg hB2; have hst2 : St w W19 [] := ⟨hst1.below.trans hbel, by simp, by simp, List.Pairwise.nil⟩; clear hB2 hbel)) | (refine Gp 10 rfl (by rfl) (by rfl) uz22 GF (Ga.old (by decide) hx) (by omega) (by omega) ?_; intro o10 p10 ha10 hr10; ((subst ha10))))
   go_roundg (gk - 1)
   case measure => have hi := HI.out; omega
   case rel =>
    have hi := HI.out
    refine ⟨i + 1, Gg (by omega), by go_num, Gg (.inr ?_), hst2⟩
    rw [HT.out]
    have := HB2.out
    simpa [Lib.byteCells] using this
  ·obtain rfl : i = n := by omega
   have hta : l.take i = l := List.take_of_length_le (by rw [Hl.out]; exact Nat.le_refl _)
   rw [hta] at HB
   clear hi HI hta
   go_wp2_with ((go_at_call 150; refine (Tryz.Builder_String_any w.heap.size w.heap.size (NB l) _ HB.out Ga.below.size).mono ?_; rintro e W21 ⟨rfl, hbel⟩; have hst1 : St w W21 [] := ⟨Ga.below.trans hbel, by simp, by simp, List.Pairwise.nil⟩; clear hbel))
   go_ret
   exact ⟨rfl, hst1⟩
end
section
def Na (c : UInt8) : Int := Lib.indexByte PO.data.toList c
theorem hexV_all : ∀ k : Fin 256, (Na (UInt8.ofNat k.val) < 0 ∨ (0 ≤ Na (UInt8.ofNat k.val) ∧ Na (UInt8.ofNat k.val) < 16 ∧ P7 (Na (UInt8.ofNat k.val)).toNat = UInt8.ofNat k.val)) := by decide +kernel
theorem hexV_cases (c : UInt8) : Na c < 0 ∨ (0 ≤ Na c ∧ Na c < 16 ∧ P7 (Na c).toNat = c) := by
 have h := hexV_all ⟨c.toNat, UInt8.toNat_lt c⟩
 have e : UInt8.ofNat c.toNat = c := by simp
 simp only [e] at h
 exact h
def pairOk (s : List UInt8) (j : Nat) : Prop := 0 ≤ Na (s.getD (2 * j) 0) ∧ 0 ≤ Na (s.getD (2 * j + 1) 0)
def pairB (s : List UInt8) (j : Nat) : UInt8 := UInt8.ofNat ((Na (s.getD (2 * j) 0)).toNat * 16 + (Na (s.getD (2 * j + 1) 0)).toNat)
def decL (s : List UInt8) (m : Nat) : List UInt8 := (List.range m).map (pairB s)
theorem decL_succ (s : List UInt8) (m : Nat) : decL s (m + 1) = decL s m ++ [pairB s m] := by simp [decL, List.range_succ]
theorem length_decL (s : List UInt8) (m : Nat) : (decL s m).length = m := by simp [decL]
end
section
open Go.RowKit
def UnhexEnd (l : List UInt8) (m t : Nat) (w : World) (e : Ending) (w' : World) : Prop :=
 (t = m ∧ ∃ A c, e = .returned (.tuple #[.slice A m c, .nilIface]) ∧ St w w' [.row A m c 5 1 (GK (decL l m))]) ∨ (t < m ∧ e = .returned (.tuple #[.slice none 0 0, JL 1]) ∧ St w w' [])
theorem str_at (s : ByteArray) (j : Nat) (h : j < s.size) : s[j]? = some (s.data.toList.getD j 0) := by
 have h' : j < s.data.toList.length := by simpa using h
 rw [List.getD_eq_getElem?_getD, List.getElem?_eq_getElem h']
 simp [h]
 rfl
theorem idxByte_any (b : UInt8) (w : World) : Calls Tryz.prog 147 #[.string PO, .int .u8 (b.toNat : Int)] w fun e w' => e = .returned (.int .i64 (Na b)) ∧ w' = w := by
 have h := Tryz.strings_IndexByte PO (b.toNat : Int) w
 rw [show ((b.toNat : Int)).toNat.toUInt8 = b by simp] at h
 exact h
theorem or_pair (x y : Int) (hx0 : 0 ≤ x) (hx : x < 16) (hy0 : 0 ≤ y) (hy : y < 16) : bits .or .i64 (x * 16) y = x * 16 + y := by
 obtain ⟨a, rfl⟩ := Int.eq_ofNat_of_zero_le hx0
 obtain ⟨b, rfl⟩ := Int.eq_ofNat_of_zero_le hy0
 have h := i64_or_nat (a * 16) b (by omega) (by omega)
 have h2 : a * 16 ||| b = a * 16 + b := by
  have := Nat.shiftLeft_add_eq_or_of_lt (i := 4) (b := b) (by omega) a
  rw [Nat.shiftLeft_eq] at this
  exact this.symm
 rw [h2] at h
 rw [show ((a : Nat) : Int) * 16 = ((a * 16 : Nat) : Int) by omega, h]
 omega
theorem unhex_odd (s : ByteArray) (w : World) (hs : s.size ≤ 140737488355000) (ho : s.size % 2 = 1) :
  Calls Tryz.prog 132 #[.string s] w fun e w' => e = .returned (.tuple #[.slice none 0 0, JL 1]) ∧ St w w' [] := by
 have Ga := St.refl w
 have h1 : ((s.size : Int) % 2 != 0) = true := by rw [bne_iff_ne]; omega
 clear ho
 go_enter Tryz.func132, Tryz.ntmps132
 go_wp2_with fail
 go_ret2
 exact ⟨rfl, Ga⟩
theorem unhex_any (s : ByteArray) (m t : Nat) (w : World) (hs : s.size ≤ 140737488355000) (hm : s.size = 2 * m) (ht : t ≤ m) (hok : ∀ j, j < t → pairOk s.data.toList j) (hend : t < m → ¬ pairOk s.data.toList t) :
  Calls Tryz.prog 132 #[.string s] w (UnhexEnd s.data.toList m t w) := by
 have Ga := St.refl w
 have Hm := Gg hm
 have Hok := Gg hok
 have Hend := Gg hend
 have h1 : ((s.size : Int) % 2 != 0) = false := by rw [bne_eq_false_iff_eq]; omega
 have hm2 : 2 * m ≤ 140737488355000 := by omega
 have hle : 2 * m ≤ s.size := by omega
 have hge : s.size ≤ 2 * m := by omega
 have Hat := Gg (fun j => str_at s j)
 clear hok hend hm
 go_enter Tryz.func132, Tryz.ntmps132
 go_wp2_with fail
 have Ga : St w w [.row none 0 0 5 1 (GK (decL s.data.toList 0))] := Ga.nilRow 5 1
 go_loopg [4, 5, 6, 7] m (fun gk s4 s5 s6 s7 wr => ∃ (k : Nat) (O : Option Addr) (oc : Nat), Hid (k + gk = m) ∧ k ≤ t ∧ s4 = .slice O k oc ∧ s5 = .int .i64 ((2 * k : Nat) : Int) ∧ St w wr [.row O k oc 5 1 (GK (decL s.data.toList k))])
 case atStart => exact ⟨0, _, _, Gg (by omega), by omega, rfl, rfl, Ga⟩
 case round =>
  clear Ga
  obtain ⟨k, O, oc, HK, hkt, rfl, rfl, Ga⟩ := hrel
  have hk := HK.out
  have e1 : ((2 * k : Nat) : Int) = 2 * (k : Int) := by omega
  rw [e1]
  clear e1
  by_cases hkm : k < m
  ·clear hk
   have HC1 := Gg (Hat.out (2 * k) (by omega))
   have HC2 := Gg (Hat.out (2 * k + 1) (by omega))
   have HP := Gg (show pairOk s.data.toList k ↔ 0 ≤ Na (s.data.toList.getD (2 * k) 0) ∧ 0 ≤ Na (s.data.toList.getD (2 * k + 1) 0) from Iff.rfl)
   have HB := Gg (show pairB s.data.toList k = UInt8.ofNat ((Na (s.data.toList.getD (2 * k) 0)).toNat * 16 + (Na (s.data.toList.getD (2 * k + 1) 0)).toNat) from rfl)
   generalize s.data.toList.getD (2 * k) 0 = b1 at *
   generalize s.data.toList.getD (2 * k + 1) 0 = b2 at *
   have HI1 := Gg (idxByte_any b1)
   have HI2 := Gg (idxByte_any b2)
   have hv1 := hexV_cases b1
   have hv2 := hexV_cases b2
   generalize Na b1 = v1 at *
   generalize Na b2 = v2 at *
   by_cases hkt' : k < t
   ·obtain ⟨p1, p2⟩ := HP.out.1 (Hok.out k hkt')
    have q1 := (hv1.resolve_left (by omega)).2.1
    have q2 := (hv2.resolve_left (by omega)).2.1
    have hor := or_pair v1 v2 p1 q1 p2 q2
    have n1 : ¬ v1 < 0 := by omega
    have n2 : ¬ v2 < 0 := by omega
    clear hv1 hv2 HP
    go_wp2_with (fail)
    refine GO [(0, 0), (1, 0), (2, 0), (4, 0), (5, 0), (6, 0), (7, 0), (3, 2), (8, 2), (9, 2), (10, 2)] (by kernel_rfl) (by kernel_rfl) ?_
    replace Ga := Ga.drew
    refine GG rfl rfl ?_; go_wp2_with fail
    refine GG rfl rfl ?_; go_wp2_with fail
    refine GG rfl rfl ?_; go_wp2_with (refine Kq (d := some 21) rfl rfl rfl uz9 rfl (by rfl) (2 * k) (by omega) HC1.out ?_)
    refine GG rfl rfl ?_; go_wp2_with fail
    refine GG rfl rfl ?_; go_wp2_with fail
    refine GG rfl rfl ?_; go_wp2_with fail
    refine GG rfl rfl ?_; go_wp2_with (refine Kq (d := some 26) rfl rfl rfl uz9 rfl (by rfl) (2 * k + 1) (by omega) HC2.out ?_)
    refine GA rfl ?_; go_wp2_with ((go_at_call_of 147 (Value.int .u8 (b1.toNat : Int)); refine (HI1.out _).mono ?_; rintro e W22 ⟨rfl, rfl⟩)); refine Gh ?_
    refine GA rfl ?_; go_wp2_with ((go_at_call 147; refine (HI2.out _).mono ?_; rintro e W27 ⟨rfl, rfl⟩)); refine Gh ?_
    refine GA rfl ?_; go_wp2_with fail; refine Gh ?_
    refine GA rfl ?_; go_wp2_with fail; refine Gh ?_
    refine G5 ?_
    go_wp2_with (first | (refine Gq 41 rfl [_] (Kj (Gw rfl)) rfl uz22 GF rfl (by (simp [Value.cells]; done)) (by decide) (by decide) ?_; (try clear Gb); intro g41 W41 Gb; replace Ga := Ga.tr1 Gb; simp only [List.flatMap_cons, List.flatMap_nil, List.append_nil, Value.cells, List.toList_toArray] at Ga) | (refine GY (d := some 42) rfl rfl Ga rfl (by rfl) (by rfl) uz22 GF rfl (by decide) (by decide) 1 rfl (by rfl) (Ga.sl 0 rfl) (by (simp [Value.oneCell']; done)) (by omega) ?_; clear Ga; intro A42 c42 W42 Ga; simp only [Ge, Gf, List.nil_append, Nat.zero_add] at Ga))
    clear Gb
    have HV := Gg (show GK (decL s.data.toList k) ++ [Value.int .u8 (v1 * 16 + v2)] = GK (decL s.data.toList (k + 1)) by
     rw [decL_succ, Hj, HB.out]
     congr 1
     simp only [GK, List.map_cons, List.map_nil, JC, UInt8.toNat_ofNat']
     rw [Nat.mod_eq_of_lt (by omega)]
     congr 2
     omega)
    go_roundg (gk - 1)
    case measure => have hk := HK.out; omega
    case rel =>
     have hk := HK.out
     refine ⟨k + 1, A42, c42, Gg (by omega), by omega, rfl, by (rfl), ?_⟩
     rw [← HV.out]
     exact Ga.pick [1] (by decide)
   ·obtain rfl : k = t := by omega
    have hno := Hend.out hkm
    rw [HP.out] at hno
    by_cases n1 : v1 < 0
    ·clear hno hv1 hv2 HP
     go_wp2_with (fail)
     refine GO [(0, 0), (1, 0), (2, 0), (4, 0), (5, 0), (6, 0), (7, 0), (3, 2), (8, 2), (9, 2), (10, 2)] (by kernel_rfl) (by kernel_rfl) ?_
     replace Ga := Ga.drew
     refine GG rfl rfl ?_; go_wp2_with fail
     refine GG rfl rfl ?_; go_wp2_with fail
     refine GG rfl rfl ?_; go_wp2_with (refine Kq (d := some 21) rfl rfl rfl uz9 rfl (by rfl) (2 * k) (by omega) HC1.out ?_)
     refine GG rfl rfl ?_; go_wp2_with fail
     refine GG rfl rfl ?_; go_wp2_with fail
     refine GG rfl rfl ?_; go_wp2_with fail
     refine GG rfl rfl ?_; go_wp2_with (refine Kq (d := some 26) rfl rfl rfl uz9 rfl (by rfl) (2 * k + 1) (by omega) HC2.out ?_)
     refine GA rfl ?_; go_wp2_with ((go_at_call_of 147 (Value.int .u8 (b1.toNat : Int)); refine (HI1.out _).mono ?_; rintro e W22 ⟨rfl, rfl⟩)); refine Gh ?_
     refine GA rfl ?_; go_wp2_with ((go_at_call 147; refine (HI2.out _).mono ?_; rintro e W27 ⟨rfl, rfl⟩)); refine Gh ?_
     refine GA rfl ?_; go_wp2_with fail; refine Gh ?_
     refine GA rfl ?_; go_wp2_with fail; refine Gh ?_
     refine G5 ?_
     go_wp2_with (fail)
     go_ret2
     exact .inr ⟨hkm, rfl, Ga.forget⟩
    ·have n2 : v2 < 0 := by omega
     have n1' : ¬ v1 < 0 := by omega
     clear hno hv1 hv2 HP
     go_wp2_with (fail)
     refine GO [(0, 0), (1, 0), (2, 0), (4, 0), (5, 0), (6, 0), (7, 0), (3, 2), (8, 2), (9, 2), (10, 2)] (by kernel_rfl) (by kernel_rfl) ?_
     replace Ga := Ga.drew
     refine GG rfl rfl ?_; go_wp2_with fail
     refine GG rfl rfl ?_; go_wp2_with fail
     refine GG rfl rfl ?_; go_wp2_with (refine Kq (d := some 21) rfl rfl rfl uz9 rfl (by rfl) (2 * k) (by omega) HC1.out ?_)
     refine GG rfl rfl ?_; go_wp2_with fail
     refine GG rfl rfl ?_; go_wp2_with fail
     refine GG rfl rfl ?_; go_wp2_with fail
     refine GG rfl rfl ?_; go_wp2_with (refine Kq (d := some 26) rfl rfl rfl uz9 rfl (by rfl) (2 * k + 1) (by omega) HC2.out ?_)
     refine GA rfl ?_; go_wp2_with ((go_at_call_of 147 (Value.int .u8 (b1.toNat : Int)); refine (HI1.out _).mono ?_; rintro e W22 ⟨rfl, rfl⟩)); refine Gh ?_
     refine GA rfl ?_; go_wp2_with ((go_at_call 147; refine (HI2.out _).mono ?_; rintro e W27 ⟨rfl, rfl⟩)); refine Gh ?_
     refine GA rfl ?_; go_wp2_with fail; refine Gh ?_
     refine GA rfl ?_; go_wp2_with fail; refine Gh ?_
     refine G5 ?_
     go_wp2_with (fail)
     go_ret2
     exact .inr ⟨hkm, rfl, Ga.forget⟩
  ·obtain rfl : k = m := by omega
   obtain rfl : t = k := by omega
   clear hk
   go_wp2_with (fail)
   go_ret2
   exact .inl ⟨rfl, _, _, rfl, Ga⟩
end
section
open Go.RowKit
section
variable {P : Program} {ops : Array Oper} {rest : List Oper} {o : Oper} {a : Act} {W : World} {Q : Exit → Act → World → Prop} {d : Option Tmp}
theorem JP (hd : o.dst = d) (hw : Region.wanted o (yielded ops a.tmps) = true) {c x y : Operand} (ho : o.op = .pick c x y) (hc : a.eval c = .bool false) {v : Value} (hy : a.eval y = v) (h : wpList P ops Q rest (a.put d v) W) : wpList P ops Q (o :: rest) a W := by
 refine Js hd hw ?_ h
 unfold execOp
 simp [ho, hc, hy, asBool]
theorem Ka (hd : o.dst = d) (hw : Region.wanted o (yielded ops a.tmps) = true) {c x y : Operand} (ho : o.op = .pick c x y) (hc : a.eval c = .bool true) {v : Value} (hx : a.eval x = v) (h : wpList P ops Q rest (a.put d v) W) : wpList P ops Q (o :: rest) a W := by
 refine Js hd hw ?_ h
 unfold execOp
 simp [ho, hc, hx, asBool]
end
theorem dNe (x : Dig) : (!decide (x = x)) = false := by simp
end
section
open Go.RowKit
section
variable {P : Program} {ops : Array Oper} {rest : List Oper} {o : Oper} {a : Act} {W : World} {Q : Exit → Act → World → Prop} {d : Option Tmp}
theorem L_strCut (hd : o.dst = d) (hw : Region.wanted o (yielded ops a.tmps) = true) {t : TypeId} {x lo hi : Operand} (ho : o.op = .slice t x (some lo) (some hi) none) (hu : P.underlying t = some .string) {s : ByteArray} (hx : a.eval x = .string s) {k k' : IntKind} {i' j' : Int} (hl : a.eval lo = .int k i') (hh : a.eval hi = .int k' j') (i j : Nat) (hi' : i' = (i : Int)) (hj' : j' = (j : Int)) (hij : i ≤ j) (hjs : j ≤ s.size) {u : ByteArray} (hu' : s.extract i j = u)
  (h : wpList P ops Q rest (a.put d (.string u)) W) : wpList P ops Q (o :: rest) a W := by
 subst hi'
 subst hj'
 subst hu'
 refine Js hd hw ?_ h
 unfold execOp
 simp only [ho, hx]
 simp [Instr.sliceAt, Instr.slice, Instr.sliceBounds, Instr.sliceBound, asIntOf, run_underlying hu, hl, hh, hij, hjs]
theorem L_idxC (hd : o.dst = d) (hw : Region.wanted o (yielded ops a.tmps) = true) {T : TypeId} {x y : Operand} (ho : o.op = .indexAddr T x y) {g off n c : Nat} (hx : a.eval x = .slice (some ⟨g, off, none⟩) n c) {k : IntKind} {i : Int} (hy : a.eval y = .int k i)
  {e : TypeId} (hu : P.underlying T = some (.slice e)) {z : Value} {s b : Nat} (he : GW P e z s b) {xs : List Value} (hs : SlR W (some ⟨g, off, none⟩) n c s xs) (h0 : 0 ≤ i) (h1 : i < (n : Int))
  (h : W.rangeAt g (off + i.toNat * s) ((xs.drop (i.toNat * s)).take s) → wpList P ops Q rest (a.put d (.pointer (some ⟨g, off + i.toNat * s, none⟩))) W) : wpList P ops Q (o :: rest) a W := by
 refine G9 hd hw ho hx hy hu he hs h0 h1 fun g' off' e hr => ?_
 cases e
 exact h hr
theorem KE (hd : o.dst = d) (hw : Region.wanted o (yielded ops a.tmps) = true) {t t' : TypeId} {x y : Operand} (ho : o.op = .binOp .add t x y t') {s u : ByteArray} (hx : a.eval x = .string s) (hy : a.eval y = .string u) (hz : s.size + u.size ≤ 9223372036854775807) {v : ByteArray} (hv : s ++ u = v)
  (h : wpList P ops Q rest (a.put d (.string v)) W) : wpList P ops Q (o :: rest) a W := by
 subst hv
 refine Js hd hw ?_ h
 unfold execOp
 simp only [ho, hx, hy]
 have h1 : (eqGuard .add t x y (.string s) (.string u)).run P W = .ok () W := by simp [eqGuard]
 have h2 : (Go.binOp .add t (.string s) (.string u)).run P W = .ok (.string (s ++ u)) W := by
  show (Op.stringOp .add s u).run P W = _
  have h3 : ¬ (((s.size + u.size : Nat) : Int) > IntKind.i64.max) := by
   have : IntKind.i64.max = 9223372036854775807 := rfl
   rw [this]
   omega
  simp only [Op.stringOp, if_neg h3, Sem.run_pure]
 simp [h1, h2]
end
theorem digitsS_cut : ∀ k : Fin 16, PO.extract k.val (k.val + 1) = ⟨#[P7 k.val]⟩ := by decide +kernel
theorem hexV_hit : ∀ c : Fin 256, ∀ k : Fin 16, P7 k.val = UInt8.ofNat c.val → Na (UInt8.ofNat c.val) = (k.val : Int) := by decide +kernel
theorem hexV_miss : ∀ c : Fin 256, (∀ k : Fin 16, P7 k.val ≠ UInt8.ofNat c.val) → Na (UInt8.ofNat c.val) = -1 := by decide +kernel
theorem hexV_hit' (b : UInt8) (k : Nat) (hk : k < 16) (h : P7 k = b) : Na b = (k : Int) := by
 have := hexV_hit ⟨b.toNat, UInt8.toNat_lt b⟩ ⟨k, hk⟩
 simp only [UInt8.ofNat_toNat] at this
 exact this h
theorem hexV_miss' (b : UInt8) (h : ∀ k, k < 16 → P7 k ≠ b) : Na b = -1 := by
 have := hexV_miss ⟨b.toNat, UInt8.toNat_lt b⟩
 simp only [UInt8.ofNat_toNat] at this
 exact this fun k => h k.val k.isLt
theorem rdigit_any (b : UInt8) (w : World) : Calls Tryz.prog 105 #[.int .u8 (b.toNat : Int)] w fun e w' => e = .returned (.int .i64 (Na b)) ∧ St w w' [] := by
 have Ga := St.refl w
 go_enter Tryz.func105, Tryz.ntmps105
 go_wp2_with (fail)
 go_loopg [3] 16 (fun gk s3 wr => ∃ i : Nat, Hid (i + gk = 16) ∧ Hid (∀ j, j < i → P7 j ≠ b) ∧ s3 = .int .i64 (i : Int) ∧ St w wr [])
 case atStart => exact ⟨0, Lib.hid rfl, Gg (fun j hj => by omega), rfl, Ga⟩
 case round =>
  clear Ga
  obtain ⟨i, HI, HM, rfl, Ga⟩ := hrel
  have hi := HI.out
  by_cases hin : i < 16
  ·clear hi
   have HC := Gg (digitsS_at ⟨i, hin⟩)
   have HH := Gg (hexV_hit' b i hin)
   have HN := Gg (fun (h : P7 i ≠ b) => show ∀ j, j < i + 1 → P7 j ≠ b from fun j hj => by
    by_cases hji : j = i
    ·subst hji; exact h
    ·exact HM.out j (by omega))
   dsimp only at HC
   generalize P7 i = x at HC HH HN
   by_cases hxb : x = b
   ·have hv := HH.out hxb
    have HV := Gg hv
    have ht : ((x.toNat : Int) == (b.toNat : Int)) = true := by rw [hxb]; simp
    clear hv hxb HN HH
    go_wp2_with (refine Kq (d := some 9) rfl rfl rfl uz9 rfl (by rfl) i rfl HC.out ?_)
    go_ret
    exact ⟨by rw [HV.out]; rfl, Ga⟩
   ·have HN2 := Gg (HN.out hxb)
    have ht : ((x.toNat : Int) == (b.toNat : Int)) = false := by
     rw [beq_eq_false_iff_ne]
     intro e
     exact hxb (UInt8.toNat_inj.1 (by omega))
    clear hxb HN HH
    go_wp2_with (refine Kq (d := some 9) rfl rfl rfl uz9 rfl (by rfl) i rfl HC.out ?_)
    go_roundg (gk - 1)
    case measure => have hi := HI.out; omega
    case rel =>
     have hi := HI.out
     exact ⟨i + 1, Gg (by omega), HN2, by go_num, Ga⟩
  ·obtain rfl : i = 16 := by omega
   have HV := Gg (hexV_miss' b HM.out)
   clear hi HI HM
   go_wp2_with (fail)
   go_ret
   exact ⟨by rw [HV.out]; rfl, Ga⟩
theorem rhex_any (l : List UInt8) (A : Option Addr) (n c : Nat) (w : World) (hx : SlR w A n c 1 (GK l)) (hn : 2 * n ≤ 140737488355000) :
  Calls Tryz.prog 71 #[.slice A n c] w fun e w' => e = .returned (.string ⟨(NB l).toArray⟩) ∧ St w w' [] := by
 have Ga := St.refl w
 have hl := hx.1
 rw [G7, Nat.mul_one] at hl
 have Hl := Gg hl
 have hcap := hx.2.1
 have hmx := hx.2.2.1
 simp only [maxLen] at hmx
 have H0 := Gg (show (⟨#[]⟩ : ByteArray) = ⟨(NB (l.take 0)).toArray⟩ from rfl)
 clear hl
 go_enter Tryz.func71, Tryz.ntmps71
 go_wp2_with (fail)
 go_loopg [3, 4, 5, 6] n (fun gk s3 s4 s5 s6 wr => ∃ (i : Nat) (u : ByteArray), Hid (i + gk = n) ∧ s4 = .int .i64 (i : Int) ∧ s3 = .string u ∧ Hid (u = ⟨(NB (l.take i)).toArray⟩) ∧ u.size ≤ 2 * n ∧ St w wr [])
 case atStart => exact ⟨0, _, Gg (by omega), rfl, rfl, H0, Nat.zero_le _, Ga⟩
 case round =>
  clear Ga
  obtain ⟨i, u, HI, rfl, rfl, HU, hus, Ga⟩ := hrel
  have hi := HI.out
  by_cases hin : i < n
  ·clear hi
   have hb := Gg (show i < l.length by rw [Hl.out]; exact hin)
   have HC := Gg (fun (W : World) (g off : Nat) h => Me (W := W) (g := g) (off := off) (i := i) (l := l) h hb.out)
   have HT := Gg (hexL_take l i hb.out)
   have HLn := Gg (show (NB (l.take (i + 1))).length ≤ 2 * n by rw [length_hexL, List.length_take, Hl.out]; omega)
   have hx256 := UInt8.toNat_lt (l.getD i 0)
   generalize l.getD i 0 = x at *
   obtain ⟨ob, oo, rfl, _⟩ := hx.2.2.2 (by omega)
   have h1 : x.toNat / 16 < 16 := by omega
   have h2 : x.toNat % 16 < 16 := by omega
   have HD1 := Gg (show PO.extract (x.toNat / 16) (x.toNat / 16 + 1) = ⟨#[P7 (x.toNat / 16)]⟩ from digitsS_cut ⟨x.toNat / 16, h1⟩)
   have HD2 := Gg (show PO.extract (x.toNat % 16) (x.toNat % 16 + 1) = ⟨#[P7 (x.toNat % 16)]⟩ from digitsS_cut ⟨x.toNat % 16, h2⟩)
   go_wp2_with (first | (refine L_idxC (d := some 15) rfl rfl rfl (by rfl) (by rfl) uz22 GF (Ga.old (by decide) hx) (by omega) (by omega) ?_; intro hr15) | (refine L_idxC (d := some 21) rfl rfl rfl (by rfl) (by rfl) uz22 GF (Ga.old (by decide) hx) (by omega) (by omega) ?_; intro hr21) | (refine Gj 16 rfl (by rfl) uz5 rfl (HC.out _ _ _ hr15) ?_) | (refine Gj 22 rfl (by rfl) uz5 rfl (HC.out _ _ _ hr21) ?_))
   refine GO [(0, 0), (1, 0), (2, 0), (3, 0), (4, 0), (5, 0), (6, 2), (7, 2), (8, 2), (9, 2), (10, 2), (11, 2)] (by kernel_rfl) (by kernel_rfl) ?_
   replace Ga := Ga.drew
   refine GG rfl rfl ?_; go_wp2_with fail
   refine GG rfl rfl ?_; go_wp2_with fail
   refine GG rfl rfl ?_; go_wp2_with fail
   refine GG rfl rfl ?_; go_wp2_with fail
   refine GG rfl rfl ?_; go_wp2_with (refine L_strCut (d := some 29) rfl rfl rfl uz9 GT (Gw rfl) (Gw rfl) (x.toNat / 16) (x.toNat / 16 + 1) (by omega) (by omega) (by omega) (by (show _ ≤ 16; omega)) HD1.out ?_)
   refine GG rfl rfl ?_; go_wp2_with fail
   refine GA rfl ?_; go_wp2_with fail; refine Gh ?_
   refine GA rfl ?_; go_wp2_with fail; refine Gh ?_
   refine GA rfl ?_; go_wp2_with (refine L_strCut (d := some 33) rfl rfl rfl uz9 GT (Gw rfl) (Gw rfl) (x.toNat % 16) (x.toNat % 16 + 1) (by omega) (by omega) (by omega) (by (show _ ≤ 16; omega)) HD2.out ?_); refine Gh ?_
   refine GA rfl ?_; go_wp2_with (fail); refine Gh ?_
   refine GA rfl ?_; go_wp2_with (refine KE (d := some 35) rfl rfl rfl (Gw rfl) (Gw rfl) (by show _ + 2 ≤ _; omega) rfl ?_); refine Gh ?_
   refine GA rfl ?_; go_wp2_with fail; refine Gh ?_
   refine G5 ?_
   go_wp2_with (fail)
   go_roundg (gk - 1)
   case measure => have hi := HI.out; omega
   case rel =>
    have hi := HI.out
    have he : u ++ ((⟨#[P7 (x.toNat / 16)]⟩ : ByteArray) ++ ⟨#[P7 (x.toNat % 16)]⟩) = ⟨(NB (l.take (i + 1))).toArray⟩ := by
     rw [HT.out, HU.out]
     apply ByteArray.ext
     simp
    refine ⟨i + 1, _, Gg (by omega), by go_num, rfl, Gg he, ?_, Ga⟩
    rw [he]
    exact HLn.out
  ·obtain rfl : i = n := by omega
   have hta : l.take i = l := List.take_of_length_le (by rw [Hl.out]; exact Nat.le_refl _)
   rw [hta] at HU
   clear hi HI hta
   go_wp2_with (fail)
   go_ret
   exact ⟨by rw [HU.out]; rfl, Ga⟩
def RUnhexEnd (l : List UInt8) (m t : Nat) (pb : Bool) (w : World) (e : Ending) (w' : World) : Prop :=
 (t = m ∧ ∃ A c, e = .returned (.tuple #[.slice A m c, .bool pb]) ∧ St w w' [.row A m c 5 1 (GK (decL l m))]) ∨ (t < m ∧ e = .returned (.tuple #[.slice none 0 0, .bool false]) ∧ St w w' [])
theorem runhex_any (s : ByteArray) (m t : Nat) (pb : Bool) (w : World) (hs : s.size ≤ 140737488355000) (hm : m = s.size / 2) (hpb : ((s.size : Int) % 2 == 0) = pb) (ht : t ≤ m) (hok : ∀ j, j < t → pairOk s.data.toList j) (hend : t < m → ¬ pairOk s.data.toList t) :
  Calls Tryz.prog 73 #[.string s] w (RUnhexEnd s.data.toList m t pb w) := by
 have Ga := St.refl w
 have Hok := Gg hok
 have Hend := Gg hend
 have hm2 : 2 * m ≤ s.size := by omega
 have hm3 : s.size < 2 * m + 2 := by omega
 have Hat := Gg (fun j => str_at s j)
 clear hok hend hm
 go_enter Tryz.func73, Tryz.ntmps73
 go_wp2_with (fail)
 have Ga : St w w [.row none 0 0 5 1 (GK (decL s.data.toList 0))] := Ga.nilRow 5 1
 go_loopg [4, 5, 6, 7] m (fun gk s4 s5 s6 s7 wr => ∃ (k : Nat) (O : Option Addr) (oc : Nat), Hid (k + gk = m) ∧ k ≤ t ∧ s4 = .slice O k oc ∧ s5 = .int .i64 ((2 * k : Nat) : Int) ∧ St w wr [.row O k oc 5 1 (GK (decL s.data.toList k))])
 case atStart => exact ⟨0, _, _, Gg (by omega), by omega, rfl, rfl, Ga⟩
 case round =>
  clear Ga
  obtain ⟨k, O, oc, HK, hkt, rfl, rfl, Ga⟩ := hrel
  have hk := HK.out
  have e1 : ((2 * k : Nat) : Int) = 2 * (k : Int) := by omega
  rw [e1]
  clear e1
  by_cases hkm : k < m
  ·clear hk
   have HC1 := Gg (Hat.out (2 * k) (by omega))
   have HC2 := Gg (Hat.out (2 * k + 1) (by omega))
   have HP := Gg (show pairOk s.data.toList k ↔ 0 ≤ Na (s.data.toList.getD (2 * k) 0) ∧ 0 ≤ Na (s.data.toList.getD (2 * k + 1) 0) from Iff.rfl)
   have HB := Gg (show pairB s.data.toList k = UInt8.ofNat ((Na (s.data.toList.getD (2 * k) 0)).toNat * 16 + (Na (s.data.toList.getD (2 * k + 1) 0)).toNat) from rfl)
   generalize s.data.toList.getD (2 * k) 0 = b1 at *
   generalize s.data.toList.getD (2 * k + 1) 0 = b2 at *
   have HI1 := Gg (fun w => rdigit_any b1 w)
   have HI2 := Gg (fun w => rdigit_any b2 w)
   have hv1 := hexV_cases b1
   have hv2 := hexV_cases b2
   generalize Na b1 = v1 at *
   generalize Na b2 = v2 at *
   by_cases hkt' : k < t
   ·obtain ⟨p1, p2⟩ := HP.out.1 (Hok.out k hkt')
    have q1 := (hv1.resolve_left (by omega)).2.1
    have q2 := (hv2.resolve_left (by omega)).2.1
    have n1 : ¬ v1 < 0 := by omega
    have n2 : ¬ v2 < 0 := by omega
    clear hv1 hv2 HP
    go_upto_region 5 with (fail)
    go_upto_region 6 with (first | (refine Kq (d := some 17) rfl rfl rfl uz9 rfl (by rfl) (2 * k) (by omega) HC1.out ?_) | (go_at_call 105; (try clear Gb); refine (HI1.out _).mono ?_; rintro e Wk1 ⟨rfl, Gb⟩; replace Ga := Ga.keep Gb))
    go_upto_region 7 with (first | (refine Kq (d := some 22) rfl rfl rfl uz9 rfl (by rfl) (2 * k + 1) (by omega) HC2.out ?_) | (go_at_call 105; (try clear Gb); refine (HI2.out _).mono ?_; rintro e Wk2 ⟨rfl, Gb⟩; replace Ga := Ga.keep Gb))
    go_wp2_with (first | (refine Gq 36 rfl [_] (Kj (Gw rfl)) rfl uz22 GF rfl (by (simp [Value.cells]; done)) (by decide) (by decide) ?_; (try clear Gb); intro g36 W36 Gb; replace Ga := Ga.tr1 Gb; simp only [List.flatMap_cons, List.flatMap_nil, List.append_nil, Value.cells, List.toList_toArray] at Ga) | (refine GY (d := some 37) rfl rfl Ga rfl (by rfl) (by rfl) uz22 GF rfl (by decide) (by decide) 1 rfl (by rfl) (Ga.sl 0 rfl) (by (simp [Value.oneCell']; done)) (by omega) ?_; clear Ga; intro A37 c37 W37 Ga; simp only [Ge, Gf, List.nil_append, Nat.zero_add] at Ga))
    clear Gb
    have HV := Gg (show GK (decL s.data.toList k) ++ [Value.int .u8 (v1 * 16 + v2)] = GK (decL s.data.toList (k + 1)) by
     rw [decL_succ, Hj, HB.out]
     congr 1
     simp only [GK, List.map_cons, List.map_nil, JC, UInt8.toNat_ofNat']
     rw [Nat.mod_eq_of_lt (by omega)]
     congr 2
     omega)
    go_roundg (gk - 1)
    case measure => have hk := HK.out; omega
    case rel =>
     have hk := HK.out
     refine ⟨k + 1, A37, c37, Gg (by omega), by omega, rfl, by (rfl), ?_⟩
     rw [← HV.out]
     exact Ga.pick [1] (by decide)
   ·obtain rfl : k = t := by omega
    have hno := Hend.out hkm
    rw [HP.out] at hno
    by_cases n1 : v1 < 0
    ·clear hno hv1 hv2 HP
     go_upto_region 5 with (fail)
     go_upto_region 6 with (first | (refine Kq (d := some 17) rfl rfl rfl uz9 rfl (by rfl) (2 * k) (by omega) HC1.out ?_) | (go_at_call 105; (try clear Gb); refine (HI1.out _).mono ?_; rintro e Wk3 ⟨rfl, Gb⟩; replace Ga := Ga.keep Gb))
     go_upto_region 7 with (first | (refine Kq (d := some 22) rfl rfl rfl uz9 rfl (by rfl) (2 * k + 1) (by omega) HC2.out ?_) | (go_at_call 105; (try clear Gb); refine (HI2.out _).mono ?_; rintro e Wk4 ⟨rfl, Gb⟩; replace Ga := Ga.keep Gb))
     go_wp2_with (fail)
     go_ret2
     exact .inr ⟨hkm, rfl, Ga.forget⟩
    ·have n2 : v2 < 0 := by omega
     have n1' : ¬ v1 < 0 := by omega
     clear hno hv1 hv2 HP
     go_upto_region 5 with (fail)
     go_upto_region 6 with (first | (refine Kq (d := some 17) rfl rfl rfl uz9 rfl (by rfl) (2 * k) (by omega) HC1.out ?_) | (go_at_call 105; (try clear Gb); refine (HI1.out _).mono ?_; rintro e Wk5 ⟨rfl, Gb⟩; replace Ga := Ga.keep Gb))
     go_upto_region 7 with (first | (refine Kq (d := some 22) rfl rfl rfl uz9 rfl (by rfl) (2 * k + 1) (by omega) HC2.out ?_) | (go_at_call 105; (try clear Gb); refine (HI2.out _).mono ?_; rintro e Wk6 ⟨rfl, Gb⟩; replace Ga := Ga.keep Gb))
     go_wp2_with (fail)
     go_ret2
     exact .inr ⟨hkm, rfl, Ga.forget⟩
  ·obtain rfl : k = m := by omega
   obtain rfl : t = k := by omega
   clear hk
   go_wp2_with (fail)
   go_ret2
   exact .inl ⟨rfl, _, _, rfl, Ga⟩
end
section
open Go.ChangeShapes Go.WideShapes Go.ChangeAt Go.RowKit Go.Deep
abbrev Hd := Int × Dig × Dig × Dig
def Hd.cells (h : Hd) : List Value := hdCells h.1 h.2.1 h.2.2.1 h.2.2.2
abbrev DPiece := Option Addr × Nat × Nat × List Dig
def DPiece.v (p : DPiece) : Value := .slice p.1 p.2.1 p.2.2.1
section
variable {P : Program} {H : Type} {enc : TypeId × Value → H} {W : World} {base : Nat} {spare : Nat → Bool} {held : Bool}
end
end
section
open Go.RowKit
section
variable {P : Program} {ops : Array Oper} {rest : List Oper} {o : Oper} {a : Act} {W : World} {Q : Exit → Act → World → Prop} {d : Option Tmp}
theorem L_fieldD (hd : o.dst = d) (hw : Region.wanted o (yielded ops a.tmps) = true) {T : TypeId} {x : Operand} {k : Nat} (ho : o.op = .field T x k) {fs : Array Field} (hu : P.underlying T = some (.struct fs)) {fl : Field} (hf : fs[k]? = some fl) {cs : Array Value} (hx : a.eval x = .agg cs)
  {e : TypeId} (ht : P.underlying fl.type = some (.array 32 e)) {z : Value} {b : Nat} (hi : GW P fl.type z 32 b) {q : Dig} (hc : (cs.toList.drop fl.offset).take 32 = q.arr.toList)
  (h : wpList P ops Q rest (a.put d (.agg q.arr)) W) : wpList P ops Q (o :: rest) a W := by
 refine Js hd hw ?_ h
 unfold execOp
 simp only [ho, hx]
 simp [Instr.field, run_underlying hu, hf, asAgg, run_partD ht hi hc]
end
end
section
open Go.RowKit
attribute [local simp] GR
def dgS : ByteArray := ⟨#[48, 49, 50, 51, 52, 53, 54, 55, 56, 57]⟩
theorem dgS_cut : ∀ k : Fin 10, dgS.extract k.val (k.val + 1) = GZ [UInt8.ofNat (48 + k.val)] := by decide +kernel
def numN (m : Nat) (out : List UInt8) : List UInt8 := if m = 0 then (if out = [] then Lib.decDigits 0 else out) else Lib.decDigits m ++ out
theorem numN_nil (n : Nat) : numN n [] = Lib.decDigits n := by
 unfold numN
 by_cases h : n = 0
 ·rw [if_pos h, if_pos rfl, h]
 ·rw [if_neg h, List.append_nil]
theorem numN_step (m : Nat) (out : List UInt8) (h : 0 < m ∨ out = []) : numN (m / 10) (UInt8.ofNat (48 + m % 10) :: out) = numN m out := by
 unfold numN
 by_cases h0 : m = 0
 ·subst h0
  obtain rfl : out = [] := by simpa using h
  have e : Lib.decDigits 0 = [48] := by rw [Lib.decDigits, dif_pos (by decide)]; rfl
  simp [e]
 ·rw [if_neg h0]
  by_cases h1 : m < 10
  ·have e : m / 10 = 0 := by omega
   rw [if_pos e, if_neg (by simp), Lib.decDigits, dif_pos h1, Nat.mod_eq_of_lt h1]
   rfl
  ·rw [if_neg (by omega), Lib.decDigits.eq_1 m, dif_neg h1, List.append_assoc]
   rfl
theorem rnumber_any (n : Nat) (hn : n ≤ 4294967296) (w : World) : Calls Tryz.prog 72 #[.int .i64 (n : Int)] w fun e w' => e = .returned (.string (GZ (Lib.decDigits n))) ∧ St w w' [] := by
 have Ga := St.refl w
 go_enter Tryz.func72, Tryz.ntmps72
 go_upto_region 1 with (go_big_may; fail)
 go_wp2_with (fail)
 go_loopg [0, 3] (n + 1) (fun gk s0 s3 wr => ∃ (m : Nat) (out : List UInt8), Hid (numN m out = Lib.decDigits n) ∧ Hid (out.length + m ≤ n + 1) ∧ Hid (m < gk ∨ m = 0 ∧ out ≠ []) ∧ s0 = .int .i64 (m : Int) ∧ s3 = .string (GZ out) ∧ St w wr [])
 case atStart => exact ⟨n, [], Gg (numN_nil n), Gg (by simp), Gg (.inl (by omega)), rfl, rfl, Ga⟩
 case round =>
  clear Ga
  obtain ⟨m, out, HV, HZ, HG, rfl, rfl, Ga⟩ := hrel
  have hz := HZ.out
  have hob := Hf out
  by_cases hm : m = 0
  ·by_cases ho : out = []
   ·subst hm
    subst ho
    have HS := Gg (numN_step 0 [] (.inr rfl))
    have HC := Gg (dgS_cut 0)
    have hg : 0 < gk := by
     rcases HG.out with h | h
     ·exact h
     ·exact absurd rfl h.2
    clear hz hob
    go_upto_region 3 with (go_big_may; (refine Ja (d := some 9) rfl rfl rfl (by kernel_rfl) uz9 (s := []) (u := []) (Gw rfl) GT ?_))
    go_upto_region 4 with (go_big_may; fail)
    go_upto_region 5 with (go_big_may; first | (refine L_strCut (d := some 16) rfl rfl rfl uz9 (s := dgS) GT (Gw rfl) (Gw rfl) 0 1 rfl rfl (by decide) (by decide) HC.out ?_) | (refine KE (d := some 18) rfl rfl rfl (Gw rfl) (Gw rfl) (by decide) (KL _ _) ?_))
    go_wp2_with (fail)
    go_roundg 0
    case measure => omega
    case rel => exact ⟨0, [48], Gg (HS.out.trans HV.out), Gg (by simp), Gg (.inr ⟨rfl, by simp⟩), by go_num, rfl, Ga⟩
   ·subst hm
    have HE := Gg (show decide (out = []) = false from decide_eq_false ho)
    have HR := Gg (show out = Lib.decDigits n by
     have := HV.out
     unfold numN at this
     rwa [if_pos rfl, if_neg ho] at this)
    clear hz hob HV HG HZ
    go_upto_region 6 with (go_big_may; (refine Ja (d := some 9) rfl rfl rfl (by kernel_rfl) uz9 (s := out) (u := []) (Gw rfl) GT ?_; rewrite [HE.out]))
    go_wp2_with (fail)
    go_ret
    rw [← HR.out]
    exact ⟨rfl, Ga⟩
  ·have p1 : (0 : Int) < (m : Int) := by omega
   have p2 : 0 < m := by omega
   have e2 : decide (0 < m) = true := decide_eq_true p2
   obtain ⟨b, hb⟩ : ∃ b, b = UInt8.ofNat (48 + m % 10) := ⟨_, rfl⟩
   have HS := Gg (numN_step m out (.inl (by omega)))
   have HC := Gg (dgS_cut ⟨m % 10, by omega⟩)
   simp only at HC
   rewrite [← hb] at HS HC
   clear hb
   have hg : m < gk := by rcases HG.out with h | h <;> omega
   have hlt : m % 10 < 10 := by omega
   have HM := Gg (show (m : Int) % 10 = ((m % 10 : Nat) : Int) by omega)
   go_upto_region 3 with (first | (with_reducible refine GI (t := 8) rfl (by kernel_rfl) ?_) | (with_reducible refine GI (t := 9) rfl (by kernel_rfl) ?_))
   go_upto_region 4 with (go_big_may; fail)
   go_upto_region 5 with (go_big_may; first | (refine L_strCut (d := some 16) rfl rfl rfl uz9 (s := dgS) GT (Gw rfl) (Gw rfl) (m % 10) (m % 10 + 1) (by rfl) (by rfl) (by omega) (by show _ ≤ 10; omega) HC.out ?_) | (refine KE (d := some 18) rfl rfl rfl (Gw rfl) (Gw rfl) (by rw [Hf, Hf]; simp only [List.length_singleton]; omega) (KL _ _) ?_))
   go_wp2_with (fail)
   go_roundg m
   case measure => omega
   case rel => exact ⟨m / 10, b :: out, Gg (HS.out.trans HV.out), Gg (by have := HZ.out; rw [List.length_cons]; omega), Gg (by by_cases h : m / 10 = 0; exact .inr ⟨h, by simp⟩; exact .inl (by omega)), by go_num, rfl, Ga⟩
theorem slr_range {W : World} {g o : Nat} {x : Dig} (h : W.rangeAt g o x.arr.toList) : SlR W (some ⟨g, o, none⟩) 32 32 1 (GK x.l) := by
 rw [← Dig.toList]
 exact ⟨by simp [Dig.size], Nat.le_refl _, by decide, fun _ => ⟨g, o, rfl, h⟩⟩
theorem slr_dig {W : World} {g t : Nat} {x : Dig} {fr : Nat × Nat} (h : W.heap[g]? = some (.cells x.arr t fr)) : SlR W (some ⟨g, 0, none⟩) 32 32 1 (GK x.l) :=
 slr_range (Jk h (fun j v hv => by simpa using hv))
def Np (n : Nat) (x y : Dig) : List UInt8 := Lib.decDigits n ++ [32] ++ NB x.l ++ [32] ++ NB y.l
theorem itoa_nat (n : Nat) : Lib.itoa (n : Int) = Lib.decDigits n := by
 unfold Lib.itoa
 rw [if_neg (by omega), Int.toNat_natCast]
theorem Ph (n : Nat) : (Lib.decDigits n).length ≤ n + 1 := by
 induction n using Nat.strongRecOn with
 | ind n ih =>
 rw [Lib.decDigits]
 by_cases h : n < 10
 ·rw [dif_pos h]; simp
 ·rw [dif_neg h, List.length_append, List.length_singleton]
  have := ih (n / 10) (by omega)
  omega
theorem P8 (x : Dig) : (NB x.l).length = 64 := by rw [length_hexL, x.h]
theorem rheadText_any (n : Nat) (x y z : Dig) (hn : n ≤ 4294967296) (w : World) : Calls Tryz.prog 67 #[.agg (H9 (n : Int) x y z)] w fun e w' => e = .returned (.string (GZ (Np n x y))) ∧ St w w' [] := by
 have Ga := St.refl w
 have HN := Gg (fun w' => rnumber_any n hn w')
 have HX := Gg (fun (A : Option Addr) (w' : World) (h : SlR w' A 32 32 1 (GK x.l)) => show Calls Tryz.prog 71 #[.slice A 32 32] w' fun e w2 => e = .returned (.string (GZ (NB x.l))) ∧ St w' w2 [] from rhex_any x.l A 32 32 w' h (by decide))
 have HY := Gg (fun (A : Option Addr) (w' : World) (h : SlR w' A 32 32 1 (GK y.l)) => show Calls Tryz.prog 71 #[.slice A 32 32] w' fun e w2 => e = .returned (.string (GZ (NB y.l))) ∧ St w' w2 [] from rhex_any y.l A 32 32 w' h (by decide))
 have hd1 := Ph n
 have hx1 := P8 x
 have hy1 := P8 y
 unfold Np
 generalize Lib.decDigits n = dn at *
 go_enter Tryz.func67, Tryz.ntmps67
 go_upto_region 1 with (go_big_may; (refine Gm 1 rfl (Gw rfl) ?_; (try clear Gb); intro g1 W1 Gb; replace Ga := Ga.tr1 Gb))
 go_upto_region 2 with (go_big_may; first | (refine Gn 6 rfl (by rfl) uz32 rfl Gv (Hy (Ga.get 0 rfl)) (Dig.size _) ?_) | (refine Gk 3 rfl Gv ?_; (try clear Gb); intro g3 W3 Gb; replace Ga := Ga.tr1 Gb) | ((refine Gr 3 6 Ga rfl (by rfl) (Gw rfl) (Dig.one _) Gv (Dig.size _) 0 rfl (by rfl) ?_; clear Ga; intro WS3 Ga; simp only [Ge, Gf] at Ga)))
 go_upto_region 3 with (go_big_may; first | (refine Gn 8 rfl (by rfl) uz32 rfl Gv (Jt (Ga.get 1 rfl)) (Dig.size _) ?_) | (refine Gk 4 rfl Gv ?_; (try clear Gb); intro g4 W4 Gb; replace Ga := Ga.tr1 Gb) | ((refine Gr 4 8 Ga rfl (by rfl) (Gw rfl) (Dig.one _) Gv (Dig.size _) 0 rfl (by rfl) ?_; clear Ga; intro WS3 Ga; simp only [Ge, Gf] at Ga)))
 (try clear Gb)
 refine GO [(0, 0), (1, 0), (4, 0), (8, 0), (2, 2), (3, 0), (5, 2), (6, 0), (7, 0), (9, 2), (10, 2), (11, 2)] (by kernel_rfl) (by kernel_rfl) ?_
 replace Ga := Ga.drew
 refine H8 rfl rfl (by kernel_rfl) ?_; go_wp2_with fail
 refine GG rfl rfl ?_; go_wp2_with (refine Gj 10 rfl (by rfl) uz3 rfl (Gy (Ga.get 2 rfl) GQ) ?_)
 refine GG rfl rfl ?_; go_wp2_with (refine Jx (d := some 13) rfl rfl rfl (by rfl) uz32 GF (Ga.get 1 rfl) (Dig.size _) (by decide) ?_; intro hs13)
 refine GG rfl rfl ?_; go_wp2_with (refine Jx (d := some 17) rfl rfl rfl (by rfl) uz32 GF (Ga.get 0 rfl) (Dig.size _) (by decide) ?_; intro hs17)
 refine GA rfl ?_; go_wp2_with ((go_at_call 72; (try clear Gb); refine (HN.out _).mono ?_; rintro e Wk1 ⟨rfl, Gb⟩; replace Ga := Ga.keep Gb)); refine Gi Gb ?_
 refine idx_sa rfl rfl (Gw rfl) GT ?_; go_wp2_with (refine KE (d := some 12) rfl rfl rfl (u := GZ [32]) (Gw rfl) GT (by simp only [Hf, List.length_append, List.length_cons, List.length_nil]; omega) (KL _ _) ?_)
 refine GA rfl ?_; go_wp2_with ((go_at_call_of 71 (Value.slice (some ⟨g3, 0, none⟩) 32 32); (try clear Gb); have h1 := slr_dig (Ga.get 1 rfl); refine (HX.out _ _ h1).mono ?_; clear h1; rintro e Wx ⟨rfl, Gb⟩; replace Ga := Ga.keep Gb)); refine Gi Gb ?_
 refine idx_sa rfl rfl (Gw rfl) (Gw rfl) ?_; go_wp2_with (refine KE (d := some 15) rfl rfl rfl (Gw rfl) (Gw rfl) (by simp only [Hf, List.length_append, List.length_cons, List.length_nil]; omega) (KL _ _) ?_)
 refine idx_sa rfl rfl (Gw rfl) GT ?_; go_wp2_with (refine KE (d := some 16) rfl rfl rfl (u := GZ [32]) (Gw rfl) GT (by simp only [Hf, List.length_append, List.length_cons, List.length_nil]; omega) (KL _ _) ?_)
 refine GA rfl ?_; go_wp2_with ((go_at_call_of 71 (Value.slice (some ⟨g4, 0, none⟩) 32 32); (try clear Gb); have h1 := slr_dig (Ga.get 0 rfl); refine (HY.out _ _ h1).mono ?_; clear h1; rintro e Wx ⟨rfl, Gb⟩; replace Ga := Ga.keep Gb)); refine Gi Gb ?_
 refine GA rfl ?_; go_wp2_with (refine KE (d := some 19) rfl rfl rfl (Gw rfl) (Gw rfl) (by simp only [Hf, List.length_append, List.length_cons, List.length_nil]; omega) (KL _ _) ?_); refine Gh ?_
 refine GA rfl ?_; go_wp2_with fail; refine Gh ?_
 refine G5 ?_
 go_wp2_with fail
 go_ret
 refine ⟨?_, Ga.forget⟩
 simp
theorem headed_any (n : Nat) (x y z : Dig) (hn : n ≤ 4294967296) (w : World) (hP : Pz w) : Calls Tryz.prog 109 #[.agg (H9 (n : Int) x y z)] w fun e w' => e = .returned (.string (GZ (Np n x y))) ∧ St w w' [] := by
 have Ga := St.refl w
 have HP := Gg hP
 have HN := Gg (fun (w' : World) (h : Pz w') => by
  have := itoa_any (n : Int) (by omega) (by omega) w' h
  rw [itoa_nat] at this
  exact this)
 have HX := Gg (fun (A : Option Addr) (w' : World) (h : SlR w' A 32 32 1 (GK x.l)) => show Calls Tryz.prog 134 #[.slice A 32 32] w' fun e w2 => e = .returned (.string (GZ (NB x.l))) ∧ St w' w2 [] from hex_any x.l A 32 32 w' h (by decide))
 have HY := Gg (fun (A : Option Addr) (w' : World) (h : SlR w' A 32 32 1 (GK y.l)) => show Calls Tryz.prog 134 #[.slice A 32 32] w' fun e w2 => e = .returned (.string (GZ (NB y.l))) ∧ St w' w2 [] from hex_any y.l A 32 32 w' h (by decide))
 have hd1 := Ph n
 have hx1 := P8 x
 have hy1 := P8 y
 unfold Np
 generalize Lib.decDigits n = dn at *
 clear hP
 go_enter Tryz.func109, Tryz.ntmps109
 go_upto_region 1 with (go_big_may; (refine Gm 1 rfl (Gw rfl) ?_; (try clear Gb); intro g1 W1 Gb; replace Ga := Ga.tr1 Gb))
 (try clear Gb)
 refine GO [(0, 0), (1, 0), (4, 0), (5, 0), (9, 0), (10, 0), (2, 2), (3, 0), (6, 2), (7, 0), (8, 0), (11, 2), (12, 2), (13, 2)] (by kernel_rfl) (by kernel_rfl) ?_
 replace Ga := Ga.drew
 refine H8 rfl rfl (by kernel_rfl) ?_; go_wp2_with fail
 refine GG rfl rfl ?_; go_wp2_with (refine Gj 4 rfl (by rfl) uz3 rfl (Gy (Ga.get 0 rfl) GQ) ?_)
 refine H8 rfl rfl (by kernel_rfl) ?_; go_wp2_with fail
 refine GG rfl rfl ?_; go_wp2_with (refine K7 (d := some 8) rfl rfl rfl (by rfl) uz32 GF (Hy (Ga.get 0 rfl)) (Dig.size _) (by decide) ?_; intro hs8; clear hs8)
 refine H8 rfl rfl (by kernel_rfl) ?_; go_wp2_with fail
 refine GG rfl rfl ?_; go_wp2_with (refine K7 (d := some 13) rfl rfl rfl (by rfl) uz32 GF (Jt (Ga.get 0 rfl)) (Dig.size _) (by decide) ?_; intro hs13; clear hs13)
 refine GA rfl ?_; go_wp2_with ((go_at_call 133; (try clear Gb); refine (HN.out _ (HP.out.of Ga)).mono ?_; rintro e Wk2 ⟨rfl, Gb⟩; replace Ga := Ga.keep Gb)); refine Gi Gb ?_
 refine idx_sa rfl rfl (Gw rfl) GT ?_; go_wp2_with (refine KE (d := some 6) rfl rfl rfl (u := GZ [32]) (Gw rfl) GT (by simp only [Hf, List.length_append, List.length_cons, List.length_nil]; omega) (KL _ _) ?_)
 refine GA rfl ?_; go_wp2_with ((go_at_call_of 134 (Value.slice (some ⟨g1, 1, none⟩) 32 32); (try clear Gb); have h1 := slr_range (Hy (Ga.get 0 rfl)); refine (HX.out _ _ h1).mono ?_; clear h1; rintro e Wx ⟨rfl, Gb⟩; replace Ga := Ga.keep Gb)); refine Gi Gb ?_
 refine idx_sa rfl rfl (Gw rfl) (Gw rfl) ?_; go_wp2_with (refine KE (d := some 10) rfl rfl rfl (Gw rfl) (Gw rfl) (by simp only [Hf, List.length_append, List.length_cons, List.length_nil]; omega) (KL _ _) ?_)
 refine idx_sa rfl rfl (Gw rfl) GT ?_; go_wp2_with (refine KE (d := some 11) rfl rfl rfl (u := GZ [32]) (Gw rfl) GT (by simp only [Hf, List.length_append, List.length_cons, List.length_nil]; omega) (KL _ _) ?_)
 refine GA rfl ?_; go_wp2_with ((go_at_call_of 134 (Value.slice (some ⟨g1, 33, none⟩) 32 32); (try clear Gb); have h1 := slr_range (Jt (Ga.get 0 rfl)); refine (HY.out _ _ h1).mono ?_; clear h1; rintro e Wx ⟨rfl, Gb⟩; replace Ga := Ga.keep Gb)); refine Gi Gb ?_
 refine GA rfl ?_; go_wp2_with (refine KE (d := some 15) rfl rfl rfl (Gw rfl) (Gw rfl) (by simp only [Hf, List.length_append, List.length_cons, List.length_nil]; omega) (KL _ _) ?_); refine Gh ?_
 refine GA rfl ?_; go_wp2_with fail; refine Gh ?_
 refine G5 ?_
 go_wp2_with fail
 go_ret
 refine ⟨?_, Ga.forget⟩
 simp
end
section
open Go.RowKit
def hx64 (l : List UInt8) : Prop := l.length = 64 ∧ ∀ j, j < 32 → pairOk l j
def PY (l : List UInt8) : Dig := ⟨decL l 32, length_decL l 32⟩
theorem first_bad (p : Nat → Prop) : ∀ m : Nat, ∃ t, t ≤ m ∧ (∀ j, j < t → p j) ∧ (t < m → ¬ p t)
 | 0 => ⟨0, Nat.le_refl _, fun j h => absurd h (by omega), fun h => absurd h (by omega)⟩
 | m + 1 => by
  obtain ⟨t, h1, h2, h3⟩ := first_bad p m
  by_cases ht : t < m
  ·exact ⟨t, by omega, h2, fun _ => h3 ht⟩
  ·obtain rfl : t = m := by omega
   by_cases hp : p t
   ·exact ⟨t + 1, Nat.le_refl _, fun j hj => by
     by_cases hjt : j = t
     ·rw [hjt]; exact hp
     ·exact h2 j (by omega), fun h => absurd h (by omega)⟩
   ·exact ⟨t, by omega, h2, fun _ => hp⟩
theorem unhexP_yes (l : List UInt8) (h : hx64 l) (w : World) : Calls Tryz.prog 132 #[.string (GZ l)] w fun e w' => ∃ A c, e = .returned (.tuple #[.slice A 32 c, .nilIface]) ∧ St w w' [.row A 32 c 5 1 (GK (PY l).l)] := by
 have hz := Hf l
 have := unhex_any (GZ l) 32 32 w (by rw [hz, h.1]; decide) (by rw [hz, h.1]) (Nat.le_refl _) (fun j hj => by rw [Km]; exact h.2 j hj) (fun h => absurd h (by omega))
 rw [Km] at this
 refine this.mono ?_
 rintro e w' (⟨_, A, c, rfl, Ga⟩ | ⟨hlt, _⟩)
 ·exact ⟨A, c, rfl, Ga⟩
 ·omega
theorem unhexP_no (l : List UInt8) (h : ¬ hx64 l) (hl : l.length ≤ 140737488355000) :
  (∃ m bs, m ≠ 32 ∧ ∀ w, Calls Tryz.prog 132 #[.string (GZ l)] w fun e w' => ∃ A c, e = .returned (.tuple #[.slice A m c, .nilIface]) ∧ St w w' [.row A m c 5 1 bs]) ∨
  ∀ w, Calls Tryz.prog 132 #[.string (GZ l)] w fun e w' => e = .returned (.tuple #[.slice none 0 0, JL 1]) ∧ St w w' [] := by
 have hz := Hf l
 by_cases ho : l.length % 2 = 1
 ·exact .inr fun w => unhex_odd (GZ l) w (by rw [hz]; exact hl) (by rw [hz]; exact ho)
 ·obtain ⟨t, h1, h2, h3⟩ := first_bad (pairOk l) (l.length / 2)
  have hc := fun w => unhex_any (GZ l) (l.length / 2) t w (by rw [hz]; exact hl) (by rw [hz]; omega) h1 (fun j hj => by rw [Km]; exact h2 j hj) (fun ht => by rw [Km]; exact h3 ht)
  rw [Km] at hc
  by_cases ht : t = l.length / 2
  ·refine .inl ⟨l.length / 2, GK (decL l (l.length / 2)), fun hm => h ⟨by omega, fun j hj => h2 j (by omega)⟩, fun w => (hc w).mono ?_⟩
   rintro e w' (⟨_, A, c, rfl, Ga⟩ | ⟨h4, _⟩)
   ·exact ⟨A, c, rfl, Ga⟩
   ·omega
  ·refine .inr fun w => (hc w).mono ?_
   rintro e w' (⟨h4, _⟩ | ⟨_, rfl, Ga⟩)
   ·exact absurd h4 ht
   ·exact ⟨rfl, Ga⟩
theorem runhexP_yes (l : List UInt8) (h : hx64 l) (w : World) : Calls Tryz.prog 73 #[.string (GZ l)] w fun e w' => ∃ A c, e = .returned (.tuple #[.slice A 32 c, .bool true]) ∧ St w w' [.row A 32 c 5 1 (GK (PY l).l)] := by
 have hz := Hf l
 have := runhex_any (GZ l) 32 32 true w (by rw [hz, h.1]; decide) (by rw [hz, h.1]) (by rw [hz, h.1]; decide) (Nat.le_refl _) (fun j hj => by rw [Km]; exact h.2 j hj) (fun h => absurd h (by omega))
 rw [Km] at this
 refine this.mono ?_
 rintro e w' (⟨_, A, c, rfl, Ga⟩ | ⟨hlt, _⟩)
 ·exact ⟨A, c, rfl, Ga⟩
 ·omega
theorem runhexP_no (l : List UInt8) (h : ¬ hx64 l) (hl : l.length ≤ 140737488355000) :
  (∃ m bs, ∃ pb : Bool, ¬ (pb = true ∧ m = 32) ∧ ∀ w, Calls Tryz.prog 73 #[.string (GZ l)] w fun e w' => ∃ A c, e = .returned (.tuple #[.slice A m c, .bool pb]) ∧ St w w' [.row A m c 5 1 bs]) ∨
  ∀ w, Calls Tryz.prog 73 #[.string (GZ l)] w fun e w' => e = .returned (.tuple #[.slice none 0 0, .bool false]) ∧ St w w' [] := by
 have hz := Hf l
 obtain ⟨t, h1, h2, h3⟩ := first_bad (pairOk l) (l.length / 2)
 obtain ⟨pb, hpb⟩ : ∃ pb, (((GZ l).size : Int) % 2 == 0) = pb := ⟨_, rfl⟩
 have hc := fun w => runhex_any (GZ l) (l.length / 2) t pb w (by rw [hz]; exact hl) (by rw [hz]) hpb h1 (fun j hj => by rw [Km]; exact h2 j hj) (fun ht => by rw [Km]; exact h3 ht)
 rw [Km] at hc
 by_cases ht : t = l.length / 2
 ·refine .inl ⟨l.length / 2, GK (decL l (l.length / 2)), pb, fun hm => h ⟨?_, fun j hj => h2 j (by omega)⟩, fun w => (hc w).mono ?_⟩
  ·have h0 := hpb.trans hm.1
   rw [hz, beq_iff_eq] at h0
   omega
  ·rintro e w' (⟨_, A, c, rfl, Ga⟩ | ⟨h4, _⟩)
   ·exact ⟨A, c, rfl, Ga⟩
   ·omega
 ·refine .inr fun w => (hc w).mono ?_
  rintro e w' (⟨h4, _⟩ | ⟨_, rfl, Ga⟩)
  ·exact absurd h4 ht
  ·exact ⟨rfl, Ga⟩
end
section
def tagN (key : List UInt8) (n : Int) (x y : Dig) : Dig := macN key (sz4 n ++ (x.l ++ y.l))
end
section
def Jn (i n : Nat) : Nat :=
 if _h : n < 2 then 0
 else if i < GH n then Jn i (GH n) + 1
 else Jn (i - GH n) (n - GH n) + 1
termination_by n
decreasing_by
 ·exact Ju n (by omega)
 ·have := Jl n
  omega
theorem P9 (i : Nat) {n : Nat} (h : n < 2) : Jn i n = 0 := by rw [Jn, dif_pos h]
theorem NC {i n : Nat} (h : 2 ≤ n) (hi : i < GH n) : Jn i n = Jn i (GH n) + 1 := by rw [Jn, dif_neg (by omega), if_pos hi]
theorem M4 {i n : Nat} (h : 2 ≤ n) (hi : ¬ i < GH n) : Jn i n = Jn (i - GH n) (n - GH n) + 1 := by rw [Jn, dif_neg (by omega), if_neg hi]
def JU (i n : Nat) : List Bool :=
 if _h : n < 2 then []
 else if i < GH n then true :: JU i (GH n)
 else false :: JU (i - GH n) (n - GH n)
termination_by n
decreasing_by
 ·exact Ju n (by omega)
 ·have := Jl n
  omega
theorem sidesN_one (i : Nat) {n : Nat} (h : n < 2) : JU i n = [] := by rw [JU, dif_pos h]
theorem sidesN_left {i n : Nat} (h : 2 ≤ n) (hi : i < GH n) : JU i n = true :: JU i (GH n) := by rw [JU, dif_neg (by omega), if_pos hi]
theorem sidesN_right {i n : Nat} (h : 2 ≤ n) (hi : ¬ i < GH n) : JU i n = false :: JU (i - GH n) (n - GH n) := by rw [JU, dif_neg (by omega), if_neg hi]
theorem NQ : ∀ (n i : Nat), (JU i n).length = Jn i n := by
 intro n
 induction n using Nat.strongRecOn with
 | ind n ih =>
 intro i
 by_cases h : n < 2
 ·rw [sidesN_one i h, P9 i h]
  rfl
 ·have h1 := Ju n (by omega)
  have h2 := Jl n
  by_cases hi : i < GH n
  ·rw [sidesN_left (by omega) hi, NC (by omega) hi, List.length_cons, ih _ h1]
  ·rw [sidesN_right (by omega) hi, M4 (by omega) hi, List.length_cons, ih _ (by omega)]
def KF (ls : List Dig) (i : Nat) : List Dig :=
 if _h : ls.length < 2 then []
 else if i < GH ls.length then KF (ls.take (GH ls.length)) i ++ [G4 (ls.drop (GH ls.length))]
 else KF (ls.drop (GH ls.length)) (i - GH ls.length) ++ [G4 (ls.take (GH ls.length))]
termination_by ls.length
decreasing_by
 ·have := Ju ls.length (by omega)
  rw [List.length_take]
  omega
 ·have := Jl ls.length
  rw [List.length_drop]
  omega
theorem pathN_one {ls : List Dig} (i : Nat) (h : ls.length < 2) : KF ls i = [] := by rw [KF, dif_pos h]
theorem pathN_left {ls : List Dig} {i : Nat} (h : 2 ≤ ls.length) (hi : i < GH ls.length) : KF ls i = KF (ls.take (GH ls.length)) i ++ [G4 (ls.drop (GH ls.length))] := by
 rw [KF, dif_neg (by omega), if_pos hi]
theorem pathN_right {ls : List Dig} {i : Nat} (h : 2 ≤ ls.length) (hi : ¬ i < GH ls.length) : KF ls i = KF (ls.drop (GH ls.length)) (i - GH ls.length) ++ [G4 (ls.take (GH ls.length))] := by
 rw [KF, dif_neg (by omega), if_neg hi]
theorem length_pathN : ∀ (n : Nat) (ls : List Dig) (i : Nat), ls.length = n → (KF ls i).length = Jn i n := by
 intro n
 induction n using Nat.strongRecOn with
 | ind n ih =>
 intro ls i hl
 by_cases h : n < 2
 ·rw [pathN_one i (by omega), P9 i h]
  rfl
 ·have h1 := Ju n (by omega)
  have h2 := Jl n
  by_cases hi : i < GH n
  ·rw [pathN_left (by omega) (by rw [hl]; exact hi), NC (by omega) hi, List.length_append, hl, ih _ h1 (ls.take (GH n)) i (by rw [List.length_take]; omega), List.length_singleton]
  ·rw [pathN_right (by omega) (by rw [hl]; exact hi), M4 (by omega) hi, List.length_append, hl, ih (n - GH n) (by omega) (ls.drop (GH n)) (i - GH n) (by rw [List.length_drop]; omega), List.length_singleton]
def PD (l : Dig) : List (Dig × Bool) → Dig
 | [] => l
 | (p, s) :: r => PD (if s then Mm l p else Mm p l) r
theorem foldN_append (l : Dig) (a b : List (Dig × Bool)) : PD l (a ++ b) = PD (PD l a) b := by
 induction a generalizing l with
 | nil => rfl
 | cons x a ih =>
  obtain ⟨p, s⟩ := x
  exact ih _
def JY (l : Dig) (i n : Nat) (path : List Dig) : Dig := PD l (path.zip (JU i n).reverse)
theorem foldedN_one (l : Dig) (i : Nat) {n : Nat} (h : n < 2) (path : List Dig) : JY l i n path = l := by
 unfold JY
 rw [sidesN_one i h, List.reverse_nil, List.zip_nil_right]
 rfl
theorem foldedN_left (l : Dig) {i n : Nat} (h : 2 ≤ n) (hi : i < GH n) (path : List Dig) (p : Dig) (hp : path.length = Jn i (GH n)) :
  JY l i n (path ++ [p]) = Mm (JY l i (GH n) path) p := by
 unfold JY
 rw [sidesN_left h hi, List.reverse_cons, List.zip_append (by rw [List.length_reverse, NQ, hp]), foldN_append]
 rfl
theorem foldedN_right (l : Dig) {i n : Nat} (h : 2 ≤ n) (hi : ¬ i < GH n) (path : List Dig) (p : Dig) (hp : path.length = Jn (i - GH n) (n - GH n)) :
  JY l i n (path ++ [p]) = Mm p (JY l (i - GH n) (n - GH n) path) := by
 unfold JY
 rw [sidesN_right h hi, List.reverse_cons, List.zip_append (by rw [List.length_reverse, NQ, hp]), foldN_append]
 rfl
end
section
def plN (n m : Nat) (own : Bool) : Nat :=
 if m = n then (if own then 0 else 1)
 else if _h : n < 2 then 0
 else if m ≤ GH n then plN (GH n) m own + 1
 else plN (n - GH n) (m - GH n) false + 1
termination_by n
decreasing_by
 ·exact Ju n (by omega)
 ·have := Jl n
  omega
theorem PP (n : Nat) (own : Bool) : plN n n own = if own then 0 else 1 := by rw [plN, if_pos rfl]
theorem NV {n m : Nat} {own : Bool} (h : m ≠ n) (h2 : 2 ≤ n) (hk : m ≤ GH n) : plN n m own = plN (GH n) m own + 1 := by rw [plN, if_neg h, dif_neg (by omega), if_pos hk]
theorem M5 {n m : Nat} {own : Bool} (h : m ≠ n) (h2 : 2 ≤ n) (hk : ¬ m ≤ GH n) : plN n m own = plN (n - GH n) (m - GH n) false + 1 := by rw [plN, if_neg h, dif_neg (by omega), if_neg hk]
theorem plN_le : ∀ (n m : Nat) (own : Bool), plN n m own ≤ n + 1 := by
 intro n
 induction n using Nat.strongRecOn with
 | ind n ih =>
 intro m own
 by_cases h : m = n
 ·subst h
  rw [PP]
  split <;> omega
 ·by_cases h2 : n < 2
  ·rw [plN, if_neg h, dif_pos h2]
   omega
  ·have h1 := Ju n (by omega)
   have h3 := Jl n
   by_cases hk : m ≤ GH n
   ·have := ih _ h1 m own
    rw [NV h (by omega) hk]
    omega
   ·have := ih (n - GH n) (by omega) (m - GH n) false
    rw [M5 h (by omega) hk]
    omega
def gpN (ls : List Dig) (m : Nat) (own : Bool) : List Dig :=
 if m = ls.length then (if own then [] else [G4 ls])
 else if _h : ls.length < 2 then []
 else if m ≤ GH ls.length then gpN (ls.take (GH ls.length)) m own ++ [G4 (ls.drop (GH ls.length))]
 else gpN (ls.drop (GH ls.length)) (m - GH ls.length) false ++ [G4 (ls.take (GH ls.length))]
termination_by ls.length
decreasing_by
 ·have := Ju ls.length (by omega)
  rw [List.length_take]
  omega
 ·have := Jl ls.length
  rw [List.length_drop]
  omega
theorem gpN_all (ls : List Dig) {m : Nat} (own : Bool) (h : m = ls.length) : gpN ls m own = if own then [] else [G4 ls] := by rw [gpN, if_pos h]
theorem gpN_left {ls : List Dig} {m : Nat} {own : Bool} (h : m ≠ ls.length) (h2 : 2 ≤ ls.length) (hk : m ≤ GH ls.length) : gpN ls m own = gpN (ls.take (GH ls.length)) m own ++ [G4 (ls.drop (GH ls.length))] := by
 rw [gpN, if_neg h, dif_neg (by omega), if_pos hk]
theorem gpN_right {ls : List Dig} {m : Nat} {own : Bool} (h : m ≠ ls.length) (h2 : 2 ≤ ls.length) (hk : ¬ m ≤ GH ls.length) : gpN ls m own = gpN (ls.drop (GH ls.length)) (m - GH ls.length) false ++ [G4 (ls.take (GH ls.length))] := by
 rw [gpN, if_neg h, dif_neg (by omega), if_neg hk]
theorem length_gpN : ∀ (n : Nat) (ls : List Dig) (m : Nat) (own : Bool), ls.length = n → (gpN ls m own).length = plN n m own := by
 intro n
 induction n using Nat.strongRecOn with
 | ind n ih =>
 intro ls m own hl
 by_cases h : m = n
 ·subst h
  rw [gpN_all ls own hl.symm, PP]
  split <;> rfl
 ·by_cases h2 : n < 2
  ·rw [gpN, if_neg (by omega), dif_pos (by omega), plN, if_neg h, dif_pos h2]
   rfl
  ·have h1 := Ju n (by omega)
   have h3 := Jl n
   by_cases hk : m ≤ GH n
   ·rw [gpN_left (by omega) (by omega) (by rw [hl]; exact hk), NV h (by omega) hk, List.length_append, hl, ih _ h1 (ls.take (GH n)) m own (by rw [List.length_take]; omega), List.length_singleton]
   ·rw [gpN_right (by omega) (by omega) (by rw [hl]; exact hk), M5 h (by omega) hk, List.length_append, hl, ih (n - GH n) (by omega) (ls.drop (GH n)) (m - GH n) false (by rw [List.length_drop]; omega), List.length_singleton]
def grN (n m : Nat) (own : Bool) (old : Dig) (p : List Dig) : Dig × Dig :=
 if m = n then (if own then (old, old) else (p.getLastD GM, p.getLastD GM))
 else if _h : n < 2 then (old, old)
 else if m ≤ GH n then
  ((grN (GH n) m own old p.dropLast).1, Mm (grN (GH n) m own old p.dropLast).2 (p.getLastD GM))
 else
  (Mm (p.getLastD GM) (grN (n - GH n) (m - GH n) false old p.dropLast).1, Mm (p.getLastD GM) (grN (n - GH n) (m - GH n) false old p.dropLast).2)
termination_by n
decreasing_by
 all_goals first | exact Ju n (by omega) | (have := Jl n; omega)
theorem grN_all (n : Nat) (own : Bool) (old : Dig) (p : List Dig) : grN n n own old p = if own then (old, old) else (p.getLastD GM, p.getLastD GM) := by rw [grN, if_pos rfl]
theorem grN_left {n m : Nat} {own : Bool} {old : Dig} (h : m ≠ n) (h2 : 2 ≤ n) (hk : m ≤ GH n) (q : List Dig) (d : Dig) : grN n m own old (q ++ [d]) = ((grN (GH n) m own old q).1, Mm (grN (GH n) m own old q).2 d) := by
 rw [grN, if_neg h, dif_neg (by omega), if_pos hk]
 simp
theorem grN_right {n m : Nat} {own : Bool} {old : Dig} (h : m ≠ n) (h2 : 2 ≤ n) (hk : ¬ m ≤ GH n) (q : List Dig) (d : Dig) : grN n m own old (q ++ [d]) = (Mm d (grN (n - GH n) (m - GH n) false old q).1, Mm d (grN (n - GH n) (m - GH n) false old q).2) := by
 rw [grN, if_neg h, dif_neg (by omega), if_neg hk]
 simp
theorem root_take {ls : List Dig} {m : Nat} (h2 : 2 ≤ ls.length) (hk : ¬ m ≤ GH ls.length) (hm : m ≤ ls.length) :
  G4 (ls.take m) = Mm (G4 (ls.take (GH ls.length))) (G4 ((ls.drop (GH ls.length)).take (m - GH ls.length))) := by
 have h3 := Jl ls.length
 have hl : (ls.take m).length = m := by rw [List.length_take]; omega
 have hh : GH m = GH ls.length := by
  have hu : ls.length - 1 < 2 ^ (Nat.log2 (ls.length - 1) + 1) := Nat.lt_log2_self
  refine halfN_of (Nat.log2 (ls.length - 1)) rfl (by omega) ?_
  unfold GH
  rw [Nat.pow_succ] at hu
  omega
 rw [Py (ls.take m) (by omega), hl, hh, List.take_take, Nat.min_eq_left (by omega), List.drop_take]
theorem grow_proves : ∀ (n : Nat) (ls : List Dig) (m : Nat) (own : Bool) (old : Dig), ls.length = n → 1 ≤ m → m ≤ n → (own = true → old = G4 (ls.take m)) → grN n m own old (gpN ls m own) = (G4 (ls.take m), G4 ls) := by
 intro n
 induction n using Nat.strongRecOn with
 | ind n ih =>
 intro ls m own old hl h1 hm ho
 by_cases h : m = n
 ·subst h
  rw [gpN_all ls own hl.symm, grN_all, List.take_of_length_le (by omega)]
  cases own with
  | true =>
   have := ho rfl
   rw [List.take_of_length_le (by omega)] at this
   simp [this]
  | false => simp
 ·have h2 : 2 ≤ n := by omega
  have hlt := Ju n h2
  have hps := Jl n
  by_cases hk : m ≤ GH n
  ·have hl' : (ls.take (GH n)).length = GH n := by rw [List.length_take]; omega
   have ht : (ls.take (GH n)).take m = ls.take m := by rw [List.take_take, Nat.min_eq_left hk]
   have := ih _ hlt (ls.take (GH n)) m own old hl' h1 hk (fun e => by rw [ht]; exact ho e)
   rw [gpN_left (by omega) (by omega) (by rw [hl]; exact hk), hl, grN_left h h2 hk, this, ht, Py ls (by omega), hl]
  ·have hl' : (ls.drop (GH n)).length = n - GH n := by rw [List.length_drop, hl]
   have := ih (n - GH n) (by omega) (ls.drop (GH n)) (m - GH n) false old hl' (by omega) (by omega) (fun e => by cases e)
   rw [gpN_right (by omega) (by omega) (by rw [hl]; exact hk), hl, grN_right h h2 hk, this, root_take (m := m) (by omega) (by rw [hl]; exact hk) (by omega), Py ls (by omega), hl]
end
section
theorem Kt (a b : List Dig) : GP (a ++ b) = GP a ++ GP b := by simp [GP]
theorem digsL_two (a b : Dig) : GP [a, b] = a.arr.toList ++ b.arr.toList := by simp [GP, Dig.toList]
end
section
open Go.RowKit
end
section
structure SwapAt {α : Type} (l l' : List α) (i : Nat) : Prop where
 len : l'.length = l.length
 at_ : ∀ k, k < l.length → l'[k]? = if k < i ∨ l.length ≤ k + i then l[l.length - 1 - k]? else l[k]?
theorem SwapAt.start {α : Type} (l : List α) : SwapAt l l 0 := ⟨rfl, fun k hk => by rw [if_neg (by omega)]⟩
theorem SwapAt.step {α : Type} {l l' : List α} {i : Nat} (h : SwapAt l l' i) (hi : 2 * i + 1 < l.length) {x y : α} (hx : l'[i]? = some x) (hy : l'[l.length - 1 - i]? = some y) : SwapAt l ((l'.set i y).set (l.length - 1 - i) x) (i + 1) := by
 refine ⟨by rw [List.length_set, List.length_set, h.len], fun k hk => ?_⟩
 have h1 := h.at_ i (by omega)
 have h2 := h.at_ (l.length - 1 - i) (by omega)
 rw [if_neg (by omega), hx] at h1
 rw [if_neg (by omega), hy] at h2
 rw [List.getElem?_set, List.getElem?_set, List.length_set, h.len]
 by_cases hkj : l.length - 1 - i = k
 ·rw [if_pos hkj, if_pos (by omega), if_pos (by omega), h1]
  congr 1
  omega
 ·rw [if_neg hkj]
  by_cases hki : i = k
  ·subst hki
   rw [if_pos rfl, if_pos (by omega), if_pos (by omega), h2]
  ·rw [if_neg hki, h.at_ k hk]
   by_cases hc : k < i ∨ l.length ≤ k + i
   ·rw [if_pos hc, if_pos (by omega)]
   ·rw [if_neg hc, if_neg (by omega)]
theorem SwapAt.done {α : Type} {l l' : List α} {i : Nat} (h : SwapAt l l' i) (hi : l.length ≤ 2 * i + 1) : l' = l.reverse := by
 apply List.ext_getElem?
 intro k
 by_cases hk : k < l.length
 ·rw [h.at_ k hk, List.getElem?_reverse hk]
  by_cases hc : k < i ∨ l.length ≤ k + i
  ·rw [if_pos hc]
  ·rw [if_neg hc]
   congr 1
   omega
 ·rw [List.getElem?_eq_none (by rw [h.len]; omega), List.getElem?_eq_none (by rw [List.length_reverse]; omega)]
theorem digsL_cons (d : Dig) (l : List Dig) : GP (d :: l) = d.arr.toList ++ GP l := by simp [GP, Dig.toList]
theorem digsL_set : ∀ (l : List Dig) (i : Nat) (d : Dig), i < l.length → (GP l).take (i * 32) ++ d.arr.toList ++ (GP l).drop (i * 32 + 32) = GP (l.set i d)
 | [], i, d, h => by simp at h
 | x :: l, 0, d, _ => by
  rw [digsL_cons, List.set_cons_zero, digsL_cons, Nat.zero_mul, Nat.zero_add, List.take_zero, List.nil_append, List.drop_append_of_le_length (by rw [Array.length_toList, Dig.size]; exact Nat.le_refl _)]
  rw [List.drop_eq_nil_of_le (by rw [Array.length_toList, Dig.size]; exact Nat.le_refl _), List.nil_append]
 | x :: l, i + 1, d, h => by
  have hs : x.arr.toList.length = 32 := by rw [Array.length_toList, Dig.size]
  have ih := digsL_set l i d (by simpa using h)
  rw [digsL_cons, List.set_cons_succ, digsL_cons, ← ih, List.take_append, List.drop_append, hs]
  have e1 : x.arr.toList.take ((i + 1) * 32) = x.arr.toList := List.take_of_length_le (by omega)
  have e2 : x.arr.toList.drop ((i + 1) * 32 + 32) = [] := List.drop_eq_nil_of_le (by omega)
  rw [e1, e2, show (i + 1) * 32 - 32 = i * 32 by omega, show (i + 1) * 32 + 32 - 32 = i * 32 + 32 by omega, List.nil_append]
  simp only [List.append_assoc]
def JZ (l : List Bool) : List Value := l.map fun b => .bool b
theorem PZ (l : List Bool) : (JZ l).length = l.length := by simp [JZ]
theorem boolsL_append (a b : List Bool) : JZ (a ++ b) = JZ a ++ JZ b := by simp [JZ]
theorem boolsL_set (l : List Bool) (i : Nat) (b : Bool) : (JZ l).set i (.bool b) = JZ (l.set i b) := by simp [JZ, List.map_set]
end
section
open Go.RowKit
section
variable {P : Program} {ops : Array Oper} {rest : List Oper} {o : Oper} {a : Act} {W V : World} {Q : Exit → Act → World → Prop} {d : Option Tmp}
theorem Ku (hd : o.dst = d) (hw : Region.wanted o (yielded ops a.tmps) = true) {T : TypeId} {x : Operand} {l h m : Option Operand} (ho : o.op = .slice T x l h m) {A : Option Addr} {n c : Nat} (hx : a.eval x = .slice A n c)
  {e : TypeId} (hu : P.underlying T = some (.slice e)) {z : Value} {s b : Nat} (he : GW P e z s b) (hs0 : 0 < s) {xs : List Value} (hs : SlR V A n c s xs) (lo hi mx : Nat)
  (hl : (l.map a.eval = none ∧ lo = 0) ∨ ∃ k v, l.map a.eval = some v ∧ v = .int k ((lo : Nat) : Int)) (hh : (h.map a.eval = none ∧ hi = n ∧ m.map a.eval = none) ∨ ∃ k v, h.map a.eval = some v ∧ v = .int k ((hi : Nat) : Int)) (hm : (m.map a.eval = none ∧ mx = c) ∨ ∃ k v, m.map a.eval = some v ∧ v = .int k ((mx : Nat) : Int))
  (h1 : lo ≤ hi) (h2 : hi ≤ n) (h3 : hi ≤ mx) (h4 : mx ≤ c)
  (hk : ∀ (A' : Option Addr) (c' : Nat), SlR V A' (hi - lo) c' s ((xs.drop (lo * s)).take ((hi - lo) * s)) → wpList P ops Q rest (a.put d (.slice A' (hi - lo) c')) W) : wpList P ops Q (o :: rest) a W := by
 refine Js hd hw ?_ (hk _ _ (hs.cut hs0 h1 h2 h3 h4))
 unfold execOp
 simp only [ho, hx]
 simp [run_cutS (P := P) (W := W) hu he hl hh hm h1 h3 h4]
end
section
variable {P : Program} {a : Act} {W : World}
theorem bp_two {fn : Func} {R : Ending → World → Prop} {p q : Tmp} (hr : fn.results = #[.tmp p, .tmp q]) (hd : a.defers = []) {v1 v2 : Value} (hp : a.tmps.toList[p]? = some v1) (hq : a.tmps.toList[q]? = some v2) (hR : R (.returned (.tuple #[v1, v2])) W) : bodyPost P fn R .ret a W := by
 have hp' : a.tmps[p]?.getD undef = v1 := by
  have : a.tmps[p]? = some v1 := by simpa using hp
  simp [this]
 have hq' : a.tmps[q]?.getD undef = v2 := by
  have : a.tmps[q]? = some v2 := by simpa using hq
  simp [this]
 refine bodyPost_ret ?_ hd hR
 simp [results, hr, hp', hq']
end
end
section
open Go.RowKit
section
variable {P : Program} {ops : Array Oper} {Q : Act → World → Prop} {md : Region.Mode}
def Pb (P : Program) (s : Sem Next) : Prop := ∀ w n w', s.run P w = .ok n w' → (∃ v, n = .value v) ∧ w' = w ∧ ∀ W, s.run P W = .ok n W
theorem Pb.pure (v : Value) : Pb P (Pure.pure (.value v)) := fun w n w' hr => by
 simp only [Sem.run_pure, Result.ok.injEq] at hr
 obtain ⟨rfl, rfl⟩ := hr
 exact ⟨⟨v, rfl⟩, rfl, fun W => by simp⟩
def pureK : Op → Bool
 | .move _ | .assign _ | .pick .. | .extract .. => true
 | _ => false
theorem pureV_k {ρ : Operand → Value} {o : Oper} (h : pureK o.op = true) : Pb P (execOp ρ o) := by
 obtain ⟨dst, op, type, pos, after, guard⟩ := o
 cases op <;> simp only [pureK] at h <;> simp only [execOp] <;> (try (cases h; done))
 case move x => exact Pb.pure _
 case assign x => exact Pb.pure _
 case pick c a b =>
  intro w n w' hr
  cases hc : ρ c <;> simp [hc, asBool, stuck, Sem.run] at hr
  obtain ⟨rfl, rfl⟩ := hr
  exact ⟨⟨_, rfl⟩, rfl, fun W => by simp [asBool]⟩
 case extract x i =>
  intro w n w' hr
  cases hc : ρ x <;> simp [hc, Instr.extract, stuck, Sem.run] at hr
  rename_i cs
  cases hi : cs[i]? <;> simp [hi] at hr
  obtain ⟨rfl, rfl⟩ := hr
  exact ⟨⟨_, rfl⟩, rfl, fun W => by simp [Instr.extract, hi]⟩
def YieldsP (P : Program) (ops : Array Oper) (oi : Oper) (v : Value) (a : Act) : Prop :=
 (Region.wanted oi (yielded ops a.tmps) = true ∧ ∀ W, (execOp a.eval oi).run P W = .ok (.value v) W) ∨
 (Region.wanted oi (yielded ops a.tmps) = false ∧ v = undef)
theorem YieldsP.same {oi : Oper} {v : Value} {a a' : Act} (h : YieldsP P ops oi v a) (hs : SameOp ops oi a a') : YieldsP P ops oi v a' := by
 unfold YieldsP at *
 rw [hs.1, hs.2]
 exact h
theorem YieldsP.wpOp {w : World} {i : Nat} {oi : Oper} {v : Value} {a : Act} (hi : ops[i]? = some oi) (h : YieldsP P ops oi v a) {K : Act → World → Prop} {Q' : Exit → Act → World → Prop} (hk : K (a.put oi.dst v) w) : wpOp P ops Q' i K a w := by
 unfold Go.wpOp
 simp only [hi]
 rcases h with ⟨hw, hv⟩ | ⟨hw, rfl⟩
 ·simp only [hw, if_true, Oper.wp, hv w, Oper.upon]; exact .inl hk
 ·simp only [hw, Bool.false_eq_true, if_false]; exact hk
theorem NR {F : Nat → Bool} {i : Nat} {oi : Oper} {v : Value} {B : List Nat} (hi : ops[i]? = some oi) (hsel : ∀ (j : Nat) (o : Oper) cs b, ops[j]? = some o → o.op ≠ .select cs b)
  (hB : ∀ j oj, ops[j]? = some oj → j ∈ B → ∃ e ∈ oj.after, Region.binds md e = true ∧ (e.on = i ∨ e.on ∈ B)) :
  ∀ (fuel : Nat) (listed : Array Bool) (a : Act) (w : World), (∀ j ∈ B, listed.getD j true = false) →
   (∀ j oj, ops[j]? = some oj → j ≠ i → listed.getD j true = false → j ∉ B → oi.apart ops oj = true) →
   i ∈ Region.ready md ops listed → YieldsP P ops oi v a →
   N5 P md ops F Q fuel (listed.setIfInBounds i true) (a.put oi.dst v) w → N5 P md ops F Q (fuel + 1) listed a w := by
 intro fuel
 induction fuel with
 | zero =>
  intro listed a w _ _ hr hy H
  refine ⟨fun h => (by rw [h] at hr; cases hr), fun j hj => ?_⟩
  by_cases hji : j = i
  ·subst hji; exact hy.wpOp hi ⟨fun _ => Below.refl _ _, H⟩
  ·have := ready_mono hj hji
   rw [H.1] at this
   cases this
 | succ fuel ih =>
  intro listed a w hBun hfree hr hy H
  refine ⟨fun h => (by rw [h] at hr; cases hr), fun j hj => ?_⟩
  by_cases hji : j = i
  ·subst hji; exact hy.wpOp hi ⟨fun _ => Below.refl _ _, H⟩
  ·have h1 := H.2 j (ready_mono hj hji)
   obtain ⟨hjun, oj, hoj, hall⟩ := mem_ready.1 hj
   have hoff : ∀ k, k = i ∨ k ∈ B → ∀ e ∈ oj.after, Region.binds md e = true → e.on = k → False := fun k hk e he hb heq => by
    have h1 := hall e he hb
    have h0 : listed.getD k true = false := by
     rcases hk with rfl | hk
     ·have h0 := (mem_ready.1 hr).1
      rcases Nat.lt_or_ge k listed.size with h' | h'
      ·simpa [h'] using h0
      ·simp [Array.getElem?_eq_none h'] at h0
     ·exact hBun k hk
    rw [heq] at h1
    rcases Nat.lt_or_ge k listed.size with h' | h'
    ·simp [h'] at h0 h1; rw [h0] at h1; cases h1
    ·simp [Array.getElem?_eq_none h'] at h1
   have hnot : j ∉ B := fun hjB => by
    obtain ⟨e, he, hb, h3⟩ := hB j oj hoj hjB
    exact hoff e.on h3 e he hb rfl
   have hap := hfree j oj hoj hji hjun hnot
   have h2 := wpOp_put2 hoj hap (fun cs b => hsel i oi cs b hi) (fun cs b => hsel j oj cs b hoj) h1
   have hfree' : ∀ k ok, ops[k]? = some ok → k ≠ i → (listed.setIfInBounds j true).getD k true = false →
     k ∉ B → oi.apart ops ok = true := fun k ok hk hki hun hno => by
    refine hfree k ok hk hki ?_ hno
    by_cases hjk : j = k
    ·subst hjk; exact hjun
    ·rw [getD_set_ne true hjk] at hun; exact hun
   have hBun' : ∀ k ∈ B, (listed.setIfInBounds j true).getD k true = false := fun k hk => by
    have hjk : j ≠ k := fun e => hnot (e ▸ hk)
    rw [getD_set_ne true hjk]
    exact hBun k hk
   refine wpOp_mono (fun a' w' ⟨h3, h4, h5⟩ => ⟨h4, ih (listed.setIfInBounds j true) a' w' hBun' hfree' (ready_mono hr (Ne.symm hji)) (hy.same h3) ?_⟩) h2
   rw [Array.setIfInBounds_comm _ _ hji]
   exact h5
inductive Pn where
 | nil
 | one (i k : Nat) (r : Pn)
 | two (i : Nat) (r : Pn) (j : Nat) (s : Pn)
def Pn.len : Pn → Nat
 | .nil => 0
 | .one _ _ r => r.len + 1
 | .two _ r _ _ => r.len + 1
def Pn.f : Pn → Nat → Bool
 | .nil, _ => false
 | .one i k r, x => (i == x && k != 1) || r.f x
 | .two i r j s, x => i == x || j == x || r.f x || s.f x
def N8 (P : Program) (ops : Array Oper) (Q : Act → World → Prop) : Pn → Act → World → Prop
 | .nil, a, w => Q a w
 | .one i k r, a, w => ∃ o, ops[i]? = some o ∧ (k = 0 → KT P (execOp a.eval o)) ∧ (k = 3 → Pb P (execOp a.eval o)) ∧
   wpList P ops (Nm fun a' w' => (k = 2 → Below w.heap.size w w') ∧ N8 P ops Q r a' w') [o] a w
 | .two i r j s, a, w => (∃ o, ops[i]? = some o ∧ wpList P ops (Nm fun a' w' => Below w.heap.size w w' ∧ N8 P ops Q r a' w') [o] a w) ∧
   (∃ o, ops[j]? = some o ∧ wpList P ops (Nm fun a' w' => Below w.heap.size w w' ∧ N8 P ops Q s a' w') [o] a w)
def planP (md : Region.Mode) (ops : Array Oper) (F : Nat → Bool) : Pn → Array Bool → Bool
 | .nil, listed => (Region.ready md ops listed).isEmpty
 | .one i k r, listed =>
  (if k == 0 then
   (Region.ready md ops listed).contains i && (match ops[i]? with
    | none => false
    | some oi => ((Kh md ops i).all fun j => !listed.getD j true && match ops[j]? with
      | some oj => oj.after.any (fun e => Region.binds md e && (e.on == i || (Kh md ops i).contains e.on))
      | none => true) && (List.range ops.size).all fun j => j == i || listed.getD j true || match ops[j]? with
     | some oj => (Kh md ops i).contains j || (oi.apart ops oj && F j)
     | none => true)
  else if k == 3 then
   (Region.ready md ops listed).contains i && (match ops[i]? with
    | none => false
    | some oi => ((Kh md ops i).all fun j => !listed.getD j true && match ops[j]? with
      | some oj => oj.after.any (fun e => Region.binds md e && (e.on == i || (Kh md ops i).contains e.on))
      | none => true) && (List.range ops.size).all fun j => j == i || listed.getD j true || match ops[j]? with
     | some oj => (Kh md ops i).contains j || oi.apart ops oj
     | none => true)
  else Region.ready md ops listed == [i] && (k == 1 || k == 2) && (k == 2 || !F i)) && planP md ops F r (listed.setIfInBounds i true)
 | .two i r j s, listed => Region.ready md ops listed == [i, j] && r.len == s.len && planP md ops F r (listed.setIfInBounds i true) && planP md ops F s (listed.setIfInBounds j true)
theorem Pi {K : Act → World → Prop} {i : Nat} {o : Oper} {a : Act} {w : World} (ho : ops[i]? = some o) (hl : wpList P ops (Nm K) [o] a w) : wpOp P ops (Nm Q) i K a w := by
 unfold wpList at hl
 unfold Go.wpOp
 simp only [ho]
 split
 ·rename_i hw
  rw [if_pos hw] at hl
  rcases hl with hl | ⟨_, hlets⟩
  case inr => exact absurd hlets JR
  refine .inl ?_
  unfold Oper.wp at *
  generalize (execOp a.eval o).run P w = r at *
  cases r with
  | ok n w' =>
   cases n <;> simp only [Oper.upon] at hl ⊢
   case value u => exact hl
   case skip => exact hl
   case defer d => exact hl
   case enter f args =>
    refine Calls.mono hl fun e w'' he => ?_
    cases e with
    | returned u => exact he
    | panicked c => exact (he : False).elim
    | outgrown => exact absurd he JR
   case row row args => exact Rows.mono hl fun u w'' he => he
  | halt x w' =>
   cases x <;> simp only [Oper.upon] at hl ⊢
   exact (hl : False).elim
 ·rename_i hw
  rw [if_neg hw] at hl
  exact hl
theorem JI {F : Nat → Bool} (hs : Region.noSelect ops = true) : ∀ (p : Pn) (listed : Array Bool) (a : Act) (w : World), planP md ops F p listed = true → N8 P ops Q p a w → N5 P md ops F Q p.len listed a w
 | .nil, listed, a, w, hp, h => ⟨by simpa [planP] using hp, h⟩
 | .two i r j s, listed, a, w, hp, h => by
  obtain ⟨⟨oi, hoi, hli⟩, oj, hoj, hlj⟩ := h
  simp only [planP, Bool.and_eq_true, beq_iff_eq] at hp
  obtain ⟨⟨⟨hr, hlen⟩, h1⟩, h2⟩ := hp
  refine ⟨fun h0 => absurd h0 (by simp [hr]), fun x hx => ?_⟩
  rw [hr] at hx
  rcases List.mem_cons.1 hx with rfl | hx
  ·exact wpOp_mono (fun a' w' hh => ⟨fun _ => hh.1, JI hs r _ _ _ h1 hh.2⟩) (Pi hoi hli)
  ·obtain rfl : x = j := by simpa using hx
   refine wpOp_mono (fun a' w' hh => ⟨fun _ => hh.1, ?_⟩) (Pi hoj hlj)
   have := JI hs s _ _ _ h2 hh.2
   rw [← hlen] at this
   exact this
 | .one i k r, listed, a, w, hp, h => by
  obtain ⟨o, ho, hcalm, hpure, hl⟩ := h
  unfold planP at hp
  simp only [Bool.and_eq_true] at hp
  obtain ⟨h1, h2⟩ := hp
  unfold wpList at hl
  by_cases hk3 : k = 3
  ·subst hk3
   have hk' : ((3 : Nat) == 0) = false := rfl
   simp only [hk', Bool.false_eq_true, if_false, beq_self_eq_true, if_true, Bool.and_eq_true, ho] at h1
   obtain ⟨hr, hwt, hf⟩ := h1
   have hr' : i ∈ Region.ready md ops listed := by simpa using hr
   have hw1 : ∀ j ∈ Kh md ops i, listed.getD j true = false := fun j hj => by
    have h3 := List.all_eq_true.1 hwt j hj
    simp only [Bool.and_eq_true, Bool.not_eq_true'] at h3
    exact h3.1
   have hw2 : ∀ j oj, ops[j]? = some oj → j ∈ Kh md ops i → ∃ e ∈ oj.after, Region.binds md e = true ∧ (e.on = i ∨ e.on ∈ Kh md ops i) := fun j oj hoj hj => by
    have h3 := List.all_eq_true.1 hwt j hj
    simp only [Bool.and_eq_true, hoj] at h3
    obtain ⟨e, he, hb⟩ := Array.any_eq_true'.1 h3.2
    simp only [Bool.and_eq_true, Bool.or_eq_true, beq_iff_eq, List.contains_iff_mem] at hb
    exact ⟨e, he, hb.1, hb.2⟩
   have hfree : ∀ j oj, ops[j]? = some oj → j ≠ i → listed.getD j true = false → j ∉ Kh md ops i → o.apart ops oj = true := by
    intro j oj hj hne hun hno
    have h3 := List.all_eq_true.1 hf j (List.mem_range.2 (Array.getElem?_eq_some_iff.1 hj).1)
    simp only [hj, Bool.or_eq_true, beq_iff_eq, hne, false_or, hun, Bool.false_eq_true, List.contains_iff_mem] at h3
    rcases h3 with h3 | h3
    ·exact absurd h3 hno
    ·exact h3
   by_cases hw : Region.wanted o (yielded ops a.tmps) = true
   ·rw [if_pos hw] at hl
    rcases hl with hl | ⟨_, hlets⟩
    case inr => exact absurd hlets JR
    unfold Oper.wp at hl
    cases hrun : (execOp a.eval o).run P w with
    | ok n w' =>
     obtain ⟨⟨v, rfl⟩, rfl, Ga⟩ := hpure rfl w n w' hrun
     rw [hrun] at hl
     simp only [Oper.upon, wpList] at hl
     exact NR ho (Region.noSelect_spec hs) hw2 r.len listed a w' hw1 hfree hr' (.inl ⟨hw, Ga⟩)
      (JI hs r _ _ _ h2 hl.2)
    | halt x w' =>
     rw [hrun] at hl
     cases x <;> simp only [Oper.upon] at hl
     exact (hl : False).elim
   ·rw [if_neg hw] at hl
    exact NR ho (Region.noSelect_spec hs) hw2 r.len listed a w hw1 hfree hr' (.inr ⟨by simpa using hw, rfl⟩)
      (JI hs r _ _ _ h2 hl.2)
  by_cases hk : k = 0
  ·subst hk
   simp only [beq_self_eq_true, if_true, Bool.and_eq_true, ho] at h1
   obtain ⟨hr, hwt, hf⟩ := h1
   have hr' : i ∈ Region.ready md ops listed := by simpa using hr
   have hw1 : ∀ j ∈ Kh md ops i, listed.getD j true = false := fun j hj => by
    have h3 := List.all_eq_true.1 hwt j hj
    simp only [Bool.and_eq_true, Bool.not_eq_true'] at h3
    exact h3.1
   have hw2 : ∀ j oj, ops[j]? = some oj → j ∈ Kh md ops i → ∃ e ∈ oj.after, Region.binds md e = true ∧ (e.on = i ∨ e.on ∈ Kh md ops i) := fun j oj hoj hj => by
    have h3 := List.all_eq_true.1 hwt j hj
    simp only [Bool.and_eq_true, hoj] at h3
    obtain ⟨e, he, hb⟩ := Array.any_eq_true'.1 h3.2
    simp only [Bool.and_eq_true, Bool.or_eq_true, beq_iff_eq, List.contains_iff_mem] at hb
    exact ⟨e, he, hb.1, hb.2⟩
   have hfree : ∀ j oj, ops[j]? = some oj → j ≠ i → listed.getD j true = false → j ∉ Kh md ops i → o.apart ops oj = true ∧ F j = true := by
    intro j oj hj hne hun hno
    have h3 := List.all_eq_true.1 hf j (List.mem_range.2 (Array.getElem?_eq_some_iff.1 hj).1)
    simp only [hj, Bool.or_eq_true, beq_iff_eq, hne, false_or, hun, Bool.false_eq_true, Bool.and_eq_true, List.contains_iff_mem] at h3
    rcases h3 with h3 | h3
    ·exact absurd h3 hno
    ·exact h3
   by_cases hw : Region.wanted o (yielded ops a.tmps) = true
   ·rw [if_pos hw] at hl
    rcases hl with hl | ⟨_, hlets⟩
    case inr => exact absurd hlets JR
    unfold Oper.wp at hl
    cases hrun : (execOp a.eval o).run P w with
    | ok n w' =>
     obtain ⟨⟨v, rfl⟩, rfl, Ga⟩ := hcalm rfl w n w' hrun
     rw [hrun] at hl
     simp only [Oper.upon, wpList] at hl
     exact Mg (wb := w') ho (Region.noSelect_spec hs) hw2 r.len listed a w' (Below.refl _ _) hw1 hfree hr' (.inl ⟨hw, Ga⟩)
      (JI hs r _ _ _ h2 hl.2)
    | halt x w' =>
     rw [hrun] at hl
     cases x <;> simp only [Oper.upon] at hl
     exact (hl : False).elim
   ·rw [if_neg hw] at hl
    exact Mg (wb := w) ho (Region.noSelect_spec hs) hw2 r.len listed a w (Below.refl _ _) hw1 hfree hr' (.inr ⟨by simpa using hw, rfl⟩)
      (JI hs r _ _ _ h2 hl.2)
  ·have hk' : (k == 0) = false := by simpa using hk
   have hk3' : (k == 3) = false := by simpa using hk3
   simp only [hk', hk3', Bool.false_eq_true, if_false, Bool.and_eq_true] at h1
   obtain ⟨⟨hr, _⟩, hF⟩ := h1
   have hr' : Region.ready md ops listed = [i] := by simpa using hr
   refine ⟨fun h0 => absurd h0 (by simp [hr']), fun j hj => ?_⟩
   obtain rfl : j = i := by simpa [hr'] using hj
   have hgr : ∀ (w' : World), (k = 2 → Below w.heap.size w w') → F j = true → Below w.heap.size w w' := fun w' hh hFj => by
    refine hh ?_
    simp only [Bool.or_eq_true, beq_iff_eq, hFj, Bool.not_true, Bool.false_eq_true, or_false] at hF
    exact hF
   unfold Go.wpOp
   simp only [ho]
   split
   ·rename_i hw
    rw [if_pos hw] at hl
    rcases hl with hl | ⟨_, hlets⟩
    case inr => exact absurd hlets JR
    refine .inl ?_
    unfold Oper.wp at *
    generalize (execOp a.eval o).run P w = rr at *
    cases rr with
    | ok n w' =>
     cases n <;> simp only [Oper.upon] at hl ⊢
     case value u => exact ⟨hgr _ hl.1, JI hs r _ _ _ h2 hl.2⟩
     case skip => exact ⟨hgr _ hl.1, JI hs r _ _ _ h2 hl.2⟩
     case defer d => exact ⟨hgr _ hl.1, JI hs r _ _ _ h2 hl.2⟩
     case enter f args =>
      refine Calls.mono hl fun e w'' he => ?_
      cases e with
      | returned u => exact ⟨hgr _ he.1, JI hs r _ _ _ h2 he.2⟩
      | panicked c => exact (he : False).elim
      | outgrown => exact absurd he JR
     case row row args => exact Rows.mono hl fun u w'' he => ⟨hgr _ he.1, JI hs r _ _ _ h2 he.2⟩
    | halt x w' =>
     cases x <;> simp only [Oper.upon] at hl ⊢
     exact (hl : False).elim
   ·rename_i hw
    rw [if_neg hw] at hl
    exact ⟨hgr _ hl.1, JI hs r _ _ _ h2 hl.2⟩
def planPOK (ops : Array Oper) (p : Pn) : Bool :=
 Region.noSelect ops && planP .any ops p.f p (Array.replicate ops.size false) && p.len == ops.size
theorem Pj {id : Nat} {l : List Oper} {Q : Exit → Act → World → Prop} {a : Act} {w : World} (p : Pn) (hm : P.follows .mixedOrders = true) (hp : planPOK l.toArray p = true)
  (h : N8 P l.toArray (fun a w => Q .normal a w) p a w.drew) : (Code.region id l.toArray true).wp P Q a w := by
 simp only [planPOK, Bool.and_eq_true, beq_iff_eq] at hp
 obtain ⟨⟨hs, hp⟩, hlen⟩ := hp
 refine Code.wp_mono (Q := Nm fun a w => Q .normal a w) (fun e a w q => ?_) (wp_region_any hm ?_)
 ·cases e <;> first | exact q | exact (q : False).elim
 ·have := JI hs p (Array.replicate l.toArray.size false) a w.drew hp h
  rw [hlen] at this
  exact Pv _ _ _ _ this
theorem pn_nil {a : Act} {w : World} (h : Q a w) : N8 P ops Q .nil a w := h
theorem pn_q {i : Nat} {r : Pn} {o : Oper} {a : Act} {w : World} (ho : ops[i]? = some o) (hc : calmK a.eval o.op = true)
  (h : wpList P ops (Exit.then (N8 P ops Q r) fun _ _ _ => False) [o] a w) : N8 P ops Q (.one i 0 r) a w :=
 ⟨o, ho, fun _ => calmV_k hc, fun e => absurd e (by decide), by
  have : (fun (a' : Act) (w' : World) => ((0 : Nat) = 2 → Below w.heap.size w w') ∧ N8 P ops Q r a' w') = N8 P ops Q r := by
   funext a' w'; simp
  rw [this]; exact h⟩
theorem Pk {i : Nat} {r : Pn} {o : Oper} {a : Act} {w : World} (ho : ops[i]? = some o) (hc : pureK o.op = true)
  (h : wpList P ops (Exit.then (N8 P ops Q r) fun _ _ _ => False) [o] a w) : N8 P ops Q (.one i 3 r) a w :=
 ⟨o, ho, fun e => absurd e (by decide), fun _ => pureV_k hc, by
  have : (fun (a' : Act) (w' : World) => ((3 : Nat) = 2 → Below w.heap.size w w') ∧ N8 P ops Q r a' w') = N8 P ops Q r := by
   funext a' w'; simp
  rw [this]; exact h⟩
theorem pn_e {i : Nat} {r : Pn} {o : Oper} {a : Act} {w : World} (ho : ops[i]? = some o)
  (h : wpList P ops (Exit.then (N8 P ops Q r) fun _ _ _ => False) [o] a w) : N8 P ops Q (.one i 1 r) a w :=
 ⟨o, ho, fun e => absurd e (by decide), fun e => absurd e (by decide), by
  have : (fun (a' : Act) (w' : World) => ((1 : Nat) = 2 → Below w.heap.size w w') ∧ N8 P ops Q r a' w') = N8 P ops Q r := by
   funext a' w'; simp
  rw [this]; exact h⟩
theorem pn_g {i : Nat} {r : Pn} {o : Oper} {a : Act} {w : World} (ho : ops[i]? = some o)
  (h : wpList P ops (Exit.then (fun a' w' => Below w.heap.size w w' ∧ N8 P ops Q r a' w') fun _ _ _ => False) [o] a w) : N8 P ops Q (.one i 2 r) a w :=
 ⟨o, ho, fun e => absurd e (by decide), fun e => absurd e (by decide), by
  have : (fun (a' : Act) (w' : World) => ((2 : Nat) = 2 → Below w.heap.size w w') ∧ N8 P ops Q r a' w') = fun a' w' => Below w.heap.size w w' ∧ N8 P ops Q r a' w' := by
   funext a' w'; simp
  rw [this]; exact h⟩
theorem pn_two {i j : Nat} {r s : Pn} {o u : Oper} {a : Act} {w : World} (ho : ops[i]? = some o) (hu : ops[j]? = some u)
  (h1 : wpList P ops (Exit.then (fun a' w' => Below w.heap.size w w' ∧ N8 P ops Q r a' w') fun _ _ _ => False) [o] a w)
  (h2 : wpList P ops (Exit.then (fun a' w' => Below w.heap.size w w' ∧ N8 P ops Q s a' w') fun _ _ _ => False) [u] a w) : N8 P ops Q (.two i r j s) a w :=
 ⟨⟨o, ho, h1⟩, u, hu, h2⟩
end
end
section
open Go.RowKit
theorem MX : GW Tryz.prog 4 (.bool false) 1 1 := by unfold GW; kernel_rfl
theorem revB_any (l : List Bool) (n c : Nat) (A : Option Addr) (w0 w : World) (L : List Res) (Ga : St w0 w (.row A n c 4 1 (JZ l) :: L)) :
  Calls Tryz.prog 98 #[.slice A n c] w fun e w' => e = .returned (.tuple #[]) ∧ St w0 w' (.row A n c 4 1 (JZ l.reverse) :: L) := by
 have hl : l.length = n := by have := (Ga.sl 0 rfl).1; rw [PZ] at this; omega
 have hcap := (Ga.sl 0 rfl).2.1
 have hmax := (Ga.sl 0 rfl).2.2.1
 simp only [maxLen] at hmax
 have Hl := Gg hl
 clear hl
 go_enter Tryz.func98, Tryz.ntmps98
 go_wp2_with (fail)
 go_loopg [2, 3] n (fun gk s2 s3 wr => ∃ (i : Nat) (l' : List Bool), Hid (i + gk = n) ∧ Hid (SwapAt l l' i) ∧ s2 = .int .i64 (i : Int) ∧ s3 = .int .i64 ((n : Int) - 1 - (i : Int)) ∧ 2 * i ≤ n ∧ St w0 wr (.row A n c 4 1 (JZ l') :: L))
 case atStart => exact ⟨0, l, Gg (by omega), Gg (SwapAt.start l), rfl, by congr 1; omega, by omega, Ga⟩
 case round =>
  clear Ga
  obtain ⟨i, l', HI, HS, rfl, rfl, h2i, Ga⟩ := hrel
  have hi := HI.out
  by_cases hin : (i : Int) < (n : Int) - 1 - (i : Int)
  ·clear hi
   obtain ⟨x, hx⟩ : ∃ x, l'[i]? = some x := ⟨l'[i]'(by rw [HS.out.len, Hl.out]; omega), List.getElem?_eq_getElem _⟩
   obtain ⟨y, hy⟩ : ∃ y, l'[l.length - 1 - i]? = some y := ⟨l'[l.length - 1 - i]'(by rw [HS.out.len, Hl.out]; omega), List.getElem?_eq_getElem _⟩
   have HN := Gg (HS.out.step (by rw [Hl.out]; omega) hx hy)
   have hat : ∀ (k : Nat) (z : Bool), l'[k]? = some z → ((JZ l').drop (k * 1)).take 1 = [.bool z] := fun k z hz => by
    obtain ⟨hk, rfl⟩ := List.getElem?_eq_some_iff.1 hz
    rw [Nat.mul_one, List.drop_eq_getElem_cons (by rw [PZ]; exact hk)]
    simp [JZ]
   have HX := Gg (show ((JZ l').drop ((i : Int).toNat * 1)).take 1 = [.bool x] from hat i x hx)
   have HY := Gg (show ((JZ l').drop (((n : Int) - 1 - (i : Int)).toNat * 1)).take 1 = [.bool y] by
    rw [show ((n : Int) - 1 - (i : Int)).toNat = l.length - 1 - i by rw [Hl.out]; omega]
    exact hat _ y hy)
   have HP := Gg (show (JZ l').set ((i : Int).toNat * 1) (.bool y) = JZ (l'.set i y) by rw [Nat.mul_one]; exact boolsL_set l' i y)
   have HQ := Gg (show (JZ (l'.set i y)).set (((n : Int) - 1 - (i : Int)).toNat * 1) (.bool x) = JZ ((l'.set i y).set (l.length - 1 - i) x) by
    rw [Hl.out, Nat.mul_one, show ((n : Int) - 1 - (i : Int)).toNat = n - 1 - i by omega]
    exact boolsL_set _ _ x)
   clear hx hy hat
   go_wp2_with (fail)
   refine Pj (.one 0 3 (.one 1 3 (.one 2 3 (.one 3 3 (.one 4 3 (.one 5 3 (.one 8 3 (.one 9 3 (.one 6 0 (.one 7 0 (.one 10 2 (.one 11 2 (.one 12 2 (.one 13 1 (.one 14 2 (.one 15 1 .nil)))))))))))))))) (by kernel_rfl) (by kernel_rfl) ?_
   replace Ga := Ga.drew
   refine Pk rfl rfl ?_; go_wp2_with fail
   refine Pk rfl rfl ?_; go_wp2_with fail
   refine Pk rfl rfl ?_; go_wp2_with fail
   refine Pk rfl rfl ?_; go_wp2_with fail
   refine Pk rfl rfl ?_; go_wp2_with fail
   refine Pk rfl rfl ?_; go_wp2_with fail
   refine Pk rfl rfl ?_; go_wp2_with fail
   refine Pk rfl rfl ?_; go_wp2_with fail
   refine pn_q rfl rfl ?_; go_wp2_with (refine Gp 20 rfl (by rfl) (by rfl) uz155 MX (Ga.sl 0 rfl) (by omega) (by omega) ?_; intro o20 p20 ha20 hr20; ((subst ha20)))
   refine pn_q rfl rfl ?_; go_wp2_with (refine Gj 21 rfl (by rfl) uz4 rfl (v := .bool y) (hr20 0 (.bool y) (by rw [HY.out]; rfl)) ?_)
   refine pn_g rfl ?_; go_wp2_with (refine Gp 24 rfl (by rfl) (by rfl) uz155 MX (Ga.sl 0 rfl) (by omega) (by omega) ?_; intro o24 p24 ha24 hr24; ((obtain ⟨h1, h2⟩ := Jb ha24; subst h1; subst h2; clear ha24))); refine Gh ?_
   refine pn_g rfl ?_; go_wp2_with (refine Gj 25 rfl (by rfl) uz4 rfl (v := .bool x) (hr24 0 (.bool x) (by rw [HX.out]; rfl)) ?_); refine Gh ?_
   refine pn_g rfl ?_; go_wp2_with ((refine MZ (d := some 26) rfl rfl Ga rfl (by rfl) (by rfl) uz155 MX 0 rfl (by rfl) (by omega) (by omega) ?_; intro o26 p26 ha26; ((obtain ⟨h1, h2⟩ := Jb ha26; subst h1; subst h2; clear ha26)))); refine Gh ?_
   refine pn_e rfl ?_; go_wp2_with (refine GB (.store 4 (.tmp 26) (.tmp 21)) rfl ?_; (refine Mv rfl rfl Ga rfl (by rfl) (Gw rfl) rfl MX 0 rfl (by (omega)) ?_; clear Ga; intro WS13 Ga; simp only [Ge, Gf, HP.out, HQ.out] at Ga))
   refine pn_g rfl ?_; go_wp2_with ((refine MZ (d := some 27) rfl rfl Ga rfl (by rfl) (by rfl) uz155 MX 0 rfl (by rfl) (by omega) (by omega) ?_; intro o27 p27 ha27; ((obtain ⟨h1, h2⟩ := Jb ha27; subst h1; subst h2; clear ha27)))); refine Gh ?_
   refine pn_e rfl ?_; go_wp2_with (refine GB (.store 4 (.tmp 27) (.tmp 25)) rfl ?_; (refine Mv rfl rfl Ga rfl (by rfl) (Gw rfl) rfl MX 0 rfl (by (omega)) ?_; clear Ga; intro WS15 Ga; simp only [Ge, Gf, HP.out, HQ.out] at Ga))
   refine pn_nil ?_
   go_wp2_with fail
   go_roundg (gk - 1)
   case measure => have hi := HI.out; omega
   case rel =>
    have hi := HI.out
    exact ⟨i + 1, _, Gg (by omega), HN, by go_num, by congr 1; omega, by omega, Ga⟩
  ·have hd := HS.out.done (by rw [Hl.out]; omega)
   rw [hd] at Ga
   clear hd hi HI
   go_wp2_with (fail)
   go_end0
   exact ⟨rfl, Ga⟩
theorem sides_any (i n : Nat) (hn : n ≤ 256) (hin : i < n) (w : World) : Calls Tryz.prog 97 #[.int .i64 (i : Int), .int .i64 (n : Int)] w fun e w' => ∃ A c, e = .returned (.slice A (Jn i n) c) ∧ St w w' [.row A (Jn i n) c 4 1 (JZ (JU i n))] := by
 have Ga := St.refl w
 go_enter Tryz.func97, Tryz.ntmps97
 go_wp2_with (fail)
 have Ga : St w w [.row none 0 0 4 1 (JZ [])] := Ga.nilRow 4 1
 go_loopg [0, 1, 4] n (fun gk s0 s1 s4 wr => ∃ (i' p : Nat) (lt : List Bool) (O : Option Addr) (oc : Nat), Hid (lt ++ JU i' gk = JU i n) ∧ Hid (lt.length = p) ∧ i' < gk ∧ p + gk ≤ n ∧ s0 = .int .i64 (i' : Int) ∧ s1 = .int .i64 (gk : Int) ∧ s4 = .slice O p oc ∧ St w wr [.row O p oc 4 1 (JZ lt)])
 case atStart => exact ⟨i, 0, [], none, 0, Lib.hid rfl, Lib.hid rfl, hin, by omega, rfl, rfl, rfl, Ga⟩
 case round =>
  clear Ga
  obtain ⟨i', p, lt, O, oc, HS, HL, hi', hp, rfl, rfl, rfl, Ga⟩ := hrel
  by_cases h1 : 1 < gk
  ·have hlt := Ju gk (by omega)
   have hps := Jl gk
   have HF := Gg (fun w => P6 gk (by omega) (by omega) w)
   by_cases hk : i' < GH gk
   ·have HN := Gg (show (lt ++ [true]) ++ JU i' (GH gk) = JU i n by
     rw [← HS.out, sidesN_left (by omega) hk, List.append_assoc]
     rfl)
    have HB := Gg (show JZ lt ++ [.bool true] = JZ (lt ++ [true]) by rw [boolsL_append]; rfl)
    generalize GH gk = k at *
    go_wp2_with (first | (go_at_call 91; (try clear Gb); refine (HF.out _).mono ?_; rintro e Wk1 ⟨rfl, Gb⟩; replace Ga := Ga.keep Gb) | (refine Gq 14 rfl [_] (Kj (Gw rfl)) rfl uz155 MX rfl (by (simp [Value.cells]; done)) (by decide) (by decide) ?_; (try clear Gb); intro g14 W14 Gb; replace Ga := Ga.tr1 Gb; simp only [List.flatMap_cons, List.flatMap_nil, List.append_nil, Value.cells, List.toList_toArray] at Ga) | (refine GY (d := some 15) rfl rfl Ga rfl (by rfl) (by rfl) uz155 MX rfl (by decide) (by decide) 1 rfl (by rfl) (Ga.sl 0 rfl) (by (simp [Value.oneCell']; done)) (by omega) ?_; clear Ga; intro A15 c15 W15 Ga; simp only [Ge, Gf, List.nil_append, Nat.zero_add] at Ga))
    go_roundg k
    case measure => exact hlt
    case rel =>
     refine ⟨i', p + 1, lt ++ [true], A15, c15, HN, Gg (by rw [List.length_append, HL.out]; rfl), hk, by omega, rfl, rfl, rfl, ?_⟩
     rw [← HB.out]
     exact Ga.pick [1] (by decide)
   ·have HN := Gg (show (lt ++ [false]) ++ JU (i' - GH gk) (gk - GH gk) = JU i n by
     rw [← HS.out, sidesN_right (by omega) hk, List.append_assoc]
     rfl)
    have HB := Gg (show JZ lt ++ [.bool false] = JZ (lt ++ [false]) by rw [boolsL_append]; rfl)
    generalize GH gk = k at *
    go_wp2_with (first | (go_at_call 91; (try clear Gb); refine (HF.out _).mono ?_; rintro e Wk2 ⟨rfl, Gb⟩; replace Ga := Ga.keep Gb) | (refine Gq 14 rfl [_] (Kj (Gw rfl)) rfl uz155 MX rfl (by (simp [Value.cells]; done)) (by decide) (by decide) ?_; (try clear Gb); intro g14 W14 Gb; replace Ga := Ga.tr1 Gb; simp only [List.flatMap_cons, List.flatMap_nil, List.append_nil, Value.cells, List.toList_toArray] at Ga) | (refine GY (d := some 15) rfl rfl Ga rfl (by rfl) (by rfl) uz155 MX rfl (by decide) (by decide) 1 rfl (by rfl) (Ga.sl 0 rfl) (by (simp [Value.oneCell']; done)) (by omega) ?_; clear Ga; intro A15 c15 W15 Ga; simp only [Ge, Gf, List.nil_append, Nat.zero_add] at Ga))
    go_roundg (gk - k)
    case measure => omega
    case rel =>
     refine ⟨i' - k, p + 1, lt ++ [false], A15, c15, HN, Gg (by rw [List.length_append, HL.out]; rfl), by omega, by omega, by congr 1; omega, by congr 1; omega, rfl, ?_⟩
     rw [← HB.out]
     exact Ga.pick [1] (by decide)
  ·have HN := Gg (show lt = JU i n by rw [← HS.out, sidesN_one i' (by omega), List.append_nil])
   have hp' : p = Jn i n := by rw [← NQ, ← HN.out, HL.out]
   rw [hp', HN.out] at Ga
   rw [hp']
   clear hp HS HL hp'
   go_wp2_with (fail)
   go_ret
   exact ⟨_, _, rfl, Ga⟩
end
section
open Go.RowKit
theorem revD_any (l : List Dig) (n c : Nat) (A : Option Addr) (w0 w : World) (L : List Res) (Ga : St w0 w (.row A n c 32 32 (GP l) :: L)) :
  Calls Tryz.prog 92 #[.slice A n c] w fun e w' => e = .returned (.tuple #[]) ∧ St w0 w' (.row A n c 32 32 (GP l.reverse) :: L) := by
 have hl : l.length = n := by have := (Ga.sl 0 rfl).1; rw [G8] at this; omega
 have hcap := (Ga.sl 0 rfl).2.1
 have hmax := (Ga.sl 0 rfl).2.2.1
 simp only [maxLen] at hmax
 have Hl := Gg hl
 clear hl
 go_enter Tryz.func92, Tryz.ntmps92
 go_wp2_with (fail)
 go_loopg [2, 3] n (fun gk s2 s3 wr => ∃ (i : Nat) (l' : List Dig), Hid (i + gk = n) ∧ Hid (SwapAt l l' i) ∧ s2 = .int .i64 (i : Int) ∧ s3 = .int .i64 ((n : Int) - 1 - (i : Int)) ∧ 2 * i ≤ n ∧ St w0 wr (.row A n c 32 32 (GP l') :: L))
 case atStart => exact ⟨0, l, Gg (by omega), Gg (SwapAt.start l), rfl, by congr 1; omega, by omega, Ga⟩
 case round =>
  clear Ga
  obtain ⟨i, l', HI, HS, rfl, rfl, h2i, Ga⟩ := hrel
  have hi := HI.out
  by_cases hin : (i : Int) < (n : Int) - 1 - (i : Int)
  ·clear hi
   obtain ⟨x, hx⟩ : ∃ x, l'[i]? = some x := ⟨l'[i]'(by rw [HS.out.len, Hl.out]; omega), List.getElem?_eq_getElem _⟩
   obtain ⟨y, hy⟩ : ∃ y, l'[l.length - 1 - i]? = some y := ⟨l'[l.length - 1 - i]'(by rw [HS.out.len, Hl.out]; omega), List.getElem?_eq_getElem _⟩
   have HN := Gg (HS.out.step (by rw [Hl.out]; omega) hx hy)
   have hat : ∀ (k : Nat) (z : Dig), l'[k]? = some z → ((GP l').drop (k * 32)).take 32 = z.arr.toList := fun k z hz => by
    obtain ⟨hk, rfl⟩ := List.getElem?_eq_some_iff.1 hz
    rw [MQ l' k hk, Dig.toList]
   have HX := Gg (hat i x hx)
   have HY := Gg (show ((GP l').drop (((n : Int) - 1 - (i : Int)).toNat * 32)).take 32 = y.arr.toList by
    rw [show ((n : Int) - 1 - (i : Int)).toNat = l.length - 1 - i by rw [Hl.out]; omega]
    exact hat _ y hy)
   have HP := Gg (show ((GP l').take ((i : Int).toNat * 32) ++ y.arr.toList ++ (GP l').drop ((i : Int).toNat * 32 + 32)) = GP (l'.set i y) from digsL_set l' i y (by rw [HS.out.len, Hl.out]; omega))
   have HQ := Gg (show ((GP (l'.set i y)).take (((n : Int) - 1 - (i : Int)).toNat * 32) ++ x.arr.toList ++ (GP (l'.set i y)).drop (((n : Int) - 1 - (i : Int)).toNat * 32 + 32)) = GP ((l'.set i y).set (l.length - 1 - i) x) by
    rw [Hl.out, show ((n : Int) - 1 - (i : Int)).toNat = n - 1 - i by omega]
    exact digsL_set _ _ x (by rw [List.length_set, HS.out.len, Hl.out]; omega))
   clear hx hy hat
   go_wp2_with (fail)
   refine Pj (.one 0 3 (.one 1 3 (.one 2 3 (.one 3 3 (.one 4 3 (.one 5 3 (.one 8 3 (.one 9 3 (.one 6 0 (.one 7 0 (.one 10 2 (.one 11 2 (.one 12 2 (.one 13 1 (.one 14 2 (.one 15 1 .nil)))))))))))))))) (by kernel_rfl) (by kernel_rfl) ?_
   replace Ga := Ga.drew
   refine Pk rfl rfl ?_; go_wp2_with fail
   refine Pk rfl rfl ?_; go_wp2_with fail
   refine Pk rfl rfl ?_; go_wp2_with fail
   refine Pk rfl rfl ?_; go_wp2_with fail
   refine Pk rfl rfl ?_; go_wp2_with fail
   refine Pk rfl rfl ?_; go_wp2_with fail
   refine Pk rfl rfl ?_; go_wp2_with fail
   refine Pk rfl rfl ?_; go_wp2_with fail
   refine pn_q rfl rfl ?_; go_wp2_with (refine Gp 20 rfl (by rfl) (by rfl) uz44 Gv (Ga.sl 0 rfl) (by omega) (by omega) ?_; intro o20 p20 ha20 hr20; ((subst ha20)))
   refine pn_q rfl rfl ?_; go_wp2_with (refine Gn 21 rfl (by rfl) uz32 rfl Gv (cs := y.arr) (by rw [← HY.out]; exact hr20) (Dig.size _) ?_)
   refine pn_g rfl ?_; go_wp2_with (refine Gp 24 rfl (by rfl) (by rfl) uz44 Gv (Ga.sl 0 rfl) (by omega) (by omega) ?_; intro o24 p24 ha24 hr24; ((obtain ⟨h1, h2⟩ := Jb ha24; subst h1; subst h2; clear ha24))); refine Gh ?_
   refine pn_g rfl ?_; go_wp2_with (refine Gn 25 rfl (by rfl) uz32 rfl Gv (cs := x.arr) (by rw [← HX.out]; exact hr24) (Dig.size _) ?_); refine Gh ?_
   refine pn_g rfl ?_; go_wp2_with ((refine MZ (d := some 26) rfl rfl Ga rfl (by rfl) (by rfl) uz44 Gv 0 rfl (by rfl) (by omega) (by omega) ?_; intro o26 p26 ha26; ((obtain ⟨h1, h2⟩ := Jb ha26; subst h1; subst h2; clear ha26)))); refine Gh ?_
   refine pn_e rfl ?_; go_wp2_with (refine GB (.store 32 (.tmp 26) (.tmp 21)) rfl ?_; (refine L_storeRM rfl rfl Ga rfl (by rfl) (Gw rfl) (Dig.one _) Gv (Dig.size _) 0 rfl (by (omega)) ?_; clear Ga; intro WS13 Ga; simp only [Ge, Gf, HP.out, HQ.out] at Ga))
   refine pn_g rfl ?_; go_wp2_with ((refine MZ (d := some 27) rfl rfl Ga rfl (by rfl) (by rfl) uz44 Gv 0 rfl (by rfl) (by omega) (by omega) ?_; intro o27 p27 ha27; ((obtain ⟨h1, h2⟩ := Jb ha27; subst h1; subst h2; clear ha27)))); refine Gh ?_
   refine pn_e rfl ?_; go_wp2_with (refine GB (.store 32 (.tmp 27) (.tmp 25)) rfl ?_; (refine L_storeRM rfl rfl Ga rfl (by rfl) (Gw rfl) (Dig.one _) Gv (Dig.size _) 0 rfl (by (omega)) ?_; clear Ga; intro WS15 Ga; simp only [Ge, Gf, HP.out, HQ.out] at Ga))
   refine pn_nil ?_
   go_wp2_with fail
   go_roundg (gk - 1)
   case measure => have hi := HI.out; omega
   case rel =>
    have hi := HI.out
    exact ⟨i + 1, _, Gg (by omega), HN, by go_num, by congr 1; omega, by omega, Ga⟩
  ·have hd := HS.out.done (by rw [Hl.out]; omega)
   rw [hd] at Ga
   clear hd hi HI
   go_wp2_with (fail)
   go_end0
   exact ⟨rfl, Ga⟩
end
section
open Go.RowKit
theorem tPath_any (ls : List Dig) (A : Option Addr) (n c i : Nat) (w : World) (hT : Tb w) (hx : SlR w A n c 32 (GP ls)) (hn : n ≤ 256) (hin : i < n) :
  Calls Tryz.prog 47 #[.slice A n c, .int .i64 (i : Int)] w fun e w' => ∃ O oc, e = .returned (.tuple #[.slice O (Jn i n) oc, .nilIface]) ∧ St w w' [.row O (Jn i n) oc 32 32 (GP (KF ls i))] := by
 have Ga := St.refl w
 have HT := Gg hT
 have hl : ls.length = n := by have := hx.1; rw [G8] at this; omega
 have Hl := Gg hl
 have h1 : ¬ (256 : Int) < (n : Int) := by omega
 have h2 : ¬ (i : Int) < 0 := by omega
 have h3 : ¬ (n : Int) ≤ (i : Int) := by omega
 clear hT hl
 go_enter Tryz.func47, Tryz.ntmps47
 go_wp2_with (fail)
 have Ga : St w w [.row none 0 0 32 32 (GP [])] := Ga.nilRow 32 32
 clear h1 h2 h3
 go_loopg [0, 1, 6] n (fun gk s0 s1 s6 wr => ∃ (i' p : Nat) (cur out : List Dig) (B O : Option Addr) (d oc : Nat), Hid (out ++ (KF cur i').reverse = (KF ls i).reverse) ∧ Hid (out.length = p) ∧ Hid (cur.length = gk) ∧ i' < gk ∧ p + gk ≤ n ∧ s0 = .slice B gk d ∧ s1 = .int .i64 (i' : Int) ∧ s6 = .slice O p oc ∧ SlR w B gk d 32 (GP cur) ∧ St w wr [.row O p oc 32 32 (GP out)])
 case atStart => exact ⟨i, 0, ls, [], A, none, c, 0, Lib.hid rfl, Lib.hid rfl, Hl, hin, by omega, rfl, rfl, rfl, hx, Ga⟩
 case round =>
  clear Ga
  obtain ⟨i', p, cur, out, B, O, d, oc, HS, HO, HC, hi', hp, rfl, rfl, rfl, hcur, Ga⟩ := hrel
  have hcap := hcur.2.1
  by_cases h1 : 1 < gk
  ·have hlt := Ju gk (by omega)
   have hps := Jl gk
   have HF := Gg (fun w => P6 gk (by omega) (by omega) w)
   have H1 := Gg (show ((GP cur).drop (0 * 32)).take ((GH gk - 0) * 32) = GP (cur.take (GH gk)) by rw [J5]; rfl)
   have H2 := Gg (show ((GP cur).drop (GH gk * 32)).take ((gk - GH gk) * 32) = GP (cur.drop (GH gk)) by rw [J5, List.take_of_length_le (by rw [List.length_drop, HC.out]; omega)])
   by_cases hk : i' < GH gk
   ·have HN := Gg (show (out ++ [G4 (cur.drop (GH gk))]) ++ (KF (cur.take (GH gk)) i').reverse = (KF ls i).reverse by
     rw [← HS.out, pathN_left (ls := cur) (by rw [HC.out]; omega) (by rw [HC.out]; exact hk), List.reverse_append, HC.out, List.append_assoc]
     rfl)
    have HB := Gg (show GP out ++ (G4 (cur.drop (GH gk))).arr.toList = GP (out ++ [G4 (cur.drop (GH gk))]) by rw [Kt, JH, Dig.toList])
    have HL := Gg (show (cur.take (GH gk)).length = GH gk by rw [List.length_take, HC.out]; omega)
    generalize GH gk = k at *
    go_wp2_with (first | (go_at_call 91; (try clear Gb); refine (HF.out _).mono ?_; rintro e Wk1 ⟨rfl, Gb⟩; replace Ga := Ga.keep Gb) | (go_at_call 83; (try clear Gb); refine (root_any (gk - k) (cur.drop k) A33 c33 _ (HT.out.of Ga) (by rw [← H2.out]; exact Ga.old (by decide) hs33) (by omega)).mono ?_; rintro e Wk2 ⟨rfl, Gb⟩; replace Ga := Ga.keep Gb) | (refine Ku (d := some 33) rfl rfl rfl (by rfl) uz44 Gv (by decide) hcur k gk _ (Or.inr ⟨_, _, rfl, by (exact Gw rfl)⟩) (Or.inl ⟨rfl, rfl, rfl⟩) (Or.inl ⟨rfl, rfl⟩) (by omega) (by omega) (by omega) (by omega) ?_; intro A33 c33 hs33) | (refine Gq 35 rfl [_] (Kj (Gw rfl)) rfl uz44 Gv rfl (by (simp [Value.cells, Dig.size]; done)) (by decide) (by decide) ?_; (try clear Gb); intro g35 W35 Gb; replace Ga := Ga.tr1 Gb; simp only [List.flatMap_cons, List.flatMap_nil, List.append_nil, Value.cells, List.toList_toArray] at Ga) | (refine GY (d := some 36) rfl rfl Ga rfl (by rfl) (by rfl) uz44 Gv rfl (by decide) (by decide) 1 rfl (by rfl) (Ga.sl 0 rfl) (GX) (by omega) ?_; clear Ga; intro A36 c36 W36 Ga; simp only [Ge, Gf, List.nil_append, Nat.zero_add] at Ga) | (refine Ku (d := some 39) rfl rfl rfl (by rfl) uz44 Gv (by decide) hcur 0 k _ (Or.inl ⟨rfl, rfl⟩) (Or.inr ⟨_, _, rfl, by (exact Gw rfl)⟩) (Or.inl ⟨rfl, rfl⟩) (by omega) (by omega) (by omega) (by omega) ?_; intro A39 c39 hs39))
    go_roundg k
    case measure => exact hlt
    case rel =>
     refine ⟨i', p + 1, cur.take k, out ++ [G4 (cur.drop k)], A39, A36, c39, c36, HN, Gg (by rw [List.length_append, HO.out]; rfl), HL, hk, by omega, rfl, rfl, rfl, by rw [← H1.out]; exact hs39, ?_⟩
     rw [← HB.out]
     exact Ga.pick [1] (by decide)
   ·have HN := Gg (show (out ++ [G4 (cur.take (GH gk))]) ++ (KF (cur.drop (GH gk)) (i' - GH gk)).reverse = (KF ls i).reverse by
     rw [← HS.out, pathN_right (ls := cur) (by rw [HC.out]; omega) (by rw [HC.out]; exact hk), List.reverse_append, HC.out, List.append_assoc]
     rfl)
    have HB := Gg (show GP out ++ (G4 (cur.take (GH gk))).arr.toList = GP (out ++ [G4 (cur.take (GH gk))]) by rw [Kt, JH, Dig.toList])
    have HL := Gg (show (cur.drop (GH gk)).length = gk - GH gk by rw [List.length_drop, HC.out])
    generalize GH gk = k at *
    go_wp2_with (first | (go_at_call 91; (try clear Gb); refine (HF.out _).mono ?_; rintro e Wk3 ⟨rfl, Gb⟩; replace Ga := Ga.keep Gb) | (go_at_call 83; (try clear Gb); refine (root_any k (cur.take k) A43 c43 _ (HT.out.of Ga) (by rw [← H1.out]; exact Ga.old (by decide) hs43) (by omega)).mono ?_; rintro e Wk4 ⟨rfl, Gb⟩; replace Ga := Ga.keep Gb) | (refine Ku (d := some 43) rfl rfl rfl (by rfl) uz44 Gv (by decide) hcur 0 k _ (Or.inl ⟨rfl, rfl⟩) (Or.inr ⟨_, _, rfl, by (exact Gw rfl)⟩) (Or.inl ⟨rfl, rfl⟩) (by omega) (by omega) (by omega) (by omega) ?_; intro A43 c43 hs43) | (refine Gq 45 rfl [_] (Kj (Gw rfl)) rfl uz44 Gv rfl (by (simp [Value.cells, Dig.size]; done)) (by decide) (by decide) ?_; (try clear Gb); intro g45 W45 Gb; replace Ga := Ga.tr1 Gb; simp only [List.flatMap_cons, List.flatMap_nil, List.append_nil, Value.cells, List.toList_toArray] at Ga) | (refine GY (d := some 46) rfl rfl Ga rfl (by rfl) (by rfl) uz44 Gv rfl (by decide) (by decide) 1 rfl (by rfl) (Ga.sl 0 rfl) (GX) (by omega) ?_; clear Ga; intro A46 c46 W46 Ga; simp only [Ge, Gf, List.nil_append, Nat.zero_add] at Ga) | (refine Ku (d := some 49) rfl rfl rfl (by rfl) uz44 Gv (by decide) hcur k gk _ (Or.inr ⟨_, _, rfl, by (exact Gw rfl)⟩) (Or.inl ⟨rfl, rfl, rfl⟩) (Or.inl ⟨rfl, rfl⟩) (by omega) (by omega) (by omega) (by omega) ?_; intro A49 c49 hs49))
    go_roundg (gk - k)
    case measure => omega
    case rel =>
     refine ⟨i' - k, p + 1, cur.drop k, out ++ [G4 (cur.take k)], A49, A46, c49, c46, HN, Gg (by rw [List.length_append, HO.out]; rfl), HL, by omega, by omega, rfl, by congr 1; omega, rfl, by rw [← H2.out]; exact hs49, ?_⟩
     rw [← HB.out]
     exact Ga.pick [1] (by decide)
  ·have HN := Gg (show out.reverse = KF ls i by
    have := HS.out
    rw [pathN_one i' (by rw [HC.out]; omega), List.reverse_nil, List.append_nil] at this
    rw [this, List.reverse_reverse])
   have hp' : p = Jn i n := by rw [← HO.out, ← length_pathN n ls i Hl.out, ← HN.out, List.length_reverse]
   rw [hp'] at Ga
   rw [hp']
   clear hp HS HO hp'
   go_wp2_with ((go_at_call 92; refine (revD_any out _ _ _ w _ [] Ga).mono ?_; rintro e Wr ⟨rfl, hst'⟩; clear Ga; have Ga := hst'; clear hst'; rw [HN.out] at Ga))
   exact bp_two rfl rfl rfl rfl ⟨_, _, rfl, Ga⟩
theorem foldN_step (l : Dig) (zs : List (Dig × Bool)) (j : Nat) (hj : j < zs.length) : PD l (zs.take (j + 1)) = if (zs[j]).2 then Mm (PD l (zs.take j)) (zs[j]).1 else Mm (zs[j]).1 (PD l (zs.take j)) := by
 rw [List.take_succ_eq_append_getElem hj, foldN_append]
 rfl
theorem tFold_any (l : Dig) (path : List Dig) (A : Option Addr) (m c i n : Nat) (w : World) (hT : Tb w) (hx : SlR w A m c 32 (GP path)) (hn : n ≤ 256) (hin : i < n) (hm : m = Jn i n) :
  Calls Tryz.prog 59 #[l.v, .int .i64 (i : Int), .int .i64 (n : Int), .slice A m c] w fun e w' => e = .returned (.tuple #[(JY l i n path).v, .nilIface]) ∧ St w w' [] := by
 have Ga := St.refl w
 have HT := Gg hT
 have hl : path.length = m := by have := hx.1; rw [G8] at this; omega
 have hmax := hx.2.2.1
 have hcap := hx.2.1
 simp only [maxLen] at hmax
 have hsl : (JU i n).reverse.length = m := by rw [List.length_reverse, NQ, hm]
 have HSd := Gg (sides_any i n hn hin)
 have HM := Gg hm
 have h1 : ¬ (n : Int) < 1 := by omega
 have h2 : ¬ (256 : Int) < (n : Int) := by omega
 have h3 : ¬ (i : Int) < 0 := by omega
 have h4 : ¬ (n : Int) ≤ (i : Int) := by omega
 clear hT
 go_enter Tryz.func59, Tryz.ntmps59
 rw [← HM.out] at HSd
 have HZ := Gg (show PD l ((path.zip (JU i n).reverse).take m) = JY l i n path by
  rw [List.take_of_length_le (by rw [List.length_zip]; omega)]
  rfl)
 have HA := Gg (fun j (hj : j < m) => show ∃ (p : Dig) (b : Bool), ((GP path).drop (j * 32)).take 32 = p.arr.toList ∧ ((JZ (JU i n).reverse).drop (j * 1)).take 1 = [.bool b] ∧
   PD l ((path.zip (JU i n).reverse).take (j + 1)) = if b then Mm (PD l ((path.zip (JU i n).reverse).take j)) p else Mm p (PD l ((path.zip (JU i n).reverse).take j)) by
  refine ⟨path[j]'(by omega), (JU i n).reverse[j]'(by omega), by rw [MQ path j (by omega), Dig.toList], ?_, ?_⟩
  ·rw [Nat.mul_one, List.drop_eq_getElem_cons (by rw [PZ]; omega)]
   simp [JZ]
  ·rw [foldN_step _ _ j (by rw [List.length_zip]; omega), List.getElem_zip])
 clear hm hl hsl
 go_wp2_with (first | (go_at_call 97; (try clear Gb); refine (HSd.out _).mono ?_; rintro e Wk5 ⟨A32, c32, rfl, Gb⟩; replace Ga := Ga.trans Gb; simp only [Gc, Gd] at Ga) | (go_at_call 98; (try clear Gb); refine (revB_any (JU i n) _ _ _ w _ _ Ga).mono ?_; rintro e Wr ⟨rfl, hst'⟩; clear Ga; have Ga := hst'; clear hst') | (refine Gm 4 rfl (Gw rfl) ?_; (try clear Gb); intro g4 W4 Gb; replace Ga := Ga.tr1 Gb) | (refine Gk 8 rfl Gv ?_; (try clear Gb); intro g8 W8 Gb; replace Ga := Ga.tr1 Gb))
 clear h1 h2 h3 h4
 have h0 : PD l ((path.zip (JU i n).reverse).take 0) = l := rfl
 generalize JZ (JU i n).reverse = lb at *
 generalize path.zip (JU i n).reverse = zs at *
 rw [← h0] at Ga
 clear h0
 go_loopg [44] m (fun gk s44 wr => ∃ j : Nat, Hid (j + gk = m) ∧ s44 = .int .i64 (j : Int) ∧ St w wr [.row A32 m c32 4 1 lb, .blk g8 32 GM.arr, .blk g4 32 (PD l (zs.take j)).arr])
 case atStart => exact ⟨0, Gg (by omega), rfl, Ga⟩
 case round =>
  clear Ga
  obtain ⟨j, HI, rfl, Ga⟩ := hrel
  have hi := HI.out
  by_cases hjm : j < m
  ·clear hi
   obtain ⟨p, b, hp, hb, hs⟩ := HA.out j hjm
   have HP := Gg hp
   have HB := Gg (show (lb.drop ((j : Int).toNat * 1)).take 1 = [.bool b] from hb)
   have HS := Gg hs
   clear hp hb hs
   generalize PD l (zs.take j) = u at *
   cases b
   ·
    go_wp2_with (first | (refine Gn 48 rfl (by rfl) uz32 rfl Gv (cs := p.arr) (by rw [← HP.out]; exact hr47) (Dig.size _) ?_) | (refine Gj 52 rfl (by rfl) uz4 rfl (v := .bool false) (hr51 0 (.bool false) (by rw [HB.out]; rfl)) ?_) | (go_at_call 99; (try clear Gb); with_reducible refine (P5 _ _ _ (HT.out.of Ga)).mono ?_; rintro e Wk6 ⟨rfl, Gb⟩; replace Ga := Ga.keep Gb) | (refine Gp 47 rfl (by rfl) (by rfl) uz44 Gv (Ga.old (by decide) hx) (by omega) (by omega) ?_; intro o47 p47 ha47 hr47; ((subst ha47))) | (refine Gk 12 rfl Gv ?_; (try clear Gb); intro g12 W12 Gb; replace Ga := Ga.tr1 Gb) | ((refine Gr 12 48 Ga rfl (by rfl) (Gw rfl) (Dig.one _) Gv (Dig.size _) 0 rfl (by rfl) ?_; clear Ga; intro WS5 Ga; simp only [Ge, Gf] at Ga)) | (refine Gp 51 rfl (by rfl) (by rfl) uz155 MX (Ga.sl 1 rfl) (by omega) (by omega) ?_; intro o51 p51 ha51 hr51; ((subst ha51))) | (refine Gl 56 rfl (by rfl) uz32 rfl Gv (Ga.get 0 rfl) (Dig.size _) ?_) | (refine Gl 57 rfl (by rfl) uz32 rfl Gv (Ga.get 3 rfl) (Dig.size _) ?_) | ((refine Gr 4 58 Ga rfl (by rfl) (Gw rfl) (Dig.one _) Gv (by rfl) 3 rfl (Dig.size _) ?_; clear Ga; intro WS3 Ga; simp only [Ge, Gf] at Ga)))
    go_roundg (gk - 1)
    case measure => have hi := HI.out; omega
    case rel =>
     have hi := HI.out
     refine ⟨j + 1, Gg (by omega), by go_num, ?_⟩
     rw [HS.out]
     exact Ga.pick [1, 2, 3] (by decide)
   ·
    go_wp2_with (first | (refine Gn 48 rfl (by rfl) uz32 rfl Gv (cs := p.arr) (by rw [← HP.out]; exact hr47) (Dig.size _) ?_) | (refine Gj 52 rfl (by rfl) uz4 rfl (v := .bool true) (hr51 0 (.bool true) (by rw [HB.out]; rfl)) ?_) | (go_at_call 99; (try clear Gb); with_reducible refine (P5 _ _ _ (HT.out.of Ga)).mono ?_; rintro e Wk7 ⟨rfl, Gb⟩; replace Ga := Ga.keep Gb) | (refine Gp 47 rfl (by rfl) (by rfl) uz44 Gv (Ga.old (by decide) hx) (by omega) (by omega) ?_; intro o47 p47 ha47 hr47; ((subst ha47))) | (refine Gk 12 rfl Gv ?_; (try clear Gb); intro g12 W12 Gb; replace Ga := Ga.tr1 Gb) | ((refine Gr 12 48 Ga rfl (by rfl) (Gw rfl) (Dig.one _) Gv (Dig.size _) 0 rfl (by rfl) ?_; clear Ga; intro WS5 Ga; simp only [Ge, Gf] at Ga)) | (refine Gp 51 rfl (by rfl) (by rfl) uz155 MX (Ga.sl 1 rfl) (by omega) (by omega) ?_; intro o51 p51 ha51 hr51; ((subst ha51))) | (refine Gl 53 rfl (by rfl) uz32 rfl Gv (Ga.get 3 rfl) (Dig.size _) ?_) | (refine Gl 54 rfl (by rfl) uz32 rfl Gv (Ga.get 0 rfl) (Dig.size _) ?_) | ((refine Gr 4 55 Ga rfl (by rfl) (Gw rfl) (Dig.one _) Gv (by rfl) 3 rfl (Dig.size _) ?_; clear Ga; intro WS3 Ga; simp only [Ge, Gf] at Ga)))
    go_roundg (gk - 1)
    case measure => have hi := HI.out; omega
    case rel =>
     have hi := HI.out
     refine ⟨j + 1, Gg (by omega), by go_num, ?_⟩
     rw [HS.out]
     exact Ga.pick [1, 2, 3] (by decide)
  ·obtain rfl : j = m := by omega
   rw [HZ.out] at Ga
   clear hi HI
   go_wp2_with (first | (refine Gl 60 rfl (by rfl) uz32 rfl Gv (Ga.get 2 rfl) (Dig.size _) ?_) | ((refine Gr 8 60 Ga rfl (by rfl) (Gw rfl) (Dig.one _) Gv (Dig.size _) 1 rfl (by rfl) ?_; clear Ga; intro WS1 Ga; simp only [Ge, Gf] at Ga)))
   refine He rfl rfl rfl rfl (Ga.get 1 rfl) uz32 rfl Gv (Dig.size _) ?_
   exact ⟨rfl, Ga.forget⟩
theorem tFold_length (l : Dig) (A : Option Addr) (m c i n : Nat) (w : World) (hn : n ≤ 256) (hin : i < n) (hm : m ≠ Jn i n) :
  Calls Tryz.prog 59 #[l.v, .int .i64 (i : Int), .int .i64 (n : Int), .slice A m c] w fun e w' => e = .returned (.tuple #[GM.v, JL 3]) ∧ St w w' [] := by
 have Ga := St.refl w
 have h1 : ¬ (n : Int) < 1 := by omega
 have h2 : ¬ (256 : Int) < (n : Int) := by omega
 have h3 : ¬ (i : Int) < 0 := by omega
 have h4 : ¬ (n : Int) ≤ (i : Int) := by omega
 have h5 : ((m : Int) != (Jn i n : Int)) = true := by rw [bne_iff_ne]; omega
 clear hm
 go_enter Tryz.func59, Tryz.ntmps59
 go_wp2_with (first | (go_at_call 97; (try clear Gb); refine (sides_any i n hn hin _).mono ?_; rintro e Wk8 ⟨A32, c32, rfl, Gb⟩; replace Ga := Ga.trans Gb; simp only [Gc, Gd] at Ga) | (refine Gm 4 rfl (Gw rfl) ?_; (try clear Gb); intro g4 W4 Gb; replace Ga := Ga.tr1 Gb) | (refine Gk 8 rfl Gv ?_; (try clear Gb); intro g8 W8 Gb; replace Ga := Ga.tr1 Gb) | (refine KC (d := some 38) rfl rfl rfl uz32 GF Gv ?_) | ((refine Gr 8 38 Ga rfl (by rfl) (Gw rfl) (Dig.one _) Gv (by rfl) 1 rfl (by rfl) ?_; clear Ga; intro WS2 Ga; simp only [Ge, Gf] at Ga)))
 refine He rfl rfl rfl rfl (Ga.get 1 rfl) uz32 rfl Gv (by rfl) ?_
 exact ⟨rfl, Ga.forget⟩
theorem tFold_range (l : Dig) (A : Option Addr) (m c : Nat) (i n : Int) (w : World) (h : n < 1 ∨ ¬ n < 1 ∧ 256 < n ∨ ¬ n < 1 ∧ ¬ 256 < n ∧ i < 0 ∨ ¬ n < 1 ∧ ¬ 256 < n ∧ ¬ i < 0 ∧ n ≤ i) :
  Calls Tryz.prog 59 #[l.v, .int .i64 i, .int .i64 n, .slice A m c] w fun e w' => e = .returned (.tuple #[GM.v, JL 2]) ∧ St w w' [] := by
 have Ga := St.refl w
 rcases h with h1 | ⟨h1, h2⟩ | ⟨h1, h2, h3⟩ | ⟨h1, h2, h3, h4⟩
 all_goals
  go_enter Tryz.func59, Tryz.ntmps59
  go_wp2_with (first | (refine Gm 4 rfl (Gw rfl) ?_; (try clear Gb); intro g4 W4 Gb; replace Ga := Ga.tr1 Gb) | (refine Gk 8 rfl Gv ?_; (try clear Gb); intro g8 W8 Gb; replace Ga := Ga.tr1 Gb) | (refine KC (d := some 28) rfl rfl rfl uz32 GF Gv ?_) | ((refine Gr 8 28 Ga rfl (by rfl) (Gw rfl) (Dig.one _) Gv (by rfl) 0 rfl (by rfl) ?_; clear Ga; intro WS2 Ga; simp only [Ge, Gf] at Ga)))
  refine He rfl rfl rfl rfl (Ga.get 0 rfl) uz32 rfl Gv (by rfl) ?_
  exact ⟨rfl, Ga.forget⟩
end
section
open Go.RowKit
theorem gproof_any : ∀ (n : Nat) (ls : List Dig) (A : Option Addr) (c m : Nat) (own : Bool) (w : World), Tb w → SlR w A n c 32 (GP ls) → 1 ≤ m → m ≤ n → n ≤ 256 →
  Calls Tryz.prog 94 #[.slice A n c, .int .i64 (m : Int), .bool own] w fun e w' => ∃ O oc, e = .returned (.slice O (plN n m own) oc) ∧ St w w' [.row O (plN n m own) oc 32 32 (GP (gpN ls m own))] := by
 intro n
 induction n using Nat.strongRecOn with
 | ind n ih =>
 intro ls A c m own w hT hx hm1 hmn hn
 have Ga := St.refl w
 have HT := Gg hT
 have hl : ls.length = n := by have := hx.1; rw [G8] at this; omega
 have hcap := hx.2.1
 clear hT
 by_cases h : m = n
 ·subst h
  rw [gpN_all ls own hl.symm, PP]
  cases own with
  | true =>
   clear ih
   go_enter Tryz.func94, Tryz.ntmps94
   go_wp2_with (fail)
   go_ret
   exact ⟨_, _, rfl, Ga.nilRow 32 32⟩
  | false =>
   have HR := Gg (fun w hT hs => tRoot_any ls A m c w hT hs hn)
   have HB := Gg (show (G4 ls).arr.toList = GP [G4 ls] by rw [JH, Dig.toList])
   clear ih
   generalize G4 ls = r at *
   go_enter Tryz.func94, Tryz.ntmps94
   go_wp2_with (first | (go_at_call 38; (try clear Gb); refine (HR.out _ (HT.out.of Ga) (Ga.old (by decide) hx)).mono ?_; rintro e Wk1 ⟨rfl, Gb⟩; replace Ga := Ga.keep Gb) | (refine Gk 7 rfl Gv ?_; (try clear Gb); intro g7 W7 Gb; replace Ga := Ga.tr1 Gb) | ((refine Gr 7 22 Ga rfl (by rfl) (Gw rfl) (Dig.one _) Gv (Dig.size _) 0 rfl (by rfl) ?_; clear Ga; intro WS6 Ga; simp only [Ge, Gf] at Ga)) | (refine Gl 24 rfl (by rfl) uz32 rfl Gv (Ga.get 0 rfl) (Dig.size _) ?_) | (refine Gq 25 rfl [_] (Kj (Gw rfl)) rfl uz44 Gv rfl (by (simp [Value.cells, Dig.size]; done)) (by decide) (by decide) ?_; (try clear Gb); intro g25 W25 Gb; replace Ga := Ga.tr1 Gb; simp only [List.flatMap_cons, List.flatMap_nil, List.append_nil, Value.cells, List.toList_toArray] at Ga))
   go_ret
   refine ⟨_, _, rfl, ?_⟩
   (try simp only [Bool.false_eq_true, if_false])
   rw [← HB.out]
   exact Ga.pick [0] (by decide)
 ·have hlt := Ju n (by omega)
  have hps := Jl n
  have h' : ((m : Int) == (n : Int)) = false := by rw [beq_eq_false_iff_ne]; omega
  have HF := Gg (fun w => P6 n (by omega) (by omega) w)
  have H1 := Gg (show ((GP ls).drop (0 * 32)).take ((GH n - 0) * 32) = GP (ls.take (GH n)) by rw [J5]; rfl)
  have H2 := Gg (show ((GP ls).drop (GH n * 32)).take ((n - GH n) * 32) = GP (ls.drop (GH n)) by rw [J5, List.take_of_length_le (by rw [List.length_drop]; omega)])
  by_cases hk : m ≤ GH n
  ·have hle := plN_le (GH n) m own
   rw [NV h (by omega) hk]
   have HI := Gg (fun A c w hT hs => ih (GH n) hlt (ls.take (GH n)) A c m own w hT hs hm1 hk (by omega))
   have HR := Gg (fun A c w hT hs => tRoot_any (ls.drop (GH n)) A (n - GH n) c w hT hs (by omega))
   have HB := Gg (show GP (gpN (ls.take (GH n)) m own) ++ (G4 (ls.drop (GH n))).arr.toList = GP (gpN ls m own) by
    rw [gpN_left (ls := ls) (by omega) (by omega) (by rw [hl]; exact hk), hl, Kt, JH, Dig.toList])
   have hk' : (m : Int) ≤ (GH n : Int) := by omega
   clear ih hl
   generalize plN (GH n) m own = r at *
   generalize GH n = k at *
   generalize G4 (ls.drop k) = x at *
   go_enter Tryz.func94, Tryz.ntmps94
   go_upto_region 1 with (fail)
   go_upto_region 6 with (fail)
   go_upto_region 7 with ((go_at_call 91; (try clear Gb); refine (HF.out _).mono ?_; rintro e Wk2 ⟨rfl, Gb⟩; replace Ga := Ga.keep Gb))
   go_upto_region 8 with (fail)
   go_upto_region 9 with (first | (go_at_call 38; (try clear Gb); refine (HR.out A35 c35 _ (HT.out.of Ga) (by rw [← H2.out]; exact Ga.old (by decide) hs35)).mono ?_; rintro e Wk3 ⟨rfl, Gb⟩; replace Ga := Ga.keep Gb) | (refine Ku (d := some 35) rfl rfl rfl (by rfl) uz44 Gv (by decide) hx k n _ (Or.inr ⟨_, _, rfl, by (exact Gw rfl)⟩) (Or.inl ⟨rfl, rfl, rfl⟩) (Or.inl ⟨rfl, rfl⟩) (by omega) (by omega) (by omega) (by omega) ?_; intro A35 c35 hs35) | (refine Gk 10 rfl Gv ?_; (try clear Gb); intro g10 W10 Gb; replace Ga := Ga.tr1 Gb) | ((refine Gr 10 37 Ga rfl (by rfl) (Gw rfl) (Dig.one _) Gv (Dig.size _) 0 rfl (by rfl) ?_; clear Ga; intro WS8 Ga; simp only [Ge, Gf] at Ga)))
   (try clear Gb)
   refine Pj (.one 0 3 (.one 1 3 (.one 3 3 (.one 4 3 (.one 2 0 (.one 6 0 (.two 5 (.one 7 2 (.one 8 1 (.one 9 2 .nil))) 7 (.one 5 2 (.one 8 1 (.one 9 2 .nil)))))))))) (by kernel_rfl) (by kernel_rfl) ?_
   replace Ga := Ga.drew
   refine Pk rfl rfl ?_; go_wp2_with fail
   refine Pk rfl rfl ?_; go_wp2_with fail
   refine Pk rfl rfl ?_; go_wp2_with fail
   refine Pk rfl rfl ?_; go_wp2_with fail
   refine pn_q rfl rfl ?_; go_wp2_with ((refine Ku (d := some 41) rfl rfl rfl (by rfl) uz44 Gv (by decide) hx 0 k _ (Or.inl ⟨rfl, rfl⟩) (Or.inr ⟨_, _, rfl, by (exact Gw rfl)⟩) (Or.inl ⟨rfl, rfl⟩) (by omega) (by omega) (by omega) (by omega) ?_; intro A41 c41 hs41))
   refine pn_q rfl rfl ?_; go_wp2_with ((refine Gl 45 rfl (by rfl) uz32 rfl Gv (Ga.get 0 rfl) (Dig.size _) ?_))
   refine pn_two rfl rfl ?_ ?_
   ·go_wp2_with ((go_at_call 94; (try clear Gb); refine (HI.out A41 c41 _ (HT.out.of Ga) (by rw [← H1.out]; exact Ga.old (by decide) hs41)).mono ?_; rintro e Wk4 ⟨O44, c44, rfl, Gb⟩; replace Ga := Ga.trans Gb; simp only [Gc, Gd] at Ga)); refine Gi Gb ?_
    refine pn_g rfl ?_; go_wp2_with (refine Gq 46 rfl [_] (Kj (Gw rfl)) rfl uz44 Gv rfl (by (simp [Value.cells, Dig.size]; done)) (by decide) (by decide) ?_; (try clear Gb); intro g46 W46 Gb; replace Ga := Ga.tr1 Gb; simp only [List.flatMap_cons, List.flatMap_nil, List.append_nil, Value.cells, List.toList_toArray] at Ga); refine Gi Gb ?_
    refine pn_e rfl ?_; go_wp2_with (refine GY (d := some 47) rfl rfl Ga rfl (by rfl) (by rfl) uz44 Gv rfl (by decide) (by decide) 1 rfl (by rfl) (Ga.sl 0 rfl) (GX) (by omega) ?_; clear Ga; intro A47 c47 W47 Ga; simp only [Ge, Gf, List.nil_append, Nat.zero_add] at Ga)
    refine pn_g rfl ?_; go_wp2_with fail; refine Gh ?_
    refine pn_nil ?_
    go_wp2_with fail
    go_ret
    refine ⟨_, _, rfl, ?_⟩
    rw [HB.out] at Ga
    (exact Ga.pick [1] (by decide))
   ·go_wp2_with (refine Gq 46 rfl [_] (Kj (Gw rfl)) rfl uz44 Gv rfl (by (simp [Value.cells, Dig.size]; done)) (by decide) (by decide) ?_; (try clear Gb); intro g46 W46 Gb; replace Ga := Ga.tr1 Gb; simp only [List.flatMap_cons, List.flatMap_nil, List.append_nil, Value.cells, List.toList_toArray] at Ga); refine Gi Gb ?_
    refine pn_g rfl ?_; go_wp2_with ((go_at_call 94; (try clear Gb); refine (HI.out A41 c41 _ (HT.out.of Ga) (by rw [← H1.out]; exact Ga.old (by decide) hs41)).mono ?_; rintro e Wk4 ⟨O44, c44, rfl, Gb⟩; replace Ga := Ga.trans Gb; simp only [Gc, Gd] at Ga)); refine Gi Gb ?_
    refine pn_e rfl ?_; go_wp2_with (refine GY (d := some 47) rfl rfl Ga rfl (by rfl) (by rfl) uz44 Gv rfl (by decide) (by decide) 0 rfl (by rfl) (Ga.sl 1 rfl) (GX) (by omega) ?_; clear Ga; intro A47 c47 W47 Ga; simp only [Ge, Gf, List.nil_append, Nat.zero_add] at Ga)
    refine pn_g rfl ?_; go_wp2_with fail; refine Gh ?_
    refine pn_nil ?_
    go_wp2_with fail
    go_ret
    refine ⟨_, _, rfl, ?_⟩
    rw [HB.out] at Ga
    (exact Ga.pick [0] (by decide))
  ·have hle := plN_le (n - GH n) (m - GH n) false
   rw [M5 h (by omega) hk]
   have HI := Gg (fun A c w hT hs => ih (n - GH n) (by omega) (ls.drop (GH n)) A c (m - GH n) false w hT hs (by omega) (by omega) (by omega))
   have HR := Gg (fun A c w hT hs => tRoot_any (ls.take (GH n)) A (GH n) c w hT hs (by omega))
   have HB := Gg (show GP (gpN (ls.drop (GH n)) (m - GH n) false) ++ (G4 (ls.take (GH n))).arr.toList = GP (gpN ls m own) by
    rw [gpN_right (ls := ls) (by omega) (by omega) (by rw [hl]; exact hk), hl, Kt, JH, Dig.toList])
   have e1 : (((m - GH n : Nat)) : Int) = (m : Int) - (GH n : Int) := by omega
   rw [e1] at HI
   have hk' : ¬ (m : Int) ≤ (GH n : Int) := by omega
   clear ih hl e1
   generalize plN (n - GH n) (m - GH n) false = r at *
   generalize GH n = k at *
   generalize G4 (ls.take k) = x at *
   go_enter Tryz.func94, Tryz.ntmps94
   go_upto_region 1 with (fail)
   go_upto_region 6 with (fail)
   go_upto_region 7 with ((go_at_call 91; (try clear Gb); refine (HF.out _).mono ?_; rintro e Wk5 ⟨rfl, Gb⟩; replace Ga := Ga.keep Gb))
   go_upto_region 10 with (fail)
   go_upto_region 11 with (first | (go_at_call 38; (try clear Gb); refine (HR.out A51 c51 _ (HT.out.of Ga) (by rw [← H1.out]; exact Ga.old (by decide) hs51)).mono ?_; rintro e Wk6 ⟨rfl, Gb⟩; replace Ga := Ga.keep Gb) | (refine Ku (d := some 51) rfl rfl rfl (by rfl) uz44 Gv (by decide) hx 0 k _ (Or.inl ⟨rfl, rfl⟩) (Or.inr ⟨_, _, rfl, by (exact Gw rfl)⟩) (Or.inl ⟨rfl, rfl⟩) (by omega) (by omega) (by omega) (by omega) ?_; intro A51 c51 hs51) | (refine Gk 12 rfl Gv ?_; (try clear Gb); intro g12 W12 Gb; replace Ga := Ga.tr1 Gb) | ((refine Gr 12 53 Ga rfl (by rfl) (Gw rfl) (Dig.one _) Gv (Dig.size _) 0 rfl (by rfl) ?_; clear Ga; intro WS8 Ga; simp only [Ge, Gf] at Ga)))
   (try clear Gb)
   refine Pj (.one 0 3 (.one 1 3 (.one 3 3 (.one 4 3 (.one 2 0 (.one 5 0 (.one 7 0 (.two 6 (.one 8 2 (.one 9 1 (.one 10 2 .nil))) 8 (.one 6 2 (.one 9 1 (.one 10 2 .nil))))))))))) (by kernel_rfl) (by kernel_rfl) ?_
   replace Ga := Ga.drew
   refine Pk rfl rfl ?_; go_wp2_with fail
   refine Pk rfl rfl ?_; go_wp2_with fail
   refine Pk rfl rfl ?_; go_wp2_with fail
   refine Pk rfl rfl ?_; go_wp2_with fail
   refine pn_q rfl rfl ?_; go_wp2_with ((refine Ku (d := some 57) rfl rfl rfl (by rfl) uz44 Gv (by decide) hx k n _ (Or.inr ⟨_, _, rfl, by (exact Gw rfl)⟩) (Or.inl ⟨rfl, rfl, rfl⟩) (Or.inl ⟨rfl, rfl⟩) (by omega) (by omega) (by omega) (by omega) ?_; intro A57 c57 hs57))
   refine pn_q rfl rfl ?_; go_wp2_with fail
   refine pn_q rfl rfl ?_; go_wp2_with ((refine Gl 62 rfl (by rfl) uz32 rfl Gv (Ga.get 0 rfl) (Dig.size _) ?_))
   refine pn_two rfl rfl ?_ ?_
   ·go_wp2_with ((go_at_call 94; (try clear Gb); refine (HI.out A57 c57 _ (HT.out.of Ga) (by rw [← H2.out]; exact Ga.old (by decide) hs57)).mono ?_; rintro e Wk7 ⟨O61, c61, rfl, Gb⟩; replace Ga := Ga.trans Gb; simp only [Gc, Gd] at Ga)); refine Gi Gb ?_
    refine pn_g rfl ?_; go_wp2_with (refine Gq 63 rfl [_] (Kj (Gw rfl)) rfl uz44 Gv rfl (by (simp [Value.cells, Dig.size]; done)) (by decide) (by decide) ?_; (try clear Gb); intro g63 W63 Gb; replace Ga := Ga.tr1 Gb; simp only [List.flatMap_cons, List.flatMap_nil, List.append_nil, Value.cells, List.toList_toArray] at Ga); refine Gi Gb ?_
    refine pn_e rfl ?_; go_wp2_with (refine GY (d := some 64) rfl rfl Ga rfl (by rfl) (by rfl) uz44 Gv rfl (by decide) (by decide) 1 rfl (by rfl) (Ga.sl 0 rfl) (GX) (by omega) ?_; clear Ga; intro A64 c64 W64 Ga; simp only [Ge, Gf, List.nil_append, Nat.zero_add] at Ga)
    refine pn_g rfl ?_; go_wp2_with fail; refine Gh ?_
    refine pn_nil ?_
    go_wp2_with fail
    go_ret
    refine ⟨_, _, rfl, ?_⟩
    rw [HB.out] at Ga
    (exact Ga.pick [1] (by decide))
   ·go_wp2_with (refine Gq 63 rfl [_] (Kj (Gw rfl)) rfl uz44 Gv rfl (by (simp [Value.cells, Dig.size]; done)) (by decide) (by decide) ?_; (try clear Gb); intro g63 W63 Gb; replace Ga := Ga.tr1 Gb; simp only [List.flatMap_cons, List.flatMap_nil, List.append_nil, Value.cells, List.toList_toArray] at Ga); refine Gi Gb ?_
    refine pn_g rfl ?_; go_wp2_with ((go_at_call 94; (try clear Gb); refine (HI.out A57 c57 _ (HT.out.of Ga) (by rw [← H2.out]; exact Ga.old (by decide) hs57)).mono ?_; rintro e Wk7 ⟨O61, c61, rfl, Gb⟩; replace Ga := Ga.trans Gb; simp only [Gc, Gd] at Ga)); refine Gi Gb ?_
    refine pn_e rfl ?_; go_wp2_with (refine GY (d := some 64) rfl rfl Ga rfl (by rfl) (by rfl) uz44 Gv rfl (by decide) (by decide) 0 rfl (by rfl) (Ga.sl 1 rfl) (GX) (by omega) ?_; clear Ga; intro A64 c64 W64 Ga; simp only [Ge, Gf, List.nil_append, Nat.zero_add] at Ga)
    refine pn_g rfl ?_; go_wp2_with fail; refine Gh ?_
    refine pn_nil ?_
    go_wp2_with fail
    go_ret
    refine ⟨_, _, rfl, ?_⟩
    rw [HB.out] at Ga
    (exact Ga.pick [0] (by decide))
theorem gProof_any (ls : List Dig) (A : Option Addr) (n c m : Nat) (w : World) (hT : Tb w) (hx : SlR w A n c 32 (GP ls)) (h1 : 1 ≤ m) (hmn : m ≤ n) (hn : n ≤ 256) :
  Calls Tryz.prog 51 #[.slice A n c, .int .i64 (m : Int)] w fun e w' => ∃ O oc, e = .returned (.tuple #[.slice O (plN n m true) oc, .nilIface]) ∧ St w w' [.row O (plN n m true) oc 32 32 (GP (gpN ls m true))] := by
 have Ga := St.refl w
 have HP := Gg (gproof_any n ls A c m true w hT hx h1 hmn hn)
 have t1 : ¬ (256 : Int) < (n : Int) := by omega
 have t2 : ¬ (m : Int) < 1 := by omega
 have t3 : ¬ (n : Int) < (m : Int) := by omega
 go_enter Tryz.func51, Tryz.ntmps51
 go_wp2_with ((go_at_call 94; refine HP.out.mono ?_; rintro e W21 ⟨O, oc, rfl, Gb⟩; replace Ga := Gb))
 exact bp_two rfl rfl rfl rfl ⟨_, _, rfl, Ga⟩
end
section
open Go.RowKit
def N9 (old : Dig) (A : Option Addr) (n c : Nat) : Array Value := old.arr.push (.slice A n c)
theorem fArr_size (old : Dig) (A : Option Addr) (n c : Nat) : (N9 old A n c).size = 33 := by simp [N9, Dig.size]
theorem fArr_at (old : Dig) (A : Option Addr) (n c : Nat) : (N9 old A n c)[32]? = some (.slice A n c) := by
 have h := Dig.size old
 rw [N9, Array.getElem?_push, if_pos h.symm]
theorem fArr_set (old : Dig) (A B : Option Addr) (n c m d : Nat) : (N9 old A n c).setIfInBounds 32 (.slice B m d) = N9 old B m d := by
 have h := Dig.size old
 apply Array.ext_getElem?
 intro i
 rw [Array.getElem?_setIfInBounds, fArr_size, N9, N9, Array.getElem?_push, Array.getElem?_push, h]
 by_cases hi : 32 = i
 ·subst hi; simp
 ·rw [if_neg hi, if_neg (by omega), if_neg (by omega)]
theorem fArr_old {W : World} {g : Nat} {t : TypeId} {fr : Nat × Nat} {old : Dig} {A : Option Addr} {n c : Nat} (h : W.heap[g]? = some (.cells (N9 old A n c) t fr)) : W.rangeAt g 0 old.arr.toList := Jk h fun j v hv => by
 have hj : j < 32 := by
  have := (List.getElem?_eq_some_iff.1 hv).1
  rw [Array.length_toList, Dig.size] at this
  exact this
 have h := Dig.size old
 rw [Nat.zero_add, N9, Array.getElem?_push, if_neg (by omega)]
 simpa using hv
theorem el_grow_folder : GW Tryz.prog 261 (.agg (N9 GM none 0 0)) 33 56 := by unfold GW; kernel_rfl
theorem JS : GW Tryz.prog 44 (.slice none 0 0) 1 24 := by unfold GW; kernel_rfl
theorem NW : GW Tryz.prog 36 (.nilIface) 1 16 := by unfold GW; kernel_rfl
section
variable {ops : Array Oper} {rest : List Oper} {o : Oper} {a : Act} {W : World} {Q : Exit → Act → World → Prop} {d : Option Tmp}
theorem L_buildF (hd : o.dst = d) (hw : Region.wanted o (yielded ops a.tmps) = true) {x y : Operand} (ho : o.op = .build 261 #[(0, x), (1, y)]) {old : Dig} (hx : a.eval x = .agg old.arr) {A : Option Addr} {n c : Nat} (hy : a.eval y = .slice A n c)
  (h : wpList Tryz.prog ops Q rest (a.put d (.agg (N9 old A n c))) W) : wpList Tryz.prog ops Q (o :: rest) a W := by
 refine Js hd hw ?_ h
 unfold execOp
 simp only [ho]
 have hz := el_grow_folder.run_zero W
 have h1 := Gv.run_size W
 have h2 := JS.run_size W
 have h3 : (N9 GM none 0 0).size = 33 := fArr_size _ _ _ _
 have h4 : Array.foldl (fun (cs : Array Value) (x : Value × Nat) => cs.setIfInBounds x.snd x.fst) (N9 GM none 0 0) old.arr.zipIdx 0 32 = N9 old none 0 0 := by
  have h := Dig.size old
  have h' := Dig.size GM
  have e1 : 32 = old.arr.zipIdx.size := by simp [h]
  have h5 := P2 old.arr.toList 0 0 (N9 GM none 0 0) (by simp [h, h3])
  simp only [Nat.zero_add] at h5
  rw [e1, ← Array.foldl_toList, Array.toList_zipIdx, h5]
  unfold Jg N9
  apply Array.ext'
  simp [h, h']
 simp [Instr.build, hz, run_underlying Tryz.underlying261, h1, h2, hx, hy, Value.cells, Instr.fill, h3, Dig.size, h4, fArr_size, fArr_set]
end
section
variable {P : Program} {a : Act} {W : World}
theorem NX {fn : Func} {R : Ending → World → Prop} {p q : Tmp} {ty ty' : TypeId} (hr : fn.results = #[.cell p ty, .cell q ty']) (hd : a.defers = []) {g g' : Nat} (hp : a.tmps.toList[p]? = some (.pointer (some ⟨g, 0, none⟩))) (hq : a.tmps.toList[q]? = some (.pointer (some ⟨g', 0, none⟩))) {t t' : TypeId} {cs cs' : Array Value} {fr fr' : Nat × Nat} (hg : W.heap[g]? = some (.cells cs t fr)) (hg' : W.heap[g']? = some (.cells cs' t' fr'))
  {td td' : TypeDesc} (hu : P.underlying ty = some td) (hrow : td.isRow = true) (hu' : P.underlying ty' = some td') (hrow' : td'.isRow = true) {z z' : Value} {s s' b b' : Nat} (he : GW P ty z s b) (hs : cs.size = s) (he' : GW P ty' z' s' b') (hs' : cs'.size = s') (hR : R (.returned (.tuple #[.agg cs, .agg cs'])) W) : bodyPost P fn R .ret a W := by
 have hp' : a.tmps[p]?.getD undef = .pointer (some ⟨g, 0, none⟩) := by
  have : a.tmps[p]? = some (.pointer (some ⟨g, 0, none⟩)) := by simpa using hp
  simp [this]
 have hq' : a.tmps[q]?.getD undef = .pointer (some ⟨g', 0, none⟩) := by
  have : a.tmps[q]? = some (.pointer (some ⟨g', 0, none⟩)) := by simpa using hq
  simp [this]
 refine bodyPost_ret ?_ hd hR
 simp [results, hr, hp', hq', asAddr, run_loadVar_row W g t ty cs fr td hg hu (by cases td <;> simp_all [TypeDesc.isRow]) (by rw [he.size, hs]), run_loadVar_row W g' t' ty' cs' fr' td' hg' hu' (by cases td' <;> simp_all [TypeDesc.isRow]) (by rw [he'.size, hs'])]
end
theorem St.keep3 {w0 W : World} {L : List Res} {a x y z : Res} (h : St w0 W (a :: x :: y :: z :: L)) : St w0 W (a :: L) := h.drop ((((List.Sublist.refl L).cons z).cons y).cons x |>.cons_cons a)
theorem St.keep2 {w0 W : World} {L : List Res} {a x y : Res} (h : St w0 W (a :: x :: y :: L)) : St w0 W (a :: L) := h.drop (((List.Sublist.refl L).cons y).cons x |>.cons_cons a)
end
section
open Go.RowKit
section
variable {P : Program} {ops : Array Oper} {Q : Act → World → Prop} {md : Region.Mode}
inductive Pm where
 | nil
 | one (i k : Nat) (r : Pm)
 | two (i ki : Nat) (r : Pm) (j kj : Nat) (s : Pm)
def Pm.len : Pm → Nat
 | .nil => 0
 | .one _ _ r => r.len + 1
 | .two _ _ r _ _ _ => r.len + 1
def Pm.f : Pm → Nat → Bool
 | .nil, _ => false
 | .one i k r, x => (i == x && k != 1) || r.f x
 | .two i ki r j kj s, x => (i == x && ki == 2) || (j == x && kj == 2) || r.f x || s.f x
def Mw (P : Program) (ops : Array Oper) (Q : Act → World → Prop) : Pm → Act → World → Prop
 | .nil, a, w => Q a w
 | .one i k r, a, w => ∃ o, ops[i]? = some o ∧ (k = 0 → KT P (execOp a.eval o)) ∧ (k = 3 → Pb P (execOp a.eval o)) ∧
   wpList P ops (Nm fun a' w' => (k = 2 → Below w.heap.size w w') ∧ Mw P ops Q r a' w') [o] a w
 | .two i ki r j kj s, a, w => (∃ o, ops[i]? = some o ∧ wpList P ops (Nm fun a' w' => (ki = 2 → Below w.heap.size w w') ∧ Mw P ops Q r a' w') [o] a w) ∧
   (∃ o, ops[j]? = some o ∧ wpList P ops (Nm fun a' w' => (kj = 2 → Below w.heap.size w w') ∧ Mw P ops Q s a' w') [o] a w)
def planM (md : Region.Mode) (ops : Array Oper) (F : Nat → Bool) : Pm → Array Bool → Bool
 | .nil, listed => (Region.ready md ops listed).isEmpty
 | .one i k r, listed =>
  (if k == 0 then
   (Region.ready md ops listed).contains i && (match ops[i]? with
    | none => false
    | some oi => ((Kh md ops i).all fun j => !listed.getD j true && match ops[j]? with
      | some oj => oj.after.any (fun e => Region.binds md e && (e.on == i || (Kh md ops i).contains e.on))
      | none => true) && (List.range ops.size).all fun j => j == i || listed.getD j true || match ops[j]? with
     | some oj => (Kh md ops i).contains j || (oi.apart ops oj && F j)
     | none => true)
  else if k == 3 then
   (Region.ready md ops listed).contains i && (match ops[i]? with
    | none => false
    | some oi => ((Kh md ops i).all fun j => !listed.getD j true && match ops[j]? with
      | some oj => oj.after.any (fun e => Region.binds md e && (e.on == i || (Kh md ops i).contains e.on))
      | none => true) && (List.range ops.size).all fun j => j == i || listed.getD j true || match ops[j]? with
     | some oj => (Kh md ops i).contains j || oi.apart ops oj
     | none => true)
  else Region.ready md ops listed == [i] && (k == 1 || k == 2) && (k == 2 || !F i)) && planM md ops F r (listed.setIfInBounds i true)
 | .two i ki r j kj s, listed => Region.ready md ops listed == [i, j] && (ki == 2 || !F i) && (kj == 2 || !F j) && r.len == s.len && planM md ops F r (listed.setIfInBounds i true) && planM md ops F s (listed.setIfInBounds j true)
theorem JJ {F : Nat → Bool} (hs : Region.noSelect ops = true) : ∀ (p : Pm) (listed : Array Bool) (a : Act) (w : World), planM md ops F p listed = true → Mw P ops Q p a w → N5 P md ops F Q p.len listed a w
 | .nil, listed, a, w, hp, h => ⟨by simpa [planM] using hp, h⟩
 | .two i ki r j kj s, listed, a, w, hp, h => by
  obtain ⟨⟨oi, hoi, hli⟩, oj, hoj, hlj⟩ := h
  simp only [planM, Bool.and_eq_true, beq_iff_eq] at hp
  obtain ⟨⟨⟨⟨⟨hr, hki⟩, hkj⟩, hlen⟩, h1⟩, h2⟩ := hp
  refine ⟨fun h0 => absurd h0 (by simp [hr]), fun x hx => ?_⟩
  rw [hr] at hx
  rcases List.mem_cons.1 hx with rfl | hx
  ·refine wpOp_mono (fun a' w' hh => ⟨fun hF => ?_, JJ hs r _ _ _ h1 hh.2⟩) (Pi hoi hli)
   refine hh.1 ?_
   simpa [hF] using hki
  ·obtain rfl : x = j := by simpa using hx
   refine wpOp_mono (fun a' w' hh => ⟨fun hF => ?_, ?_⟩) (Pi hoj hlj)
   ·refine hh.1 ?_
    simpa [hF] using hkj
   ·have := JJ hs s _ _ _ h2 hh.2
    rw [← hlen] at this
    exact this
 | .one i k r, listed, a, w, hp, h => by
  obtain ⟨o, ho, hcalm, hpure, hl⟩ := h
  unfold planM at hp
  simp only [Bool.and_eq_true] at hp
  obtain ⟨h1, h2⟩ := hp
  unfold wpList at hl
  by_cases hk3 : k = 3
  ·subst hk3
   have hk' : ((3 : Nat) == 0) = false := rfl
   simp only [hk', Bool.false_eq_true, if_false, beq_self_eq_true, if_true, Bool.and_eq_true, ho] at h1
   obtain ⟨hr, hwt, hf⟩ := h1
   have hr' : i ∈ Region.ready md ops listed := by simpa using hr
   have hw1 : ∀ j ∈ Kh md ops i, listed.getD j true = false := fun j hj => by
    have h3 := List.all_eq_true.1 hwt j hj
    simp only [Bool.and_eq_true, Bool.not_eq_true'] at h3
    exact h3.1
   have hw2 : ∀ j oj, ops[j]? = some oj → j ∈ Kh md ops i → ∃ e ∈ oj.after, Region.binds md e = true ∧ (e.on = i ∨ e.on ∈ Kh md ops i) := fun j oj hoj hj => by
    have h3 := List.all_eq_true.1 hwt j hj
    simp only [Bool.and_eq_true, hoj] at h3
    obtain ⟨e, he, hb⟩ := Array.any_eq_true'.1 h3.2
    simp only [Bool.and_eq_true, Bool.or_eq_true, beq_iff_eq, List.contains_iff_mem] at hb
    exact ⟨e, he, hb.1, hb.2⟩
   have hfree : ∀ j oj, ops[j]? = some oj → j ≠ i → listed.getD j true = false → j ∉ Kh md ops i → o.apart ops oj = true := by
    intro j oj hj hne hun hno
    have h3 := List.all_eq_true.1 hf j (List.mem_range.2 (Array.getElem?_eq_some_iff.1 hj).1)
    simp only [hj, Bool.or_eq_true, beq_iff_eq, hne, false_or, hun, Bool.false_eq_true, List.contains_iff_mem] at h3
    rcases h3 with h3 | h3
    ·exact absurd h3 hno
    ·exact h3
   by_cases hw : Region.wanted o (yielded ops a.tmps) = true
   ·rw [if_pos hw] at hl
    rcases hl with hl | ⟨_, hlets⟩
    case inr => exact absurd hlets JR
    unfold Oper.wp at hl
    cases hrun : (execOp a.eval o).run P w with
    | ok n w' =>
     obtain ⟨⟨v, rfl⟩, rfl, Ga⟩ := hpure rfl w n w' hrun
     rw [hrun] at hl
     simp only [Oper.upon, wpList] at hl
     exact NR ho (Region.noSelect_spec hs) hw2 r.len listed a w' hw1 hfree hr' (.inl ⟨hw, Ga⟩)
      (JJ hs r _ _ _ h2 hl.2)
    | halt x w' =>
     rw [hrun] at hl
     cases x <;> simp only [Oper.upon] at hl
     exact (hl : False).elim
   ·rw [if_neg hw] at hl
    exact NR ho (Region.noSelect_spec hs) hw2 r.len listed a w hw1 hfree hr' (.inr ⟨by simpa using hw, rfl⟩)
      (JJ hs r _ _ _ h2 hl.2)
  by_cases hk : k = 0
  ·subst hk
   simp only [beq_self_eq_true, if_true, Bool.and_eq_true, ho] at h1
   obtain ⟨hr, hwt, hf⟩ := h1
   have hr' : i ∈ Region.ready md ops listed := by simpa using hr
   have hw1 : ∀ j ∈ Kh md ops i, listed.getD j true = false := fun j hj => by
    have h3 := List.all_eq_true.1 hwt j hj
    simp only [Bool.and_eq_true, Bool.not_eq_true'] at h3
    exact h3.1
   have hw2 : ∀ j oj, ops[j]? = some oj → j ∈ Kh md ops i → ∃ e ∈ oj.after, Region.binds md e = true ∧ (e.on = i ∨ e.on ∈ Kh md ops i) := fun j oj hoj hj => by
    have h3 := List.all_eq_true.1 hwt j hj
    simp only [Bool.and_eq_true, hoj] at h3
    obtain ⟨e, he, hb⟩ := Array.any_eq_true'.1 h3.2
    simp only [Bool.and_eq_true, Bool.or_eq_true, beq_iff_eq, List.contains_iff_mem] at hb
    exact ⟨e, he, hb.1, hb.2⟩
   have hfree : ∀ j oj, ops[j]? = some oj → j ≠ i → listed.getD j true = false → j ∉ Kh md ops i → o.apart ops oj = true ∧ F j = true := by
    intro j oj hj hne hun hno
    have h3 := List.all_eq_true.1 hf j (List.mem_range.2 (Array.getElem?_eq_some_iff.1 hj).1)
    simp only [hj, Bool.or_eq_true, beq_iff_eq, hne, false_or, hun, Bool.false_eq_true, Bool.and_eq_true, List.contains_iff_mem] at h3
    rcases h3 with h3 | h3
    ·exact absurd h3 hno
    ·exact h3
   by_cases hw : Region.wanted o (yielded ops a.tmps) = true
   ·rw [if_pos hw] at hl
    rcases hl with hl | ⟨_, hlets⟩
    case inr => exact absurd hlets JR
    unfold Oper.wp at hl
    cases hrun : (execOp a.eval o).run P w with
    | ok n w' =>
     obtain ⟨⟨v, rfl⟩, rfl, Ga⟩ := hcalm rfl w n w' hrun
     rw [hrun] at hl
     simp only [Oper.upon, wpList] at hl
     exact Mg (wb := w') ho (Region.noSelect_spec hs) hw2 r.len listed a w' (Below.refl _ _) hw1 hfree hr' (.inl ⟨hw, Ga⟩)
      (JJ hs r _ _ _ h2 hl.2)
    | halt x w' =>
     rw [hrun] at hl
     cases x <;> simp only [Oper.upon] at hl
     exact (hl : False).elim
   ·rw [if_neg hw] at hl
    exact Mg (wb := w) ho (Region.noSelect_spec hs) hw2 r.len listed a w (Below.refl _ _) hw1 hfree hr' (.inr ⟨by simpa using hw, rfl⟩)
      (JJ hs r _ _ _ h2 hl.2)
  ·have hk' : (k == 0) = false := by simpa using hk
   have hk3' : (k == 3) = false := by simpa using hk3
   simp only [hk', hk3', Bool.false_eq_true, if_false, Bool.and_eq_true] at h1
   obtain ⟨⟨hr, _⟩, hF⟩ := h1
   have hr' : Region.ready md ops listed = [i] := by simpa using hr
   refine ⟨fun h0 => absurd h0 (by simp [hr']), fun j hj => ?_⟩
   obtain rfl : j = i := by simpa [hr'] using hj
   have hgr : ∀ (w' : World), (k = 2 → Below w.heap.size w w') → F j = true → Below w.heap.size w w' := fun w' hh hFj => by
    refine hh ?_
    simp only [Bool.or_eq_true, beq_iff_eq, hFj, Bool.not_true, Bool.false_eq_true, or_false] at hF
    exact hF
   unfold Go.wpOp
   simp only [ho]
   split
   ·rename_i hw
    rw [if_pos hw] at hl
    rcases hl with hl | ⟨_, hlets⟩
    case inr => exact absurd hlets JR
    refine .inl ?_
    unfold Oper.wp at *
    generalize (execOp a.eval o).run P w = rr at *
    cases rr with
    | ok n w' =>
     cases n <;> simp only [Oper.upon] at hl ⊢
     case value u => exact ⟨hgr _ hl.1, JJ hs r _ _ _ h2 hl.2⟩
     case skip => exact ⟨hgr _ hl.1, JJ hs r _ _ _ h2 hl.2⟩
     case defer d => exact ⟨hgr _ hl.1, JJ hs r _ _ _ h2 hl.2⟩
     case enter f args =>
      refine Calls.mono hl fun e w'' he => ?_
      cases e with
      | returned u => exact ⟨hgr _ he.1, JJ hs r _ _ _ h2 he.2⟩
      | panicked c => exact (he : False).elim
      | outgrown => exact absurd he JR
     case row row args => exact Rows.mono hl fun u w'' he => ⟨hgr _ he.1, JJ hs r _ _ _ h2 he.2⟩
    | halt x w' =>
     cases x <;> simp only [Oper.upon] at hl ⊢
     exact (hl : False).elim
   ·rename_i hw
    rw [if_neg hw] at hl
    exact ⟨hgr _ hl.1, JJ hs r _ _ _ h2 hl.2⟩
def planMOK (ops : Array Oper) (p : Pm) : Bool :=
 Region.noSelect ops && planM .any ops p.f p (Array.replicate ops.size false) && p.len == ops.size
theorem Ht {id : Nat} {l : List Oper} {Q : Exit → Act → World → Prop} {a : Act} {w : World} (p : Pm) (hm : P.follows .mixedOrders = true) (hp : planMOK l.toArray p = true)
  (h : Mw P l.toArray (fun a w => Q .normal a w) p a w.drew) : (Code.region id l.toArray true).wp P Q a w := by
 simp only [planMOK, Bool.and_eq_true, beq_iff_eq] at hp
 obtain ⟨⟨hs, hp⟩, hlen⟩ := hp
 refine Code.wp_mono (Q := Nm fun a w => Q .normal a w) (fun e a w q => ?_) (wp_region_any hm ?_)
 ·cases e <;> first | exact q | exact (q : False).elim
 ·have := JJ hs p (Array.replicate l.toArray.size false) a w.drew hp h
  rw [hlen] at this
  exact Pv _ _ _ _ this
theorem H5 {a : Act} {w : World} (h : Q a w) : Mw P ops Q .nil a w := h
theorem Kl {i : Nat} {r : Pm} {o : Oper} {a : Act} {w : World} (ho : ops[i]? = some o) (hc : calmK a.eval o.op = true)
  (h : wpList P ops (Exit.then (Mw P ops Q r) fun _ _ _ => False) [o] a w) : Mw P ops Q (.one i 0 r) a w :=
 ⟨o, ho, fun _ => calmV_k hc, fun e => absurd e (by decide), by
  have : (fun (a' : Act) (w' : World) => ((0 : Nat) = 2 → Below w.heap.size w w') ∧ Mw P ops Q r a' w') = Mw P ops Q r := by
   funext a' w'; simp
  rw [this]; exact h⟩
theorem pm_qv {i : Nat} {r : Pm} {o : Oper} {a : Act} {w : World} (ho : ops[i]? = some o) (hc : KT P (execOp a.eval o))
  (h : wpList P ops (Exit.then (Mw P ops Q r) fun _ _ _ => False) [o] a w) : Mw P ops Q (.one i 0 r) a w :=
 ⟨o, ho, fun _ => hc, fun e => absurd e (by decide), by
  have : (fun (a' : Act) (w' : World) => ((0 : Nat) = 2 → Below w.heap.size w w') ∧ Mw P ops Q r a' w') = Mw P ops Q r := by
   funext a' w'; simp
  rw [this]; exact h⟩
theorem Pc {i : Nat} {r : Pm} {o : Oper} {a : Act} {w : World} (ho : ops[i]? = some o) {s : TypeId} {x : Operand} {f : Nat} (hop : o.op = .fieldAddr s x f) (hf : fieldB P s f = true)
  (h : wpList P ops (Exit.then (Mw P ops Q r) fun _ _ _ => False) [o] a w) : Mw P ops Q (.one i 0 r) a w := by
 refine pm_qv ho ?_ h
 unfold execOp
 simp only [hop]
 refine KT.of (G2.fieldAt_slot _ _ _ (fun fs y hu hy => ?_))
 simp only [fieldB, hu, hy] at hf
 exact hf
theorem Jj {i : Nat} {r : Pm} {o : Oper} {a : Act} {w : World} (ho : ops[i]? = some o) (hc : pureK o.op = true)
  (h : wpList P ops (Exit.then (Mw P ops Q r) fun _ _ _ => False) [o] a w) : Mw P ops Q (.one i 3 r) a w :=
 ⟨o, ho, fun e => absurd e (by decide), fun _ => pureV_k hc, by
  have : (fun (a' : Act) (w' : World) => ((3 : Nat) = 2 → Below w.heap.size w w') ∧ Mw P ops Q r a' w') = Mw P ops Q r := by
   funext a' w'; simp
  rw [this]; exact h⟩
theorem JA {i : Nat} {r : Pm} {o : Oper} {a : Act} {w : World} (ho : ops[i]? = some o)
  (h : wpList P ops (Exit.then (Mw P ops Q r) fun _ _ _ => False) [o] a w) : Mw P ops Q (.one i 1 r) a w :=
 ⟨o, ho, fun e => absurd e (by decide), fun e => absurd e (by decide), by
  have : (fun (a' : Act) (w' : World) => ((1 : Nat) = 2 → Below w.heap.size w w') ∧ Mw P ops Q r a' w') = Mw P ops Q r := by
   funext a' w'; simp
  rw [this]; exact h⟩
theorem G6 {i : Nat} {r : Pm} {o : Oper} {a : Act} {w : World} (ho : ops[i]? = some o)
  (h : wpList P ops (Exit.then (fun a' w' => Below w.heap.size w w' ∧ Mw P ops Q r a' w') fun _ _ _ => False) [o] a w) : Mw P ops Q (.one i 2 r) a w :=
 ⟨o, ho, fun e => absurd e (by decide), fun e => absurd e (by decide), by
  have : (fun (a' : Act) (w' : World) => ((2 : Nat) = 2 → Below w.heap.size w w') ∧ Mw P ops Q r a' w') = fun a' w' => Below w.heap.size w w' ∧ Mw P ops Q r a' w' := by
   funext a' w'; simp
  rw [this]; exact h⟩
theorem JF {i j ki kj : Nat} {r s : Pm} {o u : Oper} {a : Act} {w : World} (ho : ops[i]? = some o) (hu : ops[j]? = some u)
  (h1 : wpList P ops (Exit.then (fun a' w' => (ki = 2 → Below w.heap.size w w') ∧ Mw P ops Q r a' w') fun _ _ _ => False) [o] a w)
  (h2 : wpList P ops (Exit.then (fun a' w' => (kj = 2 → Below w.heap.size w w') ∧ Mw P ops Q s a' w') fun _ _ _ => False) [u] a w) : Mw P ops Q (.two i ki r j kj s) a w :=
 ⟨⟨o, ho, h1⟩, u, hu, h2⟩
end
end
section
open Go.RowKit
theorem path_end (q : List Dig) (d : Dig) (r : Nat) (h : q.length = r) : ((GP (q ++ [d])).drop (r * 32)).take 32 = d.arr.toList := by
 rw [Kt, JH, ← h, List.drop_left' (by rw [G8]), List.take_of_length_le (by rw [Array.length_toList, Dig.size]; exact Nat.le_refl _)]
theorem take_any (old d : Dig) (q : List Dig) (A : Option Addr) (n c g : Nat) (w0 w : World) (L : List Res) (Ga : St w0 w (.blk g 261 (N9 old A n c) :: L)) (hx : SlR w0 A n c 32 (GP (q ++ [d]))) :
  Calls Tryz.prog 187 #[.pointer (some ⟨g, 0, none⟩)] w fun e w' => e = .returned d.v ∧ ∃ A' c', St w0 w' (.blk g 261 (N9 old A' (n - 1) c') :: L) ∧ SlR w0 A' (n - 1) c' 32 (GP q) := by
 have hn : n = q.length + 1 := by have := hx.1; rw [G8, List.length_append] at this; simp at this; omega
 obtain ⟨r, hr⟩ : ∃ r, q.length = r := ⟨_, rfl⟩
 rw [hr] at hn
 subst hn
 have hcap := hx.2.1
 have hmax := hx.2.2.1
 simp only [maxLen] at hmax
 have HF := Gg (fArr_at old A (r + 1) c)
 have HX := Gg (show ((GP (q ++ [d])).drop ((r : Int).toNat * 32)).take 32 = d.arr.toList from path_end q d r hr)
 have HC := Gg (show ((GP (q ++ [d])).drop (0 * 32)).take ((r - 0) * 32) = GP q by rw [J5, List.drop_zero, Nat.sub_zero, List.take_left' hr])
 have h0 : ((r : Int) + 1 == 0) = false := by rw [beq_eq_false_iff_ne]; omega
 rw [show r + 1 - 1 = r by omega]
 clear hr
 generalize GP (q ++ [d]) = lx at *
 generalize GP q = lq at *
 go_enter Tryz.func187, Tryz.ntmps187
 go_upto_region 1 with (refine Gk 2 rfl Gv ?_; (try clear Gb); intro g2 W2 Gb; replace Ga := Ga.tr1 Gb)
 go_upto_region 3 with (refine Gj 7 rfl (by rfl) uz44 rfl (Gy (Ga.get 1 rfl) HF.out) ?_)
 (try clear Gb)
 refine GO [(0, 0), (1, 0), (2, 0), (3, 0), (4, 0), (5, 0), (6, 0), (7, 0), (8, 0), (9, 0), (10, 0), (11, 0), (12, 2), (13, 1)] (by kernel_rfl) (by kernel_rfl) ?_
 replace Ga := Ga.drew
 refine GG rfl rfl ?_; go_wp2_with fail
 refine GG rfl rfl ?_; go_wp2_with fail
 refine H8 rfl rfl (by kernel_rfl) ?_; go_wp2_with fail
 refine GG rfl rfl ?_; go_wp2_with (refine Gj 14 rfl (by rfl) uz44 rfl (Gy (Ga.get 1 rfl) HF.out) ?_)
 refine GG rfl rfl ?_; go_wp2_with fail
 refine GG rfl rfl ?_; go_wp2_with fail
 refine H8 rfl rfl (by kernel_rfl) ?_; go_wp2_with fail
 refine GG rfl rfl ?_; go_wp2_with (refine Gj 18 rfl (by rfl) uz44 rfl (Gy (Ga.get 1 rfl) HF.out) ?_)
 refine GG rfl rfl ?_; go_wp2_with (fail)
 refine GG rfl rfl ?_; go_wp2_with fail
 refine GG rfl rfl ?_; go_wp2_with (refine Gp 21 rfl (by rfl) (by rfl) uz44 Gv (Ga.old (by decide) hx) (by omega) (by omega) ?_; intro o21 p21 ha21 hr21; ((subst ha21)))
 refine GG rfl rfl ?_; go_wp2_with (refine Gn 22 rfl (by rfl) uz32 rfl Gv (cs := d.arr) (by rw [← HX.out]; exact hr21) (Dig.size _) ?_)
 refine GA rfl ?_; go_wp2_with (refine Gk 3 rfl Gv ?_; (try clear Gb); intro g3 W3 Gb; replace Ga := Ga.tr1 Gb); refine Gi Gb ?_
 refine J6 rfl ?_; go_wp2_with ((refine Gr 3 22 Ga rfl (by rfl) (Gw rfl) (Dig.one _) Gv (Dig.size _) 0 rfl (by rfl) ?_; clear Ga; intro WS13 Ga; simp only [Ge, Gf] at Ga))
 refine G5 ?_
 go_wp2_with fail
 (try clear Gb)
 refine GO [(0, 0), (1, 0), (2, 0), (3, 0), (4, 0), (5, 2), (6, 2), (7, 2), (8, 2), (9, 2), (10, 2), (11, 2), (12, 2), (13, 2), (14, 1)] (by kernel_rfl) (by kernel_rfl) ?_
 replace Ga := Ga.drew
 refine GG rfl rfl ?_; go_wp2_with fail
 refine GG rfl rfl ?_; go_wp2_with fail
 refine GG rfl rfl ?_; go_wp2_with fail
 refine H8 rfl rfl (by kernel_rfl) ?_; go_wp2_with fail
 refine GG rfl rfl ?_; go_wp2_with (refine Gj 27 rfl (by rfl) uz44 rfl (Gy (Ga.get 2 rfl) HF.out) ?_)
 refine GA rfl ?_; go_wp2_with fail; refine Gh ?_
 refine GA rfl ?_; go_wp2_with fail; refine Gh ?_
 refine GA rfl ?_; go_wp2_with fail; refine Gh ?_
 refine GA rfl ?_; go_wp2_with (refine Gj 31 rfl (by rfl) uz44 rfl (Gy (Ga.get 2 rfl) HF.out) ?_); refine Gh ?_
 refine GA rfl ?_; go_wp2_with (fail); refine Gh ?_
 refine GA rfl ?_; go_wp2_with fail; refine Gh ?_
 refine GA rfl ?_; go_wp2_with ((refine Ku (d := some 34) rfl rfl rfl (by rfl) uz44 Gv (by decide) hx 0 r _ (Or.inl ⟨rfl, rfl⟩) (Or.inr ⟨_, _, rfl, by (exact Gw rfl)⟩) (Or.inl ⟨rfl, rfl⟩) (by omega) (by omega) (by omega) (by omega) ?_; intro A34 c34 hs34)); refine Gh ?_
 refine GA rfl ?_; go_wp2_with fail; refine Gh ?_
 refine GA rfl ?_; go_wp2_with fail; refine Gh ?_
 refine J6 rfl ?_; go_wp2_with (refine GB (.store 44 (.tmp 36) (.tmp 34)) rfl ?_; refine Jh rfl rfl Ga rfl (by rfl) (Gw rfl) rfl JS 2 rfl (by rw [fArr_size]; decide) ?_; clear Ga; intro WS14 Ga; simp only [Ge, Gf, fArr_set] at Ga)
 refine G5 ?_
 go_wp2_with (first | (refine Gl 37 rfl (by rfl) uz32 rfl Gv (Ga.get 0 rfl) (Dig.size _) ?_) | ((refine Gr 2 37 Ga rfl (by rfl) (Gw rfl) (Dig.one _) Gv (Dig.size _) 1 rfl (by rfl) ?_; clear Ga; intro WS1 Ga; simp only [Ge, Gf] at Ga)))
 refine Hw rfl rfl rfl (Ga.get 1 rfl) uz32 rfl Gv (Dig.size _) ?_
 exact ⟨rfl, A34, c34, Ga.tailN 2, by rw [← HC.out]; exact hs34⟩
theorem gfold_any (old : Dig) (g : Nat) (w0 : World) (hT : Tb w0) (r : List Dig) : ∀ (n m : Nat) (own : Bool) (p : List Dig) (A : Option Addr) (k c : Nat) (w : World) (L : List Res), St w0 w (.blk g 261 (N9 old A k c) :: L) → SlR w0 A k c 32 (GP (r ++ p)) → p.length = plN n m own → 1 ≤ m → m ≤ n → n ≤ 256 →
  Calls Tryz.prog 181 #[.pointer (some ⟨g, 0, none⟩), .int .i64 (m : Int), .int .i64 (n : Int), .bool own] w fun e w' => e = .returned (.tuple #[(grN n m own old p).1.v, (grN n m own old p).2.v]) ∧ ∃ A' c', St w0 w' (.blk g 261 (N9 old A' r.length c') :: L) ∧ SlR w0 A' r.length c' 32 (GP r) := by
 intro n
 induction n using Nat.strongRecOn with
 | ind n ih =>
 intro m own p A k c w L Ga hx hp hm1 hmn hn
 have HT := Gg hT
 have hk : k = r.length + p.length := by have := hx.1; rw [G8, List.length_append] at this; omega
 by_cases h : m = n
 ·subst h
  rw [PP] at hp
  cases own with
  | true =>
   obtain rfl : p = [] := List.eq_nil_of_length_eq_zero (by simpa using hp)
   rw [List.append_nil] at hx
   obtain rfl : k = r.length := by simpa using hk
   rw [grN_all]
   clear ih hp hk
   generalize GP r = lr at *
   generalize r.length = k at *
   go_enter Tryz.func181, Tryz.ntmps181
   go_upto_region 1 with (first | (refine Gk 8 rfl Gv ?_; (try clear Gb); intro g8 W8 Gb; replace Ga := Ga.tr1 Gb) | (refine Gk 9 rfl Gv ?_; (try clear Gb); intro g9 W9 Gb; replace Ga := Ga.tr1 Gb))
   go_upto_region 2 with (fail)
   go_upto_region 3 with (fail)
   (try clear Gb)
   refine Ht (.one 0 3 (.one 4 3 (.one 1 0 (.one 2 0 (.one 3 0 (.two 5 2 (.two 6 2 (.two 7 2 (.one 8 1 (.one 9 1 .nil)) 8 1 (.one 7 2 (.one 9 1 .nil))) 8 1 (.one 6 2 (.one 7 2 (.one 9 1 .nil)))) 8 1 (.one 5 2 (.one 6 2 (.one 7 2 (.one 9 1 .nil)))))))))) (by kernel_rfl) (by kernel_rfl) ?_
   replace Ga := Ga.drew
   refine Jj rfl rfl ?_; go_wp2_with fail
   refine Jj rfl rfl ?_; go_wp2_with fail
   refine Kl rfl rfl ?_; go_wp2_with fail
   refine Pc rfl rfl (by kernel_rfl) ?_; go_wp2_with fail
   refine Kl rfl rfl ?_; go_wp2_with ((refine Gn 20 rfl (by rfl) uz32 rfl Gv (fArr_old (Ga.get 2 rfl)) (Dig.size _) ?_))
   refine JF (ki := 2) (kj := 1) rfl rfl ?_ ?_
   ·go_wp2_with fail; refine ⟨fun _ => (Below.refl _ _), ?_⟩
    refine JF (ki := 2) (kj := 1) rfl rfl ?_ ?_
    ·go_wp2_with fail; refine ⟨fun _ => (Below.refl _ _), ?_⟩
     refine JF (ki := 2) (kj := 1) rfl rfl ?_ ?_
     ·go_wp2_with ((refine Gn 24 rfl (by rfl) uz32 rfl Gv (fArr_old (Ga.get 2 rfl)) (Dig.size _) ?_)); refine ⟨fun _ => (Below.refl _ _), ?_⟩
      refine JA rfl ?_; go_wp2_with ((refine Gr 8 20 Ga rfl (by rfl) (Gw rfl) (Dig.one _) Gv (Dig.size _) 1 rfl (by rfl) ?_; clear Ga; intro WS8 Ga; simp only [Ge, Gf] at Ga))
      refine JA rfl ?_; go_wp2_with ((refine Gr 9 24 Ga rfl (by rfl) (Gw rfl) (Dig.one _) Gv (Dig.size _) 0 rfl (by rfl) ?_; clear Ga; intro WS9 Ga; simp only [Ge, Gf] at Ga))
      refine H5 ?_
      go_wp2_with fail
      refine NX rfl rfl rfl rfl (Ga.get 1 rfl) (Ga.get 0 rfl) uz32 rfl uz32 rfl Gv (Dig.size _) Gv (Dig.size _) ?_
      exact ⟨rfl, A, c, Ga.tailN 2, hx⟩
     ·go_wp2_with ((refine Gr 8 20 Ga rfl (by rfl) (Gw rfl) (Dig.one _) Gv (Dig.size _) 1 rfl (by rfl) ?_; clear Ga; intro WS8 Ga; simp only [Ge, Gf] at Ga)); refine ⟨fun h => absurd h (by decide), ?_⟩
      refine G6 rfl ?_; go_wp2_with ((refine Gn 24 rfl (by rfl) uz32 rfl Gv (fArr_old (Ga.get 2 rfl)) (Dig.size _) ?_)); refine Gh ?_
      refine JA rfl ?_; go_wp2_with ((refine Gr 9 24 Ga rfl (by rfl) (Gw rfl) (Dig.one _) Gv (Dig.size _) 0 rfl (by rfl) ?_; clear Ga; intro WS9 Ga; simp only [Ge, Gf] at Ga))
      refine H5 ?_
      go_wp2_with fail
      refine NX rfl rfl rfl rfl (Ga.get 1 rfl) (Ga.get 0 rfl) uz32 rfl uz32 rfl Gv (Dig.size _) Gv (Dig.size _) ?_
      exact ⟨rfl, A, c, Ga.tailN 2, hx⟩
    ·go_wp2_with ((refine Gr 8 20 Ga rfl (by rfl) (Gw rfl) (Dig.one _) Gv (Dig.size _) 1 rfl (by rfl) ?_; clear Ga; intro WS8 Ga; simp only [Ge, Gf] at Ga)); refine ⟨fun h => absurd h (by decide), ?_⟩
     refine G6 rfl ?_; go_wp2_with fail; refine Gh ?_
     refine G6 rfl ?_; go_wp2_with ((refine Gn 24 rfl (by rfl) uz32 rfl Gv (fArr_old (Ga.get 2 rfl)) (Dig.size _) ?_)); refine Gh ?_
     refine JA rfl ?_; go_wp2_with ((refine Gr 9 24 Ga rfl (by rfl) (Gw rfl) (Dig.one _) Gv (Dig.size _) 0 rfl (by rfl) ?_; clear Ga; intro WS9 Ga; simp only [Ge, Gf] at Ga))
     refine H5 ?_
     go_wp2_with fail
     refine NX rfl rfl rfl rfl (Ga.get 1 rfl) (Ga.get 0 rfl) uz32 rfl uz32 rfl Gv (Dig.size _) Gv (Dig.size _) ?_
     exact ⟨rfl, A, c, Ga.tailN 2, hx⟩
   ·go_wp2_with ((refine Gr 8 20 Ga rfl (by rfl) (Gw rfl) (Dig.one _) Gv (Dig.size _) 1 rfl (by rfl) ?_; clear Ga; intro WS8 Ga; simp only [Ge, Gf] at Ga)); refine ⟨fun h => absurd h (by decide), ?_⟩
    refine G6 rfl ?_; go_wp2_with fail; refine Gh ?_
    refine G6 rfl ?_; go_wp2_with fail; refine Gh ?_
    refine G6 rfl ?_; go_wp2_with ((refine Gn 24 rfl (by rfl) uz32 rfl Gv (fArr_old (Ga.get 2 rfl)) (Dig.size _) ?_)); refine Gh ?_
    refine JA rfl ?_; go_wp2_with ((refine Gr 9 24 Ga rfl (by rfl) (Gw rfl) (Dig.one _) Gv (Dig.size _) 0 rfl (by rfl) ?_; clear Ga; intro WS9 Ga; simp only [Ge, Gf] at Ga))
    refine H5 ?_
    go_wp2_with fail
    refine NX rfl rfl rfl rfl (Ga.get 1 rfl) (Ga.get 0 rfl) uz32 rfl uz32 rfl Gv (Dig.size _) Gv (Dig.size _) ?_
    exact ⟨rfl, A, c, Ga.tailN 2, hx⟩
  | false =>
   obtain ⟨d, rfl⟩ : ∃ d, p = [d] := by
    match p, hp with
    | [d], _ => exact ⟨d, rfl⟩
   obtain rfl : k = r.length + 1 := by simpa using hk
   have HK := Gg (fun w L Ga => take_any old d r A (r.length + 1) c g w0 w L Ga hx)
   rw [Nat.add_sub_cancel] at HK
   rw [grN_all]
   simp only [Bool.false_eq_true, if_false, List.getLastD_cons, List.getLastD_nil]
   clear ih hp hk hx
   generalize GP r = lr at *
   generalize r.length = k at *
   go_enter Tryz.func181, Tryz.ntmps181
   go_upto_region 1 with (first | (refine Gk 8 rfl Gv ?_; (try clear Gb); intro g8 W8 Gb; replace Ga := Ga.tr1 Gb) | (refine Gk 9 rfl Gv ?_; (try clear Gb); intro g9 W9 Gb; replace Ga := Ga.tr1 Gb))
   go_upto_region 2 with (fail)
   go_upto_region 4 with (fail)
   go_upto_region 5 with (first | (go_at_call 187; (try clear Gb); refine (HK.out _ _ (Ga.front 2 rfl)).mono ?_; rintro e W26 ⟨rfl, A26, c26, hst', hx'⟩; clear Ga; have Ga := hst'; clear hst'; simp only [List.eraseIdx_cons_succ, List.eraseIdx_cons_zero] at Ga) | (refine Gk 10 rfl Gv ?_; (try clear Gb); intro g10 W10 Gb; replace Ga := Ga.tr1 Gb) | ((refine Gr 10 26 Ga rfl (by rfl) (Gw rfl) (Dig.one _) Gv (Dig.size _) 0 rfl (by rfl) ?_; clear Ga; intro WS3 Ga; simp only [Ge, Gf] at Ga)))
   (try clear Gb)
   refine Ht (.one 0 0 (.two 1 2 (.one 2 1 (.one 3 1 .nil)) 2 1 (.one 1 2 (.one 3 1 .nil)))) (by kernel_rfl) (by kernel_rfl) ?_
   replace Ga := Ga.drew
   refine Kl rfl rfl ?_; go_wp2_with ((refine Gl 27 rfl (by rfl) uz32 rfl Gv (Ga.get 0 rfl) (Dig.size _) ?_))
   refine JF (ki := 2) (kj := 1) rfl rfl ?_ ?_
   ·go_wp2_with ((refine Gl 28 rfl (by rfl) uz32 rfl Gv (Ga.get 0 rfl) (Dig.size _) ?_)); refine ⟨fun _ => (Below.refl _ _), ?_⟩
    refine JA rfl ?_; go_wp2_with ((refine Gr 8 27 Ga rfl (by rfl) (Gw rfl) (Dig.one _) Gv (Dig.size _) 3 rfl (by rfl) ?_; clear Ga; intro WS2 Ga; simp only [Ge, Gf] at Ga))
    refine JA rfl ?_; go_wp2_with ((refine Gr 9 28 Ga rfl (by rfl) (Gw rfl) (Dig.one _) Gv (Dig.size _) 2 rfl (by rfl) ?_; clear Ga; intro WS3 Ga; simp only [Ge, Gf] at Ga))
    refine H5 ?_
    go_wp2_with fail
    refine NX rfl rfl rfl rfl (Ga.get 3 rfl) (Ga.get 2 rfl) uz32 rfl uz32 rfl Gv (Dig.size _) Gv (Dig.size _) ?_
    exact ⟨rfl, A26, c26, (Ga.tailN 1).keep2, hx'⟩
   ·go_wp2_with ((refine Gr 8 27 Ga rfl (by rfl) (Gw rfl) (Dig.one _) Gv (Dig.size _) 3 rfl (by rfl) ?_; clear Ga; intro WS2 Ga; simp only [Ge, Gf] at Ga)); refine ⟨fun h => absurd h (by decide), ?_⟩
    refine G6 rfl ?_; go_wp2_with ((refine Gl 28 rfl (by rfl) uz32 rfl Gv (Ga.get 0 rfl) (Dig.size _) ?_)); refine Gh ?_
    refine JA rfl ?_; go_wp2_with ((refine Gr 9 28 Ga rfl (by rfl) (Gw rfl) (Dig.one _) Gv (Dig.size _) 2 rfl (by rfl) ?_; clear Ga; intro WS3 Ga; simp only [Ge, Gf] at Ga))
    refine H5 ?_
    go_wp2_with fail
    refine NX rfl rfl rfl rfl (Ga.get 3 rfl) (Ga.get 2 rfl) uz32 rfl uz32 rfl Gv (Dig.size _) Gv (Dig.size _) ?_
    exact ⟨rfl, A26, c26, (Ga.tailN 1).keep2, hx'⟩
 ·have hlt := Ju n (by omega)
  have hps := Jl n
  have h' : ((m : Int) == (n : Int)) = false := by rw [beq_eq_false_iff_ne]; omega
  have HF := Gg (fun w => P6 n (by omega) (by omega) w)
  by_cases hk2 : m ≤ GH n
  ·rw [NV h (by omega) hk2] at hp
   obtain ⟨q, d, rfl⟩ : ∃ q d, p = q ++ [d] := ⟨p.dropLast, p.getLast (fun e => by rw [e] at hp; simp at hp), (List.dropLast_concat_getLast _).symm⟩
   have hq : q.length = plN (GH n) m own := by simpa using hp
   rw [grN_left h (by omega) hk2]
   have HK := Gg (fun w L Ga => take_any old d (r ++ q) A k c g w0 w L Ga (by rw [List.append_assoc]; exact hx))
   have HI := Gg (fun A' c' w L Ga hx' => ih (GH n) hlt m own q A' (k - 1) c' w L Ga hx' hq hm1 hk2 (by omega))
   have hk' : (m : Int) ≤ (GH n : Int) := by omega
   clear ih hp hx hq hk h
   generalize GP (r ++ q) = lrq at *
   generalize GP r = lr at *
   generalize grN (GH n) m own old q = ab at *
   generalize GH n = kk at *
   generalize r.length = rl at *
   go_enter Tryz.func181, Tryz.ntmps181
   go_upto_region 1 with (first | (refine Gk 8 rfl Gv ?_; (try clear Gb); intro g8 W8 Gb; replace Ga := Ga.tr1 Gb) | (refine Gk 9 rfl Gv ?_; (try clear Gb); intro g9 W9 Gb; replace Ga := Ga.tr1 Gb))
   go_upto_region 6 with (fail)
   go_upto_region 7 with (first | (go_at_call 187; (try clear Gb); refine (HK.out _ _ (Ga.front 2 rfl)).mono ?_; rintro e W30 ⟨rfl, A30, c30, hst', hx'⟩; clear Ga; have Ga := hst'; clear hst'; simp only [List.eraseIdx_cons_succ, List.eraseIdx_cons_zero] at Ga) | (refine Gk 11 rfl Gv ?_; (try clear Gb); intro g11 W11 Gb; replace Ga := Ga.tr1 Gb) | ((refine Gr 11 30 Ga rfl (by rfl) (Gw rfl) (Dig.one _) Gv (Dig.size _) 0 rfl (by rfl) ?_; clear Ga; intro WS3 Ga; simp only [Ge, Gf] at Ga)))
   go_upto_region 8 with ((go_at_call 91; (try clear Gb); refine (HF.out _).mono ?_; rintro e Wk1 ⟨rfl, Gb⟩; replace Ga := Ga.keep Gb))
   go_upto_region 9 with (fail)
   go_upto_region 10 with (first | (go_at_call 181; (try clear Gb); refine (HI.out _ _ _ _ (Ga.front 1 rfl) hx').mono ?_; rintro e W41 ⟨rfl, A41, c41, hst', hx''⟩; clear Ga; have Ga := hst'; clear hst'; simp only [List.eraseIdx_cons_succ, List.eraseIdx_cons_zero] at Ga) | ((refine Gr 8 42 Ga rfl (by rfl) (Gw rfl) (Dig.one _) Gv (Dig.size _) 3 rfl (by rfl) ?_; clear Ga; intro WS8 Ga; simp only [Ge, Gf] at Ga)) | ((refine Gr 9 43 Ga rfl (by rfl) (Gw rfl) (Dig.one _) Gv (Dig.size _) 2 rfl (by rfl) ?_; clear Ga; intro WS9 Ga; simp only [Ge, Gf] at Ga)))
   (try clear Gb)
   refine J3 [(0, 0), (1, 0), (2, 2), (3, 2), (4, 1), (5, 1)] (by kernel_rfl) (by kernel_rfl) ?_
   replace Ga := Ga.drew
   refine GG rfl rfl ?_; go_wp2_with ((refine Gl 44 rfl (by rfl) uz32 rfl Gv (Ga.get 3 rfl) (Dig.size _) ?_))
   refine GG rfl rfl ?_; go_wp2_with ((refine Gl 45 rfl (by rfl) uz32 rfl Gv (Ga.get 2 rfl) (Dig.size _) ?_))
   refine GA rfl ?_; go_wp2_with ((refine Gl 46 rfl (by rfl) uz32 rfl Gv (Ga.get 1 rfl) (Dig.size _) ?_)); refine Gh ?_
   refine GA rfl ?_; go_wp2_with ((go_at_call 99; (try clear Gb); with_reducible refine (P5 _ _ _ (HT.out.of Ga)).mono ?_; rintro e Wk2 ⟨rfl, Gb⟩; replace Ga := Ga.keep Gb)); refine Gi Gb ?_
   refine J6 rfl ?_; go_wp2_with ((refine Gr 8 44 Ga rfl (by rfl) (Gw rfl) (Dig.one _) Gv (Dig.size _) 3 rfl (Dig.size _) ?_; clear Ga; intro WS4 Ga; simp only [Ge, Gf] at Ga))
   refine J6 rfl ?_; go_wp2_with ((refine Gr 9 47 Ga rfl (by rfl) (Gw rfl) (Dig.one _) Gv (by rfl) 2 rfl (Dig.size _) ?_; clear Ga; intro WS5 Ga; simp only [Ge, Gf] at Ga))
   refine G5 ?_
   go_wp2_with fail
   refine NX rfl rfl rfl rfl (Ga.get 3 rfl) (Ga.get 2 rfl) uz32 rfl uz32 rfl Gv (Dig.size _) Gv (Dig.size _) ?_
   exact ⟨rfl, A41, c41, Ga.keep3, hx''⟩
  ·rw [M5 h (by omega) hk2] at hp
   obtain ⟨q, d, rfl⟩ : ∃ q d, p = q ++ [d] := ⟨p.dropLast, p.getLast (fun e => by rw [e] at hp; simp at hp), (List.dropLast_concat_getLast _).symm⟩
   have hq : q.length = plN (n - GH n) (m - GH n) false := by simpa using hp
   rw [grN_right h (by omega) hk2]
   have HK := Gg (fun w L Ga => take_any old d (r ++ q) A k c g w0 w L Ga (by rw [List.append_assoc]; exact hx))
   have HI := Gg (fun A' c' w L Ga hx' => ih (n - GH n) (by omega) (m - GH n) false q A' (k - 1) c' w L Ga hx' hq (by omega) (by omega) (by omega))
   have e1 : ((m - GH n : Nat) : Int) = (m : Int) - (GH n : Int) := by omega
   have e2 : ((n - GH n : Nat) : Int) = (n : Int) - (GH n : Int) := by omega
   rw [e1, e2] at HI
   have hk' : ¬ (m : Int) ≤ (GH n : Int) := by omega
   clear ih hp hx hq hk h e1 e2
   generalize GP (r ++ q) = lrq at *
   generalize GP r = lr at *
   generalize grN (n - GH n) (m - GH n) false old q = ab at *
   generalize GH n = kk at *
   generalize r.length = rl at *
   go_enter Tryz.func181, Tryz.ntmps181
   go_upto_region 1 with (first | (refine Gk 8 rfl Gv ?_; (try clear Gb); intro g8 W8 Gb; replace Ga := Ga.tr1 Gb) | (refine Gk 9 rfl Gv ?_; (try clear Gb); intro g9 W9 Gb; replace Ga := Ga.tr1 Gb))
   go_upto_region 6 with (fail)
   go_upto_region 7 with (first | (go_at_call 187; (try clear Gb); refine (HK.out _ _ (Ga.front 2 rfl)).mono ?_; rintro e W30 ⟨rfl, A30, c30, hst', hx'⟩; clear Ga; have Ga := hst'; clear hst'; simp only [List.eraseIdx_cons_succ, List.eraseIdx_cons_zero] at Ga) | (refine Gk 11 rfl Gv ?_; (try clear Gb); intro g11 W11 Gb; replace Ga := Ga.tr1 Gb) | ((refine Gr 11 30 Ga rfl (by rfl) (Gw rfl) (Dig.one _) Gv (Dig.size _) 0 rfl (by rfl) ?_; clear Ga; intro WS3 Ga; simp only [Ge, Gf] at Ga)))
   go_upto_region 8 with ((go_at_call 91; (try clear Gb); refine (HF.out _).mono ?_; rintro e Wk3 ⟨rfl, Gb⟩; replace Ga := Ga.keep Gb))
   go_upto_region 11 with (fail)
   go_upto_region 12 with (first | (go_at_call 181; (try clear Gb); refine (HI.out _ _ _ _ (Ga.front 1 rfl) hx').mono ?_; rintro e W56 ⟨rfl, A56, c56, hst', hx''⟩; clear Ga; have Ga := hst'; clear hst'; simp only [List.eraseIdx_cons_succ, List.eraseIdx_cons_zero] at Ga) | ((refine Gr 8 57 Ga rfl (by rfl) (Gw rfl) (Dig.one _) Gv (Dig.size _) 3 rfl (by rfl) ?_; clear Ga; intro WS11 Ga; simp only [Ge, Gf] at Ga)) | ((refine Gr 9 58 Ga rfl (by rfl) (Gw rfl) (Dig.one _) Gv (Dig.size _) 2 rfl (by rfl) ?_; clear Ga; intro WS12 Ga; simp only [Ge, Gf] at Ga)))
   (try clear Gb)
   refine J3 [(0, 0), (1, 0), (3, 0), (4, 0), (2, 2), (5, 2), (6, 1), (7, 1)] (by kernel_rfl) (by kernel_rfl) ?_
   replace Ga := Ga.drew
   refine GG rfl rfl ?_; go_wp2_with ((refine Gl 59 rfl (by rfl) uz32 rfl Gv (Ga.get 1 rfl) (Dig.size _) ?_))
   refine GG rfl rfl ?_; go_wp2_with ((refine Gl 60 rfl (by rfl) uz32 rfl Gv (Ga.get 3 rfl) (Dig.size _) ?_))
   refine GG rfl rfl ?_; go_wp2_with ((refine Gl 62 rfl (by rfl) uz32 rfl Gv (Ga.get 1 rfl) (Dig.size _) ?_))
   refine GG rfl rfl ?_; go_wp2_with ((refine Gl 63 rfl (by rfl) uz32 rfl Gv (Ga.get 2 rfl) (Dig.size _) ?_))
   refine GA rfl ?_; go_wp2_with ((go_at_call 99; (try clear Gb); with_reducible refine (P5 _ _ _ (HT.out.of Ga)).mono ?_; rintro e Wk4 ⟨rfl, Gb⟩; replace Ga := Ga.keep Gb)); refine Gi Gb ?_
   refine GA rfl ?_; go_wp2_with ((go_at_call 99; (try clear Gb); with_reducible refine (P5 _ _ _ (HT.out.of Ga)).mono ?_; rintro e Wk4 ⟨rfl, Gb⟩; replace Ga := Ga.keep Gb)); refine Gi Gb ?_
   refine J6 rfl ?_; go_wp2_with ((refine Gr 8 61 Ga rfl (by rfl) (Gw rfl) (Dig.one _) Gv (by rfl) 3 rfl (Dig.size _) ?_; clear Ga; intro WS6 Ga; simp only [Ge, Gf] at Ga))
   refine J6 rfl ?_; go_wp2_with ((refine Gr 9 64 Ga rfl (by rfl) (Gw rfl) (Dig.one _) Gv (by rfl) 2 rfl (Dig.size _) ?_; clear Ga; intro WS7 Ga; simp only [Ge, Gf] at Ga))
   refine G5 ?_
   go_wp2_with fail
   refine NX rfl rfl rfl rfl (Ga.get 3 rfl) (Ga.get 2 rfl) uz32 rfl uz32 rfl Gv (Dig.size _) Gv (Dig.size _) ?_
   exact ⟨rfl, A56, c56, Ga.keep3, hx''⟩
end
section
def force {α : Type} (x : Nat) (k : Nat → α) : α := Nat.rec (k 0) (fun n _ => k (Nat.succ n)) x
def fAdd (x y : Nat) : Nat := Nat.mod (Nat.add x y) 4294967296
def fRot (x s : Nat) (t : Nat) : Nat := Nat.lor (Nat.shiftRight x s) (Nat.mod (Nat.shiftLeft x t) 4294967296)
def fS1 (e : Nat) : Nat := Nat.xor (Nat.xor (fRot e 6 26) (fRot e 11 21)) (fRot e 25 7)
def fS0 (a : Nat) : Nat := Nat.xor (Nat.xor (fRot a 2 30) (fRot a 13 19)) (fRot a 22 10)
def fs0 (x : Nat) : Nat := Nat.xor (Nat.xor (fRot x 7 25) (fRot x 18 14)) (Nat.shiftRight x 3)
def fs1 (y : Nat) : Nat := Nat.xor (Nat.xor (fRot y 17 15) (fRot y 19 13)) (Nat.shiftRight y 10)
def fCh (e f g : Nat) : Nat := Nat.xor (Nat.land e f) (Nat.land (Nat.sub 4294967295 e) g)
def fMaj (a b c : Nat) : Nat := Nat.xor (Nat.xor (Nat.land a b) (Nat.land a c)) (Nat.land b c)
def fP (e f g h k w : Nat) : Nat := fAdd (fAdd (fAdd (fAdd h (fS1 e)) (fCh e f g)) k) w
def fQ (a b c : Nat) : Nat := fAdd (fS0 a) (fMaj a b c)
def fW (w0 w1 w9 w14 : Nat) : Nat := fAdd (fAdd (fAdd (fs1 w14) w9) (fs0 w1)) w0
def fl {α : Type} : List Nat → Nat → Nat → Nat → Nat → Nat → Nat → Nat → Nat → Nat → Nat → Nat → Nat → Nat → Nat → Nat → Nat → Nat → Nat → Nat → Nat → Nat → Nat → Nat → Nat → (Nat → Nat → Nat → Nat → Nat → Nat → Nat → Nat → α) → α
 | [], _, _, _, _, _, _, _, _, _, _, _, _, _, _, _, _, a, b, c, d, e, f, g, h, K => K a b c d e f g h
 | k :: ks, w0, w1, w2, w3, w4, w5, w6, w7, w8, w9, w10, w11, w12, w13, w14, w15, a, b, c, d, e, f, g, h, K => force (fP e f g h k w0) fun p => force (fW w0 w1 w9 w14) fun w16 => force (fAdd p (fQ a b c)) fun a' => force (fAdd d p) fun e' => fl ks w1 w2 w3 w4 w5 w6 w7 w8 w9 w10 w11 w12 w13 w14 w15 w16 a' a b c e' e f g K
end
section

end
section
open Go.RowKit
end
section
open Go.RowKit
end
section
open Go.RowKit
section
variable {P : Program} {W : World}
theorem run_loadVar_one {g : Nat} {ty : TypeId} {v : Value} (hc : W.cell? ⟨g, 0, none⟩ = some v) {td : TypeDesc} (hu : P.underlying ty = some td) (hn : td.isRow = false) : (loadVar ty ⟨g, 0, none⟩).run P W = .ok v W := by
 have hagg : (isAgg ty).run P W = .ok false W := by
  unfold isAgg
  rw [Sem.run_bind, run_underlying hu W]
  cases td <;> simp_all [TypeDesc.isRow]
 simp [loadVar, hagg, load, Sem.run, hc]
theorem Qa {fn : Func} {p q r : Tmp} {ty ty' tz : TypeId} (hr : fn.results = #[.cell p ty, .cell q ty', .cell r tz]) {tmps : Array Value} {g g' gz : Nat} (hp : tmps.toList[p]? = some (.pointer (some ⟨g, 0, none⟩))) (hq : tmps.toList[q]? = some (.pointer (some ⟨g', 0, none⟩))) (hz : tmps.toList[r]? = some (.pointer (some ⟨gz, 0, none⟩))) {t t' : TypeId} {cs cs' : Array Value} {fr fr' : Nat × Nat} (hg : W.heap[g]? = some (.cells cs t fr)) (hg' : W.heap[g']? = some (.cells cs' t' fr')) {v : Value} (hv : W.cell? ⟨gz, 0, none⟩ = some v)
  {td td' tdz : TypeDesc} (hu : P.underlying ty = some td) (hrow : td.isRow = true) (hu' : P.underlying ty' = some td') (hrow' : td'.isRow = true) (huz : P.underlying tz = some tdz) (hrz : tdz.isRow = false) {z z' : Value} {s s' b b' : Nat} (he : GW P ty z s b) (hs : cs.size = s) (he' : GW P ty' z' s' b') (hs' : cs'.size = s') : (results fn tmps).run P W = .ok (.tuple #[.agg cs, .agg cs', v]) W := by
 have hp' : tmps[p]?.getD undef = .pointer (some ⟨g, 0, none⟩) := by
  have : tmps[p]? = some (.pointer (some ⟨g, 0, none⟩)) := by simpa using hp
  simp [this]
 have hq' : tmps[q]?.getD undef = .pointer (some ⟨g', 0, none⟩) := by
  have : tmps[q]? = some (.pointer (some ⟨g', 0, none⟩)) := by simpa using hq
  simp [this]
 have hz' : tmps[r]?.getD undef = .pointer (some ⟨gz, 0, none⟩) := by
  have : tmps[r]? = some (.pointer (some ⟨gz, 0, none⟩)) := by simpa using hz
  simp [this]
 simp [results, hr, hp', hq', hz', asAddr, run_loadVar_row W g t ty cs fr td hg hu (by cases td <;> simp_all [TypeDesc.isRow]) (by rw [he.size, hs]), run_loadVar_row W g' t' ty' cs' fr' td' hg' hu' (by cases td' <;> simp_all [TypeDesc.isRow]) (by rw [he'.size, hs']), run_loadVar_one hv huz hrz]
end
theorem catch_idle (a b c : Value) (w : World) : CallsD Tryz.prog 180 #[a, b, c] .returning w fun e u' w' => e = .returned (.tuple #[]) ∧ u' = .returning ∧ w' = w := by
 refine callsD_of_wpS Tryz.func180 rfl fun c₀ cs hu => ?_
 apply wpS_seq
 apply wpS_region
 simp [wpOpsS, go_sem, recoverD, hu, Tryz.ntmps180, Exit.thenS]
 refine wpS_of_wp ?_
 go_wp2
 cases c₀
 simp_all [bodyPostS, results, Tryz.results180]
theorem gFold_any (n m : Nat) (old : Dig) (p : List Dig) (A : Option Addr) (k c : Nat) (w : World) (hT : Tb w) (hx : SlR w A k c 32 (GP p)) (hk : k = plN n m true) (h1 : 1 ≤ m) (hmn : m ≤ n) (hn : n ≤ 256) :
  Calls Tryz.prog 167 #[.int .i64 (m : Int), .int .i64 (n : Int), old.v, .slice A k c] w fun e w' => e = .returned (.tuple #[(grN n m true old p).1.v, (grN n m true old p).2.v, .nilIface]) ∧ St w w' [] := by
 have Ga := St.refl w
 have hlp : p.length = plN n m true := by have := hx.1; rw [G8] at this; omega
 have HI := Gg (fun g w' L Ga => gfold_any old g w hT [] n m true p A k c w' L Ga hx hlp h1 hmn hn)
 have t1 : ¬ (n : Int) < 1 := by omega
 have t2 : ¬ (256 : Int) < (n : Int) := by omega
 have t3 : ¬ (m : Int) < 1 := by omega
 have t4 : ¬ (n : Int) < (m : Int) := by omega
 have hmf : ∀ (fn : Fn) (first cap : Array Value) (w : World), (Instr.makeFunc fn first cap).run Tryz.prog w = .ok (.func fn first cap) w := fun _ _ _ _ => rfl
 have HF := Gg (fun A' c' => fArr_at old A' 0 c')
 clear hlp hk hT hx
 generalize grN n m true old p = ab at *
 go_enter_defers Tryz.func167, Tryz.ntmps167
 go_upto_region 1 with (first | (refine Gm 6 rfl (Gw rfl) ?_; (try clear Gb); intro g6 W6 Gb; replace Ga := Ga.tr1 Gb) | (refine Gk 8 rfl Gv ?_; (try clear Gb); intro g8 W8 Gb; replace Ga := Ga.tr1 Gb) | (refine Gk 9 rfl Gv ?_; (try clear Gb); intro g9 W9 Gb; replace Ga := Ga.tr1 Gb) | (refine P1 (d := some 10) rfl rfl rfl NW rfl ?_; (try clear Gb); intro g10 W10 Gb; replace Ga := Ga.tr1 Gb))
 go_upto_region 3 with (fail)
 go_upto_region 4 with (fail)
 go_upto_region 5 with (first | (refine L_buildF (d := some 33) rfl rfl rfl (Gw rfl) (Gw rfl) ?_) | (refine Gl 31 rfl (by rfl) uz32 rfl Gv (Ga.get 3 rfl) (Dig.size _) ?_) | (refine Gm 34 rfl (Gw rfl) ?_; (try clear Gb); intro g34 W34 Gb; replace Ga := Ga.tr1 Gb))
 go_upto_region 6 with (first | (go_at_call 181; (try clear Gb); refine (HI.out _ _ _ Ga).mono ?_; rintro e W39 ⟨rfl, A39, c39, hst', hx'⟩; clear Ga; have Ga := hst'; clear hst'; simp only [List.length_nil] at Ga) | ((refine Gr 8 40 Ga rfl (by rfl) (Gw rfl) (Dig.one _) Gv (Dig.size _) 3 rfl (by rfl) ?_; clear Ga; intro WS7 Ga; simp only [Ge, Gf] at Ga)) | ((refine Gr 9 41 Ga rfl (by rfl) (Gw rfl) (Dig.one _) Gv (Dig.size _) 2 rfl (by rfl) ?_; clear Ga; intro WS8 Ga; simp only [Ge, Gf] at Ga)))
 (try clear Gb)
 go_upto_region 8 with (refine Gj 45 rfl (by rfl) uz44 rfl (Gy (Ga.get 0 rfl) (HF.out _ _)) ?_)
 refine Ht (.one 0 0 (.two 1 2 (.one 2 1 (.one 3 1 (.one 4 1 .nil))) 2 1 (.one 1 2 (.one 3 1 (.one 4 1 .nil))))) (by kernel_rfl) (by kernel_rfl) ?_
 replace Ga := Ga.drew
 refine Kl rfl rfl ?_; go_wp2_with ((refine Gl 49 rfl (by rfl) uz32 rfl Gv (Ga.get 3 rfl) (Dig.size _) ?_))
 refine JF (ki := 2) (kj := 1) rfl rfl ?_ ?_
 ·go_wp2_with ((refine Gl 50 rfl (by rfl) uz32 rfl Gv (Ga.get 2 rfl) (Dig.size _) ?_)); refine ⟨fun _ => (Below.refl _ _), ?_⟩
  refine JA rfl ?_; go_wp2_with ((refine Gr 8 49 Ga rfl (by rfl) (Gw rfl) (Dig.one _) Gv (Dig.size _) 3 rfl (Dig.size _) ?_; clear Ga; intro WS2 Ga; simp only [Ge, Gf] at Ga))
  refine JA rfl ?_; go_wp2_with ((refine Gr 9 50 Ga rfl (by rfl) (Gw rfl) (Dig.one _) Gv (Dig.size _) 2 rfl (Dig.size _) ?_; clear Ga; intro WS3 Ga; simp only [Ge, Gf] at Ga))
  refine JA rfl ?_; go_wp2_with (refine GB (.store 36 (.tmp 10) _) rfl ?_; (refine Jh rfl rfl Ga rfl (by rfl) GT rfl NW 1 rfl (of_decide_eq_true rfl) ?_; clear Ga; intro WS4 Ga; simp only [Ge, Gf] at Ga))
  refine H5 ?_
  go_wp2_with fail
  refine leaves_cons (f := 180) (args := #[.pointer (some ⟨g8, 0, none⟩), .pointer (some ⟨g9, 0, none⟩), .pointer (some ⟨g10, 0, none⟩)]) (by simp) (by simp [go_sem]) ?_
  refine (catch_idle _ _ _ _).mono ?_
  rintro e u' w'' ⟨rfl, rfl, rfl⟩
  exact ⟨_, Qa rfl rfl rfl rfl (Ga.get 3 rfl) (Ga.get 2 rfl) (Gy (Ga.get 1 rfl) rfl) uz32 rfl uz32 rfl uz36 rfl Gv (Dig.size _) Gv (Dig.size _), rfl, Ga.forget⟩
 ·go_wp2_with ((refine Gr 8 49 Ga rfl (by rfl) (Gw rfl) (Dig.one _) Gv (Dig.size _) 3 rfl (Dig.size _) ?_; clear Ga; intro WS2 Ga; simp only [Ge, Gf] at Ga)); refine ⟨fun h => absurd h (by decide), ?_⟩
  refine G6 rfl ?_; go_wp2_with ((refine Gl 50 rfl (by rfl) uz32 rfl Gv (Ga.get 2 rfl) (Dig.size _) ?_)); refine Gh ?_
  refine JA rfl ?_; go_wp2_with ((refine Gr 9 50 Ga rfl (by rfl) (Gw rfl) (Dig.one _) Gv (Dig.size _) 2 rfl (Dig.size _) ?_; clear Ga; intro WS3 Ga; simp only [Ge, Gf] at Ga))
  refine JA rfl ?_; go_wp2_with (refine GB (.store 36 (.tmp 10) _) rfl ?_; (refine Jh rfl rfl Ga rfl (by rfl) GT rfl NW 1 rfl (of_decide_eq_true rfl) ?_; clear Ga; intro WS4 Ga; simp only [Ge, Gf] at Ga))
  refine H5 ?_
  go_wp2_with fail
  refine leaves_cons (f := 180) (args := #[.pointer (some ⟨g8, 0, none⟩), .pointer (some ⟨g9, 0, none⟩), .pointer (some ⟨g10, 0, none⟩)]) (by simp) (by simp [go_sem]) ?_
  refine (catch_idle _ _ _ _).mono ?_
  rintro e u' w'' ⟨rfl, rfl, rfl⟩
  exact ⟨_, Qa rfl rfl rfl rfl (Ga.get 3 rfl) (Ga.get 2 rfl) (Gy (Ga.get 1 rfl) rfl) uz32 rfl uz32 rfl uz36 rfl Gv (Dig.size _) Gv (Dig.size _), rfl, Ga.forget⟩
theorem gCheck_any (n m : Nat) (old now : Dig) (p : List Dig) (A : Option Addr) (k c : Nat) (w : World) (hT : Tb w) (hx : SlR w A k c 32 (GP p)) (hk : k = plN n m true) (h1 : 1 ≤ m) (hmn : m ≤ n) (hn : n ≤ 256) :
  Calls Tryz.prog 152 #[.int .i64 (m : Int), .int .i64 (n : Int), old.v, now.v, .slice A k c] w fun e w' => e = .returned (.bool (decide ((grN n m true old p).1 = old) && decide ((grN n m true old p).2 = now))) ∧ St w w' [] := by
 have Ga := St.refl w
 have HF := Gg (fun w hT hs => gFold_any n m old p A k c w hT hs hk h1 hmn hn)
 have HT := Gg hT
 clear hT hk h1 hmn hn
 generalize (grN n m true old p).1 = x at *
 generalize (grN n m true old p).2 = y at *
 by_cases ha : x = old
 ·have H1 := Gg (show decide (x = old) = true by simp [ha])
  by_cases hb : y = now
  ·have H2 := Gg (show decide (y = now) = true by simp [hb])
   rw [H1.out, H2.out]
   clear ha hb
   go_enter Tryz.func152, Tryz.ntmps152
   go_upto_region 1 with (first | (refine Gm 7 rfl (Gw rfl) ?_; (try clear Gb); intro g7 W7 Gb; replace Ga := Ga.tr1 Gb) | (refine Gm 8 rfl (Gw rfl) ?_; (try clear Gb); intro g8 W8 Gb; replace Ga := Ga.tr1 Gb))
   go_upto_region 2 with (first | (go_at_call 167; (try clear Gb); refine (HF.out _ (HT.out.of Ga) (Ga.old (by decide) hx)).mono ?_; rintro e Wk1 ⟨rfl, Gb⟩; replace Ga := Ga.keep Gb) | (refine Gl 17 rfl (by rfl) uz32 rfl Gv (Ga.get 1 rfl) (Dig.size _) ?_) | (refine Gk 11 rfl Gv ?_; (try clear Gb); intro g11 W11 Gb; replace Ga := Ga.tr1 Gb) | (refine Gk 12 rfl Gv ?_; (try clear Gb); intro g12 W12 Gb; replace Ga := Ga.tr1 Gb) | ((refine Gr 11 20 Ga rfl (by rfl) (Gw rfl) (Dig.one _) Gv (Dig.size _) 1 rfl (by rfl) ?_; clear Ga; intro WS11 Ga; simp only [Ge, Gf] at Ga)) | ((refine Gr 12 21 Ga rfl (by rfl) (Gw rfl) (Dig.one _) Gv (Dig.size _) 0 rfl (by rfl) ?_; clear Ga; intro WS12 Ga; simp only [Ge, Gf] at Ga)))
   go_wp2_with (first | (refine Gl 26 rfl (by rfl) uz32 rfl Gv (Ga.get 1 rfl) (Dig.size _) ?_) | (refine Gl 27 rfl (by rfl) uz32 rfl Gv (Ga.get 3 rfl) (Dig.size _) ?_) | (refine MJ (d := some 28) rfl rfl rfl uz32 uz5 GF JG (Gw rfl) (Gw rfl) ?_; (try rw [H1.out])) | (refine Gl 31 rfl (by rfl) uz32 rfl Gv (Ga.get 0 rfl) (Dig.size _) ?_) | (refine Gl 32 rfl (by rfl) uz32 rfl Gv (Ga.get 2 rfl) (Dig.size _) ?_) | (refine MJ (d := some 33) rfl rfl rfl uz32 uz5 GF JG (Gw rfl) (Gw rfl) ?_; (try rw [H2.out])))
   go_ret
   exact ⟨rfl, Ga.forget⟩
  ·have H2 := Gg (show decide (y = now) = false by simp [hb])
   rw [H1.out, H2.out]
   clear ha hb
   go_enter Tryz.func152, Tryz.ntmps152
   go_upto_region 1 with (first | (refine Gm 7 rfl (Gw rfl) ?_; (try clear Gb); intro g7 W7 Gb; replace Ga := Ga.tr1 Gb) | (refine Gm 8 rfl (Gw rfl) ?_; (try clear Gb); intro g8 W8 Gb; replace Ga := Ga.tr1 Gb))
   go_upto_region 2 with (first | (go_at_call 167; (try clear Gb); refine (HF.out _ (HT.out.of Ga) (Ga.old (by decide) hx)).mono ?_; rintro e Wk2 ⟨rfl, Gb⟩; replace Ga := Ga.keep Gb) | (refine Gl 17 rfl (by rfl) uz32 rfl Gv (Ga.get 1 rfl) (Dig.size _) ?_) | (refine Gk 11 rfl Gv ?_; (try clear Gb); intro g11 W11 Gb; replace Ga := Ga.tr1 Gb) | (refine Gk 12 rfl Gv ?_; (try clear Gb); intro g12 W12 Gb; replace Ga := Ga.tr1 Gb) | ((refine Gr 11 20 Ga rfl (by rfl) (Gw rfl) (Dig.one _) Gv (Dig.size _) 1 rfl (by rfl) ?_; clear Ga; intro WS11 Ga; simp only [Ge, Gf] at Ga)) | ((refine Gr 12 21 Ga rfl (by rfl) (Gw rfl) (Dig.one _) Gv (Dig.size _) 0 rfl (by rfl) ?_; clear Ga; intro WS12 Ga; simp only [Ge, Gf] at Ga)))
   go_wp2_with (first | (refine Gl 26 rfl (by rfl) uz32 rfl Gv (Ga.get 1 rfl) (Dig.size _) ?_) | (refine Gl 27 rfl (by rfl) uz32 rfl Gv (Ga.get 3 rfl) (Dig.size _) ?_) | (refine MJ (d := some 28) rfl rfl rfl uz32 uz5 GF JG (Gw rfl) (Gw rfl) ?_; (try rw [H1.out])) | (refine Gl 31 rfl (by rfl) uz32 rfl Gv (Ga.get 0 rfl) (Dig.size _) ?_) | (refine Gl 32 rfl (by rfl) uz32 rfl Gv (Ga.get 2 rfl) (Dig.size _) ?_) | (refine MJ (d := some 33) rfl rfl rfl uz32 uz5 GF JG (Gw rfl) (Gw rfl) ?_; (try rw [H2.out])))
   go_ret
   exact ⟨rfl, Ga.forget⟩
 ·have H1 := Gg (show decide (x = old) = false by simp [ha])
  rw [H1.out, Bool.false_and]
  clear ha
  go_enter Tryz.func152, Tryz.ntmps152
  go_upto_region 1 with (first | (refine Gm 7 rfl (Gw rfl) ?_; (try clear Gb); intro g7 W7 Gb; replace Ga := Ga.tr1 Gb) | (refine Gm 8 rfl (Gw rfl) ?_; (try clear Gb); intro g8 W8 Gb; replace Ga := Ga.tr1 Gb))
  go_upto_region 2 with (first | (go_at_call 167; (try clear Gb); refine (HF.out _ (HT.out.of Ga) (Ga.old (by decide) hx)).mono ?_; rintro e Wk3 ⟨rfl, Gb⟩; replace Ga := Ga.keep Gb) | (refine Gl 17 rfl (by rfl) uz32 rfl Gv (Ga.get 1 rfl) (Dig.size _) ?_) | (refine Gk 11 rfl Gv ?_; (try clear Gb); intro g11 W11 Gb; replace Ga := Ga.tr1 Gb) | (refine Gk 12 rfl Gv ?_; (try clear Gb); intro g12 W12 Gb; replace Ga := Ga.tr1 Gb) | ((refine Gr 11 20 Ga rfl (by rfl) (Gw rfl) (Dig.one _) Gv (Dig.size _) 1 rfl (by rfl) ?_; clear Ga; intro WS11 Ga; simp only [Ge, Gf] at Ga)) | ((refine Gr 12 21 Ga rfl (by rfl) (Gw rfl) (Dig.one _) Gv (Dig.size _) 0 rfl (by rfl) ?_; clear Ga; intro WS12 Ga; simp only [Ge, Gf] at Ga)))
  go_wp2_with (first | (refine Gl 26 rfl (by rfl) uz32 rfl Gv (Ga.get 1 rfl) (Dig.size _) ?_) | (refine Gl 27 rfl (by rfl) uz32 rfl Gv (Ga.get 3 rfl) (Dig.size _) ?_) | (refine MJ (d := some 28) rfl rfl rfl uz32 uz5 GF JG (Gw rfl) (Gw rfl) ?_; (try rw [H1.out])))
  go_ret
  exact ⟨rfl, Ga.forget⟩
end
section
open Go.RowKit
abbrev lenP : PanicEntry := { v := JL 3, recovered := false }
theorem take_none (old : Dig) (A : Option Addr) (c g : Nat) (w0 w : World) (L : List Res) (Ga : St w0 w (.blk g 261 (N9 old A 0 c) :: L)) :
  Calls Tryz.prog 187 #[.pointer (some ⟨g, 0, none⟩)] w fun e w' => e = .panicked [lenP] ∧ St w0 w' (.blk g 261 (N9 old A 0 c) :: L) := by
 have HF := Gg (fArr_at old A 0 c)
 go_enter Tryz.func187, Tryz.ntmps187
 go_upto_region 1 with (refine Gk 2 rfl Gv ?_; (try clear Gb); intro g2 W2 Gb; replace Ga := Ga.tr1 Gb)
 go_upto_region 2 with (refine Gj 7 rfl (by rfl) uz44 rfl (Gy (Ga.get 1 rfl) HF.out) ?_)
 go_wp2_with (fail)
 exact ⟨rfl, rfl, Ga.tail⟩
theorem gfold_short (old : Dig) (g : Nat) (w0 : World) : ∀ (n m : Nat) (own : Bool) (p : List Dig) (A : Option Addr) (k c : Nat) (w : World) (L : List Res), St w0 w (.blk g 261 (N9 old A k c) :: L) → SlR w0 A k c 32 (GP p) → k < plN n m own → 1 ≤ m → m ≤ n → n ≤ 256 →
  Calls Tryz.prog 181 #[.pointer (some ⟨g, 0, none⟩), .int .i64 (m : Int), .int .i64 (n : Int), .bool own] w fun e w' => e = .panicked [lenP] ∧ ∃ A' k' c', St w0 w' (.blk g 261 (N9 old A' k' c') :: L) := by
 intro n
 induction n using Nat.strongRecOn with
 | ind n ih =>
 intro m own p A k c w L Ga hx hp hm1 hmn hn
 have hk : p.length = k := by have := hx.1; rw [G8] at this; omega
 by_cases h : m = n
 ·subst h
  rw [PP] at hp
  cases own with
  | true => simp at hp
  | false =>
   obtain rfl : k = 0 := by simpa using hp
   have HK := Gg (fun w L Ga => take_none old A c g w0 w L Ga)
   clear ih hp hk hx
   go_enter Tryz.func181, Tryz.ntmps181
   go_upto_region 1 with (first | (refine Gk 8 rfl Gv ?_; (try clear Gb); intro g8 W8 Gb; replace Ga := Ga.tr1 Gb) | (refine Gk 9 rfl Gv ?_; (try clear Gb); intro g9 W9 Gb; replace Ga := Ga.tr1 Gb))
   go_upto_region 2 with (fail)
   go_upto_region 4 with (fail)
   go_wp2_with ((go_at_call 187; (try clear Gb); refine (HK.out _ _ (Ga.front 2 rfl)).mono ?_; rintro e W26 ⟨rfl, hst'⟩; clear Ga; have Ga := hst'; clear hst'; simp only [List.eraseIdx_cons_succ, List.eraseIdx_cons_zero] at Ga))
   exact ⟨rfl, rfl, _, _, _, Ga.keep2⟩
 ·have hlt := Ju n (by omega)
  have hps := Jl n
  have h' : ((m : Int) == (n : Int)) = false := by rw [beq_eq_false_iff_ne]; omega
  have HF := Gg (fun w => P6 n (by omega) (by omega) w)
  by_cases hk0 : k = 0
  ·subst hk0
   have HK := Gg (fun w L Ga => take_none old A c g w0 w L Ga)
   clear ih hp hk hx HF
   go_enter Tryz.func181, Tryz.ntmps181
   go_upto_region 1 with (first | (refine Gk 8 rfl Gv ?_; (try clear Gb); intro g8 W8 Gb; replace Ga := Ga.tr1 Gb) | (refine Gk 9 rfl Gv ?_; (try clear Gb); intro g9 W9 Gb; replace Ga := Ga.tr1 Gb))
   go_upto_region 6 with (fail)
   go_wp2_with ((go_at_call 187; (try clear Gb); refine (HK.out _ _ (Ga.front 2 rfl)).mono ?_; rintro e W30 ⟨rfl, hst'⟩; clear Ga; have Ga := hst'; clear hst'; simp only [List.eraseIdx_cons_succ, List.eraseIdx_cons_zero] at Ga))
   exact ⟨rfl, rfl, _, _, _, Ga.keep2⟩
  ·obtain ⟨q, d, rfl, hq⟩ : ∃ q d, p = q ++ [d] ∧ q.length = k - 1 := by
    refine ⟨p.dropLast, p.getLast (fun e => by rw [e] at hk; exact hk0 hk.symm), (List.dropLast_concat_getLast _).symm, by rw [List.length_dropLast, hk]⟩
   have HK := Gg (fun w L Ga => take_any old d q A k c g w0 w L Ga hx)
   by_cases hk2 : m ≤ GH n
   ·rw [NV h (by omega) hk2] at hp
    have HI := Gg (fun A' c' w L Ga hx' => ih (GH n) hlt m own q A' (k - 1) c' w L Ga hx' (by omega) hm1 hk2 (by omega))
    have hk' : (m : Int) ≤ (GH n : Int) := by omega
    clear ih hp hx hq hk hk0 h
    generalize GP q = lq at *
    generalize GH n = kk at *
    go_enter Tryz.func181, Tryz.ntmps181
    go_upto_region 1 with (first | (refine Gk 8 rfl Gv ?_; (try clear Gb); intro g8 W8 Gb; replace Ga := Ga.tr1 Gb) | (refine Gk 9 rfl Gv ?_; (try clear Gb); intro g9 W9 Gb; replace Ga := Ga.tr1 Gb))
    go_upto_region 6 with (fail)
    go_upto_region 7 with (first | (go_at_call 187; (try clear Gb); refine (HK.out _ _ (Ga.front 2 rfl)).mono ?_; rintro e W30 ⟨rfl, A30, c30, hst', hx'⟩; clear Ga; have Ga := hst'; clear hst'; simp only [List.eraseIdx_cons_succ, List.eraseIdx_cons_zero] at Ga) | (refine Gk 11 rfl Gv ?_; (try clear Gb); intro g11 W11 Gb; replace Ga := Ga.tr1 Gb) | ((refine Gr 11 30 Ga rfl (by rfl) (Gw rfl) (Dig.one _) Gv (Dig.size _) 0 rfl (by rfl) ?_; clear Ga; intro WS3 Ga; simp only [Ge, Gf] at Ga)))
    go_upto_region 8 with ((go_at_call 91; (try clear Gb); refine (HF.out _).mono ?_; rintro e Wk1 ⟨rfl, Gb⟩; replace Ga := Ga.keep Gb))
    go_upto_region 9 with (fail)
    go_wp2_with ((go_at_call 181; (try clear Gb); refine (HI.out _ _ _ _ (Ga.front 1 rfl) hx').mono ?_; rintro e W41 ⟨rfl, A41, k41, c41, hst'⟩; clear Ga; have Ga := hst'; clear hst'; simp only [List.eraseIdx_cons_succ, List.eraseIdx_cons_zero] at Ga))
    exact ⟨rfl, rfl, A41, k41, c41, Ga.keep3⟩
   ·rw [M5 h (by omega) hk2] at hp
    have HI := Gg (fun A' c' w L Ga hx' => ih (n - GH n) (by omega) (m - GH n) false q A' (k - 1) c' w L Ga hx' (by omega) (by omega) (by omega) (by omega))
    have e1 : ((m - GH n : Nat) : Int) = (m : Int) - (GH n : Int) := by omega
    have e2 : ((n - GH n : Nat) : Int) = (n : Int) - (GH n : Int) := by omega
    rw [e1, e2] at HI
    have hk' : ¬ (m : Int) ≤ (GH n : Int) := by omega
    clear ih hp hx hq hk hk0 h e1 e2
    generalize GP q = lq at *
    generalize GH n = kk at *
    go_enter Tryz.func181, Tryz.ntmps181
    go_upto_region 1 with (first | (refine Gk 8 rfl Gv ?_; (try clear Gb); intro g8 W8 Gb; replace Ga := Ga.tr1 Gb) | (refine Gk 9 rfl Gv ?_; (try clear Gb); intro g9 W9 Gb; replace Ga := Ga.tr1 Gb))
    go_upto_region 6 with (fail)
    go_upto_region 7 with (first | (go_at_call 187; (try clear Gb); refine (HK.out _ _ (Ga.front 2 rfl)).mono ?_; rintro e W30 ⟨rfl, A30, c30, hst', hx'⟩; clear Ga; have Ga := hst'; clear hst'; simp only [List.eraseIdx_cons_succ, List.eraseIdx_cons_zero] at Ga) | (refine Gk 11 rfl Gv ?_; (try clear Gb); intro g11 W11 Gb; replace Ga := Ga.tr1 Gb) | ((refine Gr 11 30 Ga rfl (by rfl) (Gw rfl) (Dig.one _) Gv (Dig.size _) 0 rfl (by rfl) ?_; clear Ga; intro WS3 Ga; simp only [Ge, Gf] at Ga)))
    go_upto_region 8 with ((go_at_call 91; (try clear Gb); refine (HF.out _).mono ?_; rintro e Wk2 ⟨rfl, Gb⟩; replace Ga := Ga.keep Gb))
    go_upto_region 11 with (fail)
    go_wp2_with ((go_at_call 181; (try clear Gb); refine (HI.out _ _ _ _ (Ga.front 1 rfl) hx').mono ?_; rintro e W56 ⟨rfl, A56, k56, c56, hst'⟩; clear Ga; have Ga := hst'; clear hst'; simp only [List.eraseIdx_cons_succ, List.eraseIdx_cons_zero] at Ga))
    exact ⟨rfl, rfl, A56, k56, c56, Ga.keep3⟩
theorem catch_stops (w0 w : World) (ga gb ge : Nat) (xa xb : Array Value) (L : List Res) (ha : xa.size = 32) (hb : xb.size = 32) (Ga : St w0 w (.blk ge 36 #[.nilIface] :: .blk gb 32 xb :: .blk ga 32 xa :: L)) :
  CallsD Tryz.prog 180 #[.pointer (some ⟨ga, 0, none⟩), .pointer (some ⟨gb, 0, none⟩), .pointer (some ⟨ge, 0, none⟩)] (.panicking [lenP]) w fun e u' w' => e = .returned (.tuple #[]) ∧ u' = .panicking [{ v := JL 3, recovered := true }] ∧
   St w0 w' (.blk ge 36 #[JL 3] :: .blk gb 32 GM.arr :: .blk ga 32 GM.arr :: L) := by
 have hta : ∀ w : World, (Instr.typeAssert (Value.iface 28 (Value.int IntKind.i64 3)) 20 28 true).run Tryz.prog w = .ok (.tuple #[.int .i64 3, .bool true]) w := fun w => by kernel_rfl
 refine callsD_of_wpS Tryz.func180 rfl fun c₀ cs hu => ?_
 apply wpS_seq
 apply wpS_region
 simp [wpOpsS, go_sem, recoverD, hu, Tryz.ntmps180, Exit.thenS]
 refine wpS_of_wp ?_
 simp only [JL, Array.replicate_succ, Array.replicate_zero, List.push_toArray, List.append_toArray, List.nil_append, List.cons_append, List.setIfInBounds_toArray, List.set_cons_succ, List.set_cons_zero]
 go_wp2_with (first | (refine KC (d := some 12) rfl rfl rfl uz32 GF Gv ?_) | (refine KC (d := some 13) rfl rfl rfl uz32 GF Gv ?_) | ((refine Gr 0 12 Ga rfl (by rfl) (Gw rfl) (Dig.one _) Gv (by rfl) 2 rfl (ha) ?_; clear Ga; intro WS4 Ga; simp only [Ge, Gf] at Ga)) | ((refine Gr 1 13 Ga rfl (by rfl) (Gw rfl) (Dig.one _) Gv (by rfl) 1 rfl (hb) ?_; clear Ga; intro WS5 Ga; simp only [Ge, Gf] at Ga)) | ((refine Gt 2 15 Ga rfl (by rfl) (Gw rfl) rfl NW 0 rfl (of_decide_eq_true rfl) ?_; clear Ga; intro WS6 Ga; simp only [Ge, Gf] at Ga)))
 exact ⟨rfl, _, rfl, _, results_none rfl _ _ _, rfl, rfl, Ga⟩
theorem gFold_short (n m : Nat) (old : Dig) (p : List Dig) (A : Option Addr) (k c : Nat) (w : World) (hx : SlR w A k c 32 (GP p)) (hk : k < plN n m true) (h1 : 1 ≤ m) (hmn : m ≤ n) (hn : n ≤ 256) :
  Calls Tryz.prog 167 #[.int .i64 (m : Int), .int .i64 (n : Int), old.v, .slice A k c] w fun e w' => e = .returned (.tuple #[GM.v, GM.v, JL 3]) ∧ St w w' [] := by
 have Ga := St.refl w
 have HI := Gg (fun g w' L Ga => gfold_short old g w n m true p A k c w' L Ga hx hk h1 hmn hn)
 have t1 : ¬ (n : Int) < 1 := by omega
 have t2 : ¬ (256 : Int) < (n : Int) := by omega
 have t3 : ¬ (m : Int) < 1 := by omega
 have t4 : ¬ (n : Int) < (m : Int) := by omega
 have hmf : ∀ (fn : Fn) (first cap : Array Value) (w : World), (Instr.makeFunc fn first cap).run Tryz.prog w = .ok (.func fn first cap) w := fun _ _ _ _ => rfl
 clear hk hx
 go_enter_defers Tryz.func167, Tryz.ntmps167
 go_upto_region 1 with (first | (refine Gm 6 rfl (Gw rfl) ?_; (try clear Gb); intro g6 W6 Gb; replace Ga := Ga.tr1 Gb) | (refine Gk 8 rfl Gv ?_; (try clear Gb); intro g8 W8 Gb; replace Ga := Ga.tr1 Gb) | (refine Gk 9 rfl Gv ?_; (try clear Gb); intro g9 W9 Gb; replace Ga := Ga.tr1 Gb) | (refine P1 (d := some 10) rfl rfl rfl NW rfl ?_; (try clear Gb); intro g10 W10 Gb; replace Ga := Ga.tr1 Gb))
 go_upto_region 3 with (fail)
 go_upto_region 4 with (fail)
 go_upto_region 5 with (first | (refine L_buildF (d := some 33) rfl rfl rfl (Gw rfl) (Gw rfl) ?_) | (refine Gl 31 rfl (by rfl) uz32 rfl Gv (Ga.get 3 rfl) (Dig.size _) ?_) | (refine Gm 34 rfl (Gw rfl) ?_; (try clear Gb); intro g34 W34 Gb; replace Ga := Ga.tr1 Gb))
 go_wp2_with ((go_at_call 181; (try clear Gb); refine (HI.out _ _ _ Ga).mono ?_; rintro e W39 ⟨rfl, A39, k39, c39, hst'⟩; clear Ga; have Ga := hst'; clear hst'))
 refine leaves_cons (f := 180) (args := #[.pointer (some ⟨g8, 0, none⟩), .pointer (some ⟨g9, 0, none⟩), .pointer (some ⟨g10, 0, none⟩)]) (by simp) (by simp [go_sem]) ?_
 refine (catch_stops w _ g8 g9 g10 _ _ _ (Dig.size _) (Dig.size _) Ga.tail).mono ?_
 rintro e u' w'' ⟨rfl, rfl, hst2⟩
 exact ⟨_, Qa rfl rfl rfl rfl (hst2.get 2 rfl) (hst2.get 1 rfl) (Gy (hst2.get 0 rfl) rfl) uz32 rfl uz32 rfl uz36 rfl Gv (Dig.size _) Gv (Dig.size _), rfl, hst2.forget⟩
theorem gFold_long (n m : Nat) (old : Dig) (p : List Dig) (A : Option Addr) (k c : Nat) (w : World) (hT : Tb w) (hx : SlR w A k c 32 (GP p)) (hk : plN n m true < k) (h1 : 1 ≤ m) (hmn : m ≤ n) (hn : n ≤ 256) :
  Calls Tryz.prog 167 #[.int .i64 (m : Int), .int .i64 (n : Int), old.v, .slice A k c] w fun e w' => e = .returned (.tuple #[GM.v, GM.v, JL 3]) ∧ St w w' [] := by
 have Ga := St.refl w
 have hl : p.length = k := by have := hx.1; rw [G8] at this; omega
 obtain ⟨r, q, rfl, hr, hq⟩ : ∃ r q, p = r ++ q ∧ r.length = k - plN n m true ∧ q.length = plN n m true := by
  refine ⟨p.take (k - plN n m true), p.drop (k - plN n m true), (List.take_append_drop _ _).symm, ?_, ?_⟩
  ·rw [List.length_take]; omega
  ·rw [List.length_drop]; omega
 have HI := Gg (fun g w' L Ga => gfold_any old g w hT r n m true q A k c w' L Ga hx hq h1 hmn hn)
 rw [hr] at HI
 have t1 : ¬ (n : Int) < 1 := by omega
 have t2 : ¬ (256 : Int) < (n : Int) := by omega
 have t3 : ¬ (m : Int) < 1 := by omega
 have t4 : ¬ (n : Int) < (m : Int) := by omega
 have hmf : ∀ (fn : Fn) (first cap : Array Value) (w : World), (Instr.makeFunc fn first cap).run Tryz.prog w = .ok (.func fn first cap) w := fun _ _ _ _ => rfl
 have HF := Gg (fun A' k' c' => fArr_at old A' k' c')
 obtain ⟨x, hx0⟩ : ∃ x, x = k - plN n m true := ⟨_, rfl⟩
 rw [← hx0] at HI
 have t5 : 0 < (x : Int) := by omega
 clear hk hx hl hr hq hT hx0
 generalize grN n m true old q = ab at *
 generalize GP r = lr at *
 go_enter_defers Tryz.func167, Tryz.ntmps167
 go_upto_region 1 with (first | (refine Gm 6 rfl (Gw rfl) ?_; (try clear Gb); intro g6 W6 Gb; replace Ga := Ga.tr1 Gb) | (refine Gk 8 rfl Gv ?_; (try clear Gb); intro g8 W8 Gb; replace Ga := Ga.tr1 Gb) | (refine Gk 9 rfl Gv ?_; (try clear Gb); intro g9 W9 Gb; replace Ga := Ga.tr1 Gb) | (refine P1 (d := some 10) rfl rfl rfl NW rfl ?_; (try clear Gb); intro g10 W10 Gb; replace Ga := Ga.tr1 Gb))
 go_upto_region 3 with (fail)
 go_upto_region 4 with (fail)
 go_upto_region 5 with (first | (refine L_buildF (d := some 33) rfl rfl rfl (Gw rfl) (Gw rfl) ?_) | (refine Gl 31 rfl (by rfl) uz32 rfl Gv (Ga.get 3 rfl) (Dig.size _) ?_) | (refine Gm 34 rfl (Gw rfl) ?_; (try clear Gb); intro g34 W34 Gb; replace Ga := Ga.tr1 Gb))
 go_upto_region 6 with (first | (go_at_call 181; (try clear Gb); refine (HI.out _ _ _ Ga).mono ?_; rintro e W39 ⟨rfl, A39, c39, hst', hx'⟩; clear Ga; have Ga := hst'; clear hst' hx') | ((refine Gr 8 40 Ga rfl (by rfl) (Gw rfl) (Dig.one _) Gv (Dig.size _) 3 rfl (by rfl) ?_; clear Ga; intro WS7 Ga; simp only [Ge, Gf] at Ga)) | ((refine Gr 9 41 Ga rfl (by rfl) (Gw rfl) (Dig.one _) Gv (Dig.size _) 2 rfl (by rfl) ?_; clear Ga; intro WS8 Ga; simp only [Ge, Gf] at Ga)))
 (try clear Gb)
 go_upto_region 7 with (refine Gj 45 rfl (by rfl) uz44 rfl (Gy (Ga.get 0 rfl) (HF.out _ _ _)) ?_)
 go_wp2_with (fail)
 refine leaves_cons (f := 180) (args := #[.pointer (some ⟨g8, 0, none⟩), .pointer (some ⟨g9, 0, none⟩), .pointer (some ⟨g10, 0, none⟩)]) (by simp) (by simp [go_sem]) ?_
 refine (catch_stops w _ g8 g9 g10 _ _ _ (Dig.size _) (Dig.size _) Ga.tail).mono ?_
 rintro e u' w'' ⟨rfl, rfl, hst2⟩
 exact ⟨_, Qa rfl rfl rfl rfl (hst2.get 2 rfl) (hst2.get 1 rfl) (Gy (hst2.get 0 rfl) rfl) uz32 rfl uz32 rfl uz36 rfl Gv (Dig.size _) Gv (Dig.size _), rfl, hst2.forget⟩
theorem gFold_length (n m : Nat) (old : Dig) (p : List Dig) (A : Option Addr) (k c : Nat) (w : World) (hT : Tb w) (hx : SlR w A k c 32 (GP p)) (hk : k ≠ plN n m true) (h1 : 1 ≤ m) (hmn : m ≤ n) (hn : n ≤ 256) :
  Calls Tryz.prog 167 #[.int .i64 (m : Int), .int .i64 (n : Int), old.v, .slice A k c] w fun e w' => e = .returned (.tuple #[GM.v, GM.v, JL 3]) ∧ St w w' [] := by
 by_cases h : k < plN n m true
 ·exact gFold_short n m old p A k c w hx h h1 hmn hn
 ·exact gFold_long n m old p A k c w hT hx (by omega) h1 hmn hn
theorem gFold_range (n m : Int) (old : Dig) (A : Option Addr) (k c : Nat) (w : World) (h : n < 1 ∨ ¬ n < 1 ∧ 256 < n ∨ ¬ n < 1 ∧ ¬ 256 < n ∧ m < 1 ∨ ¬ n < 1 ∧ ¬ 256 < n ∧ ¬ m < 1 ∧ n < m) :
  Calls Tryz.prog 167 #[.int .i64 m, .int .i64 n, old.v, .slice A k c] w fun e w' => e = .returned (.tuple #[GM.v, GM.v, JL 2]) ∧ St w w' [] := by
 have Ga := St.refl w
 rcases h with h1 | ⟨h1, h2⟩ | ⟨h1, h2, h3⟩ | ⟨h1, h2, h3, h4⟩
 all_goals
  go_enter_defers Tryz.func167, Tryz.ntmps167
  go_upto_region 1 with (first | (refine Gm 6 rfl (Gw rfl) ?_; (try clear Gb); intro g6 W6 Gb; replace Ga := Ga.tr1 Gb) | (refine Gk 8 rfl Gv ?_; (try clear Gb); intro g8 W8 Gb; replace Ga := Ga.tr1 Gb) | (refine Gk 9 rfl Gv ?_; (try clear Gb); intro g9 W9 Gb; replace Ga := Ga.tr1 Gb) | (refine P1 (d := some 10) rfl rfl rfl NW rfl ?_; (try clear Gb); intro g10 W10 Gb; replace Ga := Ga.tr1 Gb))
  go_upto_region 2 with (fail)
  go_wp2_with (first | (refine KC (d := some 27) rfl rfl rfl uz32 GF Gv ?_) | (refine KC (d := some 28) rfl rfl rfl uz32 GF Gv ?_) | ((refine Gr 8 27 Ga rfl (by rfl) (Gw rfl) (Dig.one _) Gv (by rfl) 2 rfl (by rfl) ?_; clear Ga; intro WS3 Ga; simp only [Ge, Gf] at Ga)) | ((refine Gr 9 28 Ga rfl (by rfl) (Gw rfl) (Dig.one _) Gv (by rfl) 1 rfl (by rfl) ?_; clear Ga; intro WS4 Ga; simp only [Ge, Gf] at Ga)) | ((refine Gt 10 29 Ga rfl (by rfl) (Gw rfl) rfl NW 0 rfl (of_decide_eq_true rfl) ?_; clear Ga; intro WS5 Ga; simp only [Ge, Gf] at Ga)))
  exact ⟨_, Qa rfl rfl rfl rfl (Ga.get 2 rfl) (Ga.get 1 rfl) (Gy (Ga.get 0 rfl) rfl) uz32 rfl uz32 rfl uz36 rfl Gv (Dig.size _) Gv (Dig.size _), rfl, Ga.forget⟩
theorem gCheck_no (n m : Int) (old now : Dig) (A : Option Addr) (k c q : Nat) (w : World) (HF : ∀ w', St w w' [] → Calls Tryz.prog 167 #[.int .i64 m, .int .i64 n, old.v, .slice A k c] w' fun e w'' => e = .returned (.tuple #[GM.v, GM.v, JL q]) ∧ St w' w'' []) :
  Calls Tryz.prog 152 #[.int .i64 m, .int .i64 n, old.v, now.v, .slice A k c] w fun e w' => e = .returned (.bool false) ∧ St w w' [] := by
 have Ga := St.refl w
 have HF := Lib.hid HF
 unfold JL at HF
 go_enter Tryz.func152, Tryz.ntmps152
 go_upto_region 1 with (first | (refine Gm 7 rfl (Gw rfl) ?_; (try clear Gb); intro g7 W7 Gb; replace Ga := Ga.tr1 Gb) | (refine Gm 8 rfl (Gw rfl) ?_; (try clear Gb); intro g8 W8 Gb; replace Ga := Ga.tr1 Gb))
 go_upto_region 2 with (first | (go_at_call 167; (try clear Gb); refine (HF.out _ Ga.forget).mono ?_; rintro e Wk3 ⟨rfl, Gb⟩; replace Ga := Ga.keep Gb) | (refine Gl 17 rfl (by rfl) uz32 rfl Gv (Ga.get 1 rfl) (Dig.size _) ?_) | (refine Gk 11 rfl Gv ?_; (try clear Gb); intro g11 W11 Gb; replace Ga := Ga.tr1 Gb) | (refine Gk 12 rfl Gv ?_; (try clear Gb); intro g12 W12 Gb; replace Ga := Ga.tr1 Gb) | ((refine Gr 11 20 Ga rfl (by rfl) (Gw rfl) (Dig.one _) Gv (by rfl) 1 rfl (by rfl) ?_; clear Ga; intro WS11 Ga; simp only [Ge, Gf] at Ga)) | ((refine Gr 12 21 Ga rfl (by rfl) (Gw rfl) (Dig.one _) Gv (by rfl) 0 rfl (by rfl) ?_; clear Ga; intro WS12 Ga; simp only [Ge, Gf] at Ga)))
 go_wp2_with (fail)
 go_ret
 exact ⟨rfl, Ga.forget⟩
end
section
open Go.RowKit
def Mx (m s : Int) (old now : Dig) (p : List Dig) : Bool :=
 decide (1 ≤ m ∧ m ≤ s ∧ s ≤ 256 ∧ p.length = plN s.toNat m.toNat true) && (decide ((grN s.toNat m.toNat true old p).1 = old) && decide ((grN s.toNat m.toNat true old p).2 = now))
theorem check_all (m s : Int) (old now : Dig) (p : List Dig) (P : Option Addr) (k pc : Nat) (w : World) (hT : Tb w) (hs : SlR w P k pc 32 (GP p)) :
  Calls Tryz.prog 152 #[.int .i64 m, .int .i64 s, old.v, now.v, .slice P k pc] w fun e w' => e = .returned (.bool (Mx m s old now p)) ∧ St w w' [] := by
 have hl : p.length = k := by have := hs.1; rw [G8] at this; omega
 by_cases hr : s < 1 ∨ 256 < s ∨ m < 1 ∨ s < m
 ·rw [show Mx m s old now p = false by
   unfold Mx
   rw [decide_eq_false (by omega), Bool.false_and]]
  exact gCheck_no s m old now P k pc 2 w (fun w' _ => gFold_range s m old P k pc w' (by omega))
 ·have em : ((m.toNat : Nat) : Int) = m := by omega
  have es : ((s.toNat : Nat) : Int) = s := by omega
  by_cases hk : k = plN s.toNat m.toNat true
  ·have := gCheck_any s.toNat m.toNat old now p P k pc w hT hs hk (by omega) (by omega) (by omega)
   rw [em, es] at this
   rw [show Mx m s old now p = (decide ((grN s.toNat m.toNat true old p).1 = old) && decide ((grN s.toNat m.toNat true old p).2 = now)) by
    unfold Mx
    rw [decide_eq_true ⟨by omega, by omega, by omega, by omega⟩, Bool.true_and]]
   exact this
  ·rw [show Mx m s old now p = false by
    unfold Mx
    rw [decide_eq_false (by omega), Bool.false_and]]
   refine gCheck_no s m old now P k pc 3 w (fun w' Ga => ?_)
   have := gFold_length s.toNat m.toNat old p P k pc w' (Tb.of hT Ga) (Ga.old (by decide) hs) hk (by omega) (by omega) (by omega)
   rwa [em, es] at this
def takeN (key : List UInt8) (n0 : Int) (x0 y0 : Dig) (n : Int) (x y z : Dig) (p : List Dig) : Nat :=
 if z = tagN key n x y then
  if n < 0 ∨ 256 < n then 2
  else if n < n0 then 8
  else if n = n0 then (if x = x0 ∧ y = y0 then 0 else 9)
  else if n0 = 0 then (if p = [] then 0 else 9)
  else if Mx n0 n x0 x p then 0 else 9
 else 1
def Nl (r : Nat) : Value := if r = 0 then .nilIface else JL r
end
section
structure FoundN where
 note : NoteN
 at_ : Int
 path : List Dig
 mpath : List Dig
def ND : NoteN := ⟨[], GM, 0⟩
def zeroFd : FoundN := ⟨ND, 0, [], []⟩
def Jd (ns : List NoteN) (s : List UInt8) : FoundN :=
 if JM s = true then
  match Ho ns s with
  | some i => ⟨ns[i]?.getD ND, (i : Int), KF (lvN ns) i, MK (lgF ns) (Jf s) 32⟩
  | none => ⟨ND, 0, [], MK (lgF ns) (Jf s) 32⟩
 else zeroFd
def findE (s : List UInt8) : Nat := if JM s = true then 0 else 1
def K8 (y : Dig) (s : List UInt8) (l : Dig) (p : List Dig) : Prop := p.length = 32 ∧ KV (Jf s) l p = y
def NY (n : Int) (x : Dig) (l : Dig) (i : Int) (p : List Dig) : Prop := 1 ≤ n ∧ n ≤ 256 ∧ 0 ≤ i ∧ i < n ∧ p.length = Jn i.toNat n.toNat ∧ JY l i.toNat n.toNat p = x
instance (y : Dig) (s : List UInt8) (l : Dig) (p : List Dig) : Decidable (K8 y s l p) := by unfold K8; exact inferInstance
instance (n : Int) (x : Dig) (l : Dig) (i : Int) (p : List Dig) : Decidable (NY n x l i p) := by unfold NY; exact inferInstance
def PQ (n : Int) (x y : Dig) (s : List UInt8) (f : FoundN) : Nat × Option NoteN :=
 if JM s = true then
  if f.note.name = [] then
   (if f.note.key = GM ∧ f.note.turn = 0 ∧ f.at_ = 0 ∧ f.path = [] ∧ K8 y s GM f.mpath then (0, none) else (9, none))
  else if JN f.note = true ∧ f.note.name = s then
   (if K8 y s (K2 (Jf s) (Jm f.note)) f.mpath ∧ NY n x (Jm f.note) f.at_ f.path then (0, some f.note) else (9, none))
  else (9, none)
 else (1, none)
theorem NE (ns : List NoteN) : (lvN ns).length = ns.length := by simp [lvN]
theorem lvN_take (ns : List NoteN) (m : Nat) : lvN (ns.take m) = (lvN ns).take m := by simp [lvN, List.map_take]
theorem grows_honest {ns : List NoteN} {m : Nat} (h1 : 1 ≤ m) (hm : m ≤ ns.length) (hl : ns.length ≤ 256) :
  Mx (m : Int) (ns.length : Int) (G4 (lvN (ns.take m))) (G4 (lvN ns)) (gpN (lvN ns) m true) = true := by
 have hg := grow_proves ns.length (lvN ns) m true (G4 (lvN (ns.take m))) (NE ns) h1 hm (fun _ => by rw [lvN_take])
 unfold Mx
 rw [Int.toNat_natCast, Int.toNat_natCast, hg, lvN_take]
 have := length_gpN ns.length (lvN ns) m true (NE ns)
 rw [this]
 simp
 omega
def prfN (ns : List NoteN) (m : Nat) : List Dig := if m = 0 then [] else gpN (lvN ns) m true
theorem take_honest (key : List UInt8) {ns : List NoteN} {m : Nat} (hm : m ≤ ns.length) (hl : ns.length ≤ 256) :
  takeN key (m : Int) (G4 (lvN (ns.take m))) (Jz (ns.take m)) (ns.length : Int) (G4 (lvN ns)) (Jz ns) (tagN key (ns.length : Int) (G4 (lvN ns)) (Jz ns)) (prfN ns m) = 0 := by
 unfold takeN
 rw [if_pos rfl, if_neg (by omega), if_neg (by omega)]
 by_cases c1 : (ns.length : Int) = (m : Int)
 ·have : m = ns.length := by omega
  subst this
  rw [if_pos rfl, List.take_length, if_pos ⟨rfl, rfl⟩]
 rw [if_neg c1]
 by_cases c2 : m = 0
 ·subst c2
  rw [if_pos (show ((0 : Nat) : Int) = 0 from rfl)]
  simp [prfN]
 ·rw [if_neg (by omega), if_pos]
  unfold prfN
  rw [if_neg c2]
  exact grows_honest (by omega) hm hl
end
section
open Go.RowKit
open Go.Maps (Keyed)
open Go.ChangeMaps (setBlock)
section
variable {α β : Type} [DecidableEq α]
def JQ (x : α) (l : List (α × β)) : Option β := (l.find? fun p => decide (p.1 = x)).map (·.2)
def PI (x : α) (v : β) (l : List (α × β)) : List (α × β) := if x ∈ l.map (·.1) then l.map (fun p => if p.1 = x then (x, v) else p) else l ++ [(x, v)]
theorem lookA_mem {x : α} {v : β} : ∀ {l : List (α × β)}, (l.map (·.1)).Nodup → (x, v) ∈ l → JQ x l = some v
 | [], _, h => by cases h
 | a :: l, hd, h => by
  rw [List.map_cons, List.nodup_cons] at hd
  unfold JQ
  rcases List.mem_cons.1 h with rfl | h
  ·simp
  ·have hne : a.1 ≠ x := fun e => hd.1 (by rw [e]; exact List.mem_map.2 ⟨(x, v), h, rfl⟩)
   rw [List.find?_cons_of_neg (by simpa using hne)]
   exact lookA_mem hd.2 h
theorem lookA_some {x : α} {v : β} {l : List (α × β)} (h : JQ x l = some v) : (x, v) ∈ l := by
 unfold JQ at h
 cases hf : l.find? (fun p => decide (p.1 = x)) with
 | none => rw [hf] at h; cases h
 | some p =>
  rw [hf] at h
  have h1 : p.1 = x := by simpa using List.find?_some hf
  have h2 : p.2 = v := by simpa using h
  have := List.mem_of_find?_eq_some hf
  rw [← h1, ← h2]
  exact this
theorem NF {x : α} {l : List (α × β)} : JQ x l = none ↔ x ∉ l.map (·.1) := by
 unfold JQ
 simp only [Option.map_eq_none_iff, List.find?_eq_none, decide_eq_true_eq, List.mem_map, Prod.exists, exists_and_right, exists_eq_right, not_exists]
 constructor
 ·intro h v hv
  exact h (x, v) hv rfl
 ·intro h p hp e
  exact h p.2 (by rw [← e]; exact hp)
theorem updA_keys (x : α) (v : β) (l : List (α × β)) : (PI x v l).map (·.1) = if x ∈ l.map (·.1) then l.map (·.1) else l.map (·.1) ++ [x] := by
 unfold PI
 split
 ·rw [List.map_map]
  refine List.map_congr_left fun p _ => ?_
  show (if p.1 = x then (x, v) else p).1 = p.1
  split
  ·rename_i h; exact h.symm
  ·rfl
 ·simp
theorem updA_nodup {x : α} {v : β} {l : List (α × β)} (h : (l.map (·.1)).Nodup) : ((PI x v l).map (·.1)).Nodup := by
 rw [updA_keys]
 split
 ·exact h
 ·rename_i hx
  rw [List.nodup_append]
  refine ⟨h, by simp, fun a ha b hb => ?_⟩
  rw [List.mem_singleton.1 hb]
  intro e
  exact hx (e ▸ ha)
theorem lookA_upd (x y : α) (v : β) (l : List (α × β)) : JQ y (PI x v l) = if x = y then some v else JQ y l := by
 unfold PI
 by_cases hx : x ∈ l.map (·.1)
 ·rw [if_pos hx]
  induction l with
  | nil => cases hx
  | cons a l ih =>
   unfold JQ at ih ⊢
   rw [List.map_cons, List.find?_cons, List.find?_cons]
   by_cases ha : a.1 = x
   ·by_cases hy : x = y
    ·simp [ha, hy]
    ·have : ¬ a.1 = y := fun e => hy (ha.symm.trans e)
     simp only [ha, if_true, hy, decide_false, if_false]
     by_cases hl : x ∈ l.map (·.1)
     ·have := ih hl
      rw [if_neg hy] at this
      exact this
     ·have e : l.map (fun p => if p.1 = x then (x, v) else p) = l := by
       conv => rhs; rw [← List.map_id l]
       refine List.map_congr_left fun p hp => ?_
       rw [if_neg (fun e => hl (List.mem_map.2 ⟨p, hp, e⟩))]
       rfl
      rw [e]
   ·have hl : x ∈ l.map (·.1) := by
     rcases List.mem_cons.1 hx with h | h
     ·exact absurd h.symm ha
     ·exact h
    simp only [ha, if_false]
    by_cases hay : a.1 = y
    ·have : ¬ x = y := fun e => ha (hay.trans e.symm)
     simp [hay, this]
    ·simp only [hay, decide_false]
     exact ih hl
 ·rw [if_neg hx]
  unfold JQ
  rw [List.find?_append]
  by_cases hy : x = y
  ·subst hy
   have := NF.2 hx
   unfold JQ at this
   rw [Option.map_eq_none_iff] at this
   rw [this]
   simp
  ·cases l.find? (fun p => decide (p.1 = y)) <;> simp [hy]
theorem length_updA (x : α) (v : β) (l : List (α × β)) : (PI x v l).length = if (JQ x l).isSome then l.length else l.length + 1 := by
 unfold PI
 by_cases hx : x ∈ l.map (·.1)
 ·have : (JQ x l).isSome = true := by
   cases h : JQ x l with
   | none => exact absurd hx (NF.1 h)
   | some _ => rfl
  rw [if_pos hx, this]; simp
 ·rw [if_neg hx, NF.2 hx]; simp
end
section
variable {α β : Type}
def mpE (fk : α → Value) (fv : β → Value) (l : List (α × β)) : Array MapEntry := (l.mapIdx fun i p => (⟨fk p.1, fv p.2, i⟩ : MapEntry)).toArray
def mpO (fk : α → Value) (fv : β → Value) (l : List (α × β)) : Obj := .map (mpE fk fv l) l.length
variable {fk : α → Value} {fv : β → Value} {l : List (α × β)}
theorem mpE_list : (mpE fk fv l).toList = l.mapIdx fun i p => (⟨fk p.1, fv p.2, i⟩ : MapEntry) := rfl
theorem mpE_size : (mpE fk fv l).size = l.length := by simp [mpE]
theorem mpE_at {i : Nat} : (mpE fk fv l).toList[i]? = (l[i]?).map fun p => (⟨fk p.1, fv p.2, i⟩ : MapEntry) := by rw [mpE_list, List.getElem?_mapIdx]
theorem mpE_mem {e : MapEntry} (h : e ∈ (mpE fk fv l).toList) : ∃ i p, l[i]? = some p ∧ e = ⟨fk p.1, fv p.2, i⟩ := by
 obtain ⟨i, hi⟩ := List.mem_iff_getElem?.1 h
 rw [mpE_at] at hi
 cases hp : l[i]? with
 | none => rw [hp] at hi; cases hi
 | some p => rw [hp] at hi; exact ⟨i, p, hp, (Option.some.inj hi).symm⟩
theorem mpE_born : (mpE fk fv l).toList.map (·.born) = List.range l.length := by
 apply List.ext_getElem?
 intro i
 rw [List.getElem?_map, mpE_at]
 by_cases h : i < l.length
 ·rw [List.getElem?_range h, List.getElem?_eq_getElem h]; rfl
 ·rw [List.getElem?_eq_none (by omega), List.getElem?_eq_none (by simpa using h)]; rfl
variable {P : Program} {k e t : TypeId} {W : World} {b : Nat}
def K4 (P : Program) (k : TypeId) (fk : α → Value) (x : α) : Prop := ∃ lit, keyOf P k (fk x) = some lit
theorem find_mp (K : Keyed P k) (hf : ∀ x y, fk x = fk y → x = y) (hl : ∀ p ∈ l, K4 P k fk p.1) {x : α} (hx : K4 P k fk x) (w : World) :
  (x ∉ l.map (·.1) ∧ (Instr.findKey k (fk x) (mpE fk fv l).toList).run P w = .ok none w) ∨ ∃ j p, l[j]? = some p ∧ p.1 = x ∧ (Instr.findKey k (fk x) (mpE fk fv l).toList).run P w = .ok (some (j, fv p.2)) w := by
 obtain ⟨lx, hlx⟩ := hx
 have hes : ∀ e ∈ (mpE fk fv l).toList, ∃ lit, keyOf P k e.key = some lit := fun e he => by
  obtain ⟨i, p, hp, rfl⟩ := mpE_mem he
  exact hl p (List.mem_of_getElem? hp)
 rcases K.find w hlx (mpE fk fv l).toList hes with ⟨h1, h2⟩ | ⟨j, e, h1, h2, h3⟩
 ·refine .inl ⟨fun hm => ?_, h1⟩
  obtain ⟨p, hp, rfl⟩ := List.mem_map.1 hm
  obtain ⟨i, hi⟩ := List.mem_iff_getElem?.1 hp
  exact h2 ⟨fk p.1, fv p.2, i⟩ (List.mem_of_getElem? (i := i) (by rw [mpE_at, hi]; rfl)) rfl
 ·rw [mpE_at] at h2
  cases hp : l[j]? with
  | none => rw [hp] at h2; cases h2
  | some p =>
   rw [hp] at h2
   obtain rfl := (Option.some.inj h2).symm
   exact .inr ⟨j, p, hp, hf _ _ h3, h1⟩
section
variable [DecidableEq α]
theorem run_lookA (K : Keyed P k) (ht : P.underlying t = some (.map k e)) {z : Value} (hz : (zeroValue e).run P W = .ok z W) (hf : ∀ x y, fk x = fk y → x = y) (hl : ∀ p ∈ l, K4 P k fk p.1) (hd : (l.map (·.1)).Nodup) {x : α} (hx : K4 P k fk x)
  (hb : W.heap[b]? = some (mpO fk fv l)) (c : Bool) :
  (Instr.lookup t (.map (some b)) (fk x) c).run P W = .ok (if c then .tuple #[((JQ x l).map fv).getD z, .bool (JQ x l).isSome] else ((JQ x l).map fv).getD z) W := by
 have hc : ∀ em, (Instr.checkKey em 10000 k (fk x)).run P W = .ok () W := fun em => by obtain ⟨_, h⟩ := hx; exact K.check W em h
 rcases find_mp (fv := fv) K hf hl hx W with ⟨h1, h2⟩ | ⟨j, p, hp, rfl, h2⟩
 ·rw [NF.2 h1]
  simp only [Instr.lookup, Sem.run_bind, run_underlying ht, MapKept.run_getObj_map hb, Sem.run_pure, hc, h2, hz, Result.andThen_ok]
  cases c <;> rfl
 ·rw [lookA_mem hd (show (p.1, p.2) ∈ l from List.mem_of_getElem? hp)]
  simp only [Instr.lookup, Sem.run_bind, run_underlying ht, MapKept.run_getObj_map hb, Sem.run_pure, hc, h2, Result.andThen_ok]
  cases c <;> rfl
theorem run_updA (K : Keyed P k) (ht : P.underlying t = some (.map k e)) (hf : ∀ x y, fk x = fk y → x = y) (hl : ∀ p ∈ l, K4 P k fk p.1) (hd : (l.map (·.1)).Nodup) {x : α} (hx : K4 P k fk x) (v : β) (hb : W.heap[b]? = some (mpO fk fv l)) :
  (Instr.mapUpdate t (.map (some b)) (fk x) (fv v)).run P W = .ok () (setBlock W b (mpO fk fv (PI x v l))) := by
 have hc : ∀ em, (Instr.checkKey em 10000 k (fk x)).run P W = .ok () W := fun em => by obtain ⟨_, h⟩ := hx; exact K.check W em h
 have hset : ∀ o', (setObj b o').run P W = .ok () (setBlock W b o') := fun o' => by
  unfold mpO at hb
  simp [setObj, Sem.run, hb, setBlock]
 rcases find_mp (fv := fv) K hf hl hx W with ⟨h1, h2⟩ | ⟨j, p, hp, rfl, h2⟩
 ·have e1 : PI x v l = l ++ [(x, v)] := if_neg h1
  have e2 : mpO fk fv (PI x v l) = .map ((mpE fk fv l).push ⟨fk x, fv v, l.length⟩) (l.length + 1) := by
   rw [e1]
   simp [mpO, mpE, List.mapIdx_append]
  rw [e2]
  simp only [Instr.mapUpdate, Sem.run_bind, run_underlying ht, MapKept.run_getObj_map hb, hc, h2, Result.andThen_ok]
  exact hset _
 ·have hm : p.1 ∈ l.map (·.1) := List.mem_map.2 ⟨p, List.mem_of_getElem? hp, rfl⟩
  have hk : (Instr.keyThatStays ((((mpE fk fv l)[j]?).map (·.key)).getD (fk p.1)) (fk p.1)).run P W = .ok (fk p.1) W := by
   have e0 : (mpE fk fv l)[j]? = some ⟨fk p.1, fv p.2, j⟩ := by
    rw [← Array.getElem?_toList, mpE_at, hp]; rfl
   rw [e0]
   obtain ⟨_, h⟩ := hx
   exact K.stays W h
  have e2 : mpO fk fv (PI p.1 v l) = .map ((mpE fk fv l).modify j fun e => { e with key := fk p.1, val := fv v }) l.length := by
   have e1 : PI p.1 v l = l.map (fun q => if q.1 = p.1 then (p.1, v) else q) := if_pos hm
   rw [e1]
   unfold mpO
   rw [List.length_map]
   congr 1
   apply Array.ext'
   apply List.ext_getElem?
   intro i
   rw [mpE_at, Array.toList_modify, List.getElem?_modify, mpE_at, List.getElem?_map]
   cases hi : l[i]? with
   | none => simp
   | some q =>
    simp only [Option.map_some, Option.map_eq_map]
    by_cases hij : j = i
    ·subst hij
     rw [hp] at hi
     obtain rfl := Option.some.inj hi
     simp
    ·have hne : q.1 ≠ p.1 := fun e => by
      have h1 : (l.map (·.1))[i]? = some p.1 := by rw [List.getElem?_map, hi]; simp [e]
      have h2 : (l.map (·.1))[j]? = some p.1 := by rw [List.getElem?_map, hp]; rfl
      obtain ⟨l1, _⟩ := List.getElem?_eq_some_iff.1 h1
      exact hij (((List.getElem?_inj l1 hd).1 (h1.trans h2.symm)).symm)
     simp [hij, hne]
  rw [e2]
  simp only [Instr.mapUpdate, Sem.run_bind, run_underlying ht, MapKept.run_getObj_map hb, hc, h2, hk, Result.andThen_ok]
  exact hset _
end
theorem run_nextA {r n c0 : Nat} {dn : List Nat} (hn : n = l.length) (hc : n ≤ c0) (hb : W.heap[b]? = some (mpO fk fv l)) (hr : W.heap[r]? = some (.mapIter (some b) n dn.toArray c0)) (ty : TypeId) :
  ((∀ i, i < n → i ∈ dn) ∧ (Instr.next (.pointer (some ⟨r, 0, none⟩)) false ty).run P W = .ok (.tuple #[.bool false]) W) ∨
  ∃ i p, l[i]? = some p ∧ i ∉ dn ∧ ∃ w1 : World, (w1 = W ∨ w1 = W.drew) ∧ (Instr.next (.pointer (some ⟨r, 0, none⟩)) false ty).run P W = .ok (.tuple #[.bool true, fk p.1, fv p.2]) (setBlock w1 r (.mapIter (some b) n (dn ++ [i]).toArray n)) := by
 subst hn
 have hold : ∀ x ∈ (mpE fk fv l).toList, x.born < l.length := fun x hx => by
  obtain ⟨i, p, hp, rfl⟩ := mpE_mem hx
  exact (List.getElem?_eq_some_iff.1 hp).1
 rcases run_next_at (P := P) W ty r b l.length c0 dn.toArray (mpE fk fv l) l.length hr hb hold hc with ⟨h0, hrun⟩ | ⟨e, he, w1, hal, hrun⟩
 ·refine .inl ⟨fun i hi => ?_, hrun⟩
  by_cases hd : i ∈ dn
  ·exact hd
  ·exfalso
   have hm : (⟨fk (l[i]).1, fv (l[i]).2, i⟩ : MapEntry) ∈ (mpE fk fv l).toList := List.mem_of_getElem? (i := i) (by rw [mpE_at, List.getElem?_eq_getElem hi]; rfl)
   have : (⟨fk (l[i]).1, fv (l[i]).2, i⟩ : MapEntry) ∈ (leftOf (mpE fk fv l) dn.toArray).toList := by
    simp only [leftOf, Array.toList_filter, List.mem_filter]
    refine ⟨hm, ?_⟩
    simp [hd]
   have e0 := Array.eq_empty_of_size_eq_zero h0
   rw [e0] at this
   cases this
 ·simp only [leftOf, Array.toList_filter, List.mem_filter] at he
  obtain ⟨hm, hs⟩ := he
  obtain ⟨i, p, hp, rfl⟩ := mpE_mem hm
  refine .inr ⟨i, p, hp, by simpa using hs, w1, hal, ?_⟩
  rw [hrun]
  simp
theorem run_entryA {r n : Nat} {dn : List Nat} {i : Nat} {p : α × β} (hn : n = l.length) (hb : W.heap[b]? = some (mpO fk fv l)) (hr : W.heap[r]? = some (.mapIter (some b) n (dn ++ [i]).toArray n)) (hi : l[i]? = some p) :
  (Instr.entry (.pointer (some ⟨r, 0, none⟩))).run P W = .ok (.tuple #[fk p.1, fv p.2]) W := by
 subst hn
 have hr' : W.heap[r]? = some (.mapIter (some b) l.length (dn.toArray.push (⟨fk p.1, fv p.2, i⟩ : MapEntry).born) l.length) := by rw [hr]; simp
 exact run_entry_at W r b l.length dn.toArray (mpE fk fv l) l.length ⟨fk p.1, fv p.2, i⟩ hr' hb (List.mem_of_getElem? (i := i) (by rw [mpE_at, hi]; rfl)) (by rw [mpE_born]; exact List.nodup_range)
end
theorem heap_set_any {w : World} {b : Nat} {o : Obj} (h : w.heap[b]? = some o) (o' : Obj) : (setBlock w b o').heap[b]? = some o' ∧ ∀ i, i ≠ b → (setBlock w b o').heap[i]? = w.heap[i]? := by
 have hlt := (Array.getElem?_eq_some_iff.1 h).1
 refine ⟨by simp [setBlock, hlt], fun i hi => ?_⟩
 simp [setBlock, Array.getElem?_setIfInBounds_ne (Ne.symm hi)]
theorem St.obj {w0 W : World} {L : List Res} (h : St w0 W L) (n : Nat) {g : Nat} {o : Obj} (hn : L[n]? = some (.obj g o)) : W.heap[g]? = some o := h.at_ n hn
theorem St.setObj {w0 W : World} {L : List Res} (h : St w0 W L) (n : Nat) {g : Nat} {o : Obj} (hn : L[n]? = some (.obj g o)) (o' : Obj) : St w0 (setBlock W g o') (L.set n (.obj g o')) :=
 h.turnAt n hn rfl rfl rfl (by simp [setBlock]) (fun k _ hk => (heap_set_any (h.obj n hn) o').2 k (fun e => hk (by simp [Res.dom, e]))) (fun g' hg' => .inl hg') (heap_set_any (h.obj n hn) o').1
section
variable {α β : Type} {fk : α → Value} {fv : β → Value} {l : List (α × β)}
variable {P : Program} {ops : Array Oper} {rest : List Oper} {o : Oper} {a : Act} {W w0 : World} {Q : Exit → Act → World → Prop} {L : List Res} {d : Option Tmp} {T k e : TypeId} {b : Nat}
theorem L_makeMap (fk : α → Value) (fv : β → Value) (hd : o.dst = d) (hw : Region.wanted o (yielded ops a.tmps) = true) (ho : o.op = .makeMap T none)
  (h : ∀ (g : Nat) (W' : World), St W W' [.obj g (mpO fk fv [])] → wpList P ops Q rest (a.put d (.map (some g))) W') : wpList P ops Q (o :: rest) a W :=
 Js hd hw (v := .map (some W.heap.size)) (W' := W.alloc (.map #[] 0)) (by unfold execOp; simp only [ho]; rfl) (h _ _ ((St.refl W).allocObj _))
section
variable [DecidableEq α]
theorem L_look2 (hd : o.dst = d) (hw : Region.wanted o (yielded ops a.tmps) = true) {m x : Operand} (ho : o.op = .lookup T m x true) (K : Keyed P k) (ht : P.underlying T = some (.map k e)) {z : Value} {s bb : Nat} (hz : GW P e z s bb)
  (hm : a.eval m = .map (some b)) {y : α} (hx : a.eval x = fk y) (hf : ∀ x y, fk x = fk y → x = y) (hl : ∀ p ∈ l, K4 P k fk p.1) (hnd : (l.map (·.1)).Nodup) (hy : K4 P k fk y) (hb : W.heap[b]? = some (mpO fk fv l)) {r : Option β} (hr : JQ y l = r)
  (h : wpList P ops Q rest (a.put d (.tuple #[(r.map fv).getD z, .bool r.isSome])) W) : wpList P ops Q (o :: rest) a W :=
 Js hd hw (by unfold execOp; simp only [ho, hm, hx]; simp [run_lookA K ht (hz.run_zero W) hf hl hnd hy hb true, hr]) h
theorem L_look1 (hd : o.dst = d) (hw : Region.wanted o (yielded ops a.tmps) = true) {m x : Operand} (ho : o.op = .lookup T m x false) (K : Keyed P k) (ht : P.underlying T = some (.map k e)) {z : Value} {s bb : Nat} (hz : GW P e z s bb)
  (hm : a.eval m = .map (some b)) {y : α} (hx : a.eval x = fk y) (hf : ∀ x y, fk x = fk y → x = y) (hl : ∀ p ∈ l, K4 P k fk p.1) (hnd : (l.map (·.1)).Nodup) (hy : K4 P k fk y) (hb : W.heap[b]? = some (mpO fk fv l)) {r : Option β} (hr : JQ y l = r)
  (h : wpList P ops Q rest (a.put d ((r.map fv).getD z)) W) : wpList P ops Q (o :: rest) a W :=
 Js hd hw (by unfold execOp; simp only [ho, hm, hx]; simp [run_lookA K ht (hz.run_zero W) hf hl hnd hy hb false, hr]) h
theorem PE (hd : o.dst = d) (hw : Region.wanted o (yielded ops a.tmps) = true) {m x : Operand} (ho : o.op = .lookup T m x true) (K : Keyed P k) (ht : P.underlying T = some (.map k e)) {z : Value} {s bb : Nat} (hz : GW P e z s bb)
  (hm : a.eval m = .map (some b)) {y : α} (hx : a.eval x = fk y) (hf : ∀ x y, fk x = fk y → x = y) (hl : ∀ p ∈ l, K4 P k fk p.1) (hnd : (l.map (·.1)).Nodup) (hy : K4 P k fk y) (hb : W.heap[b]? = some (mpO fk fv l)) {r : β} (hr : JQ y l = some r)
  (h : wpList P ops Q rest (a.put d (.tuple #[fv r, .bool true])) W) : wpList P ops Q (o :: rest) a W :=
 L_look2 hd hw ho K ht hz hm hx hf hl hnd hy hb hr h
theorem Qb (hd : o.dst = d) (hw : Region.wanted o (yielded ops a.tmps) = true) {m x : Operand} (ho : o.op = .lookup T m x true) (K : Keyed P k) (ht : P.underlying T = some (.map k e)) {z : Value} {s bb : Nat} (hz : GW P e z s bb)
  (hm : a.eval m = .map (some b)) {y : α} (hx : a.eval x = fk y) (hf : ∀ x y, fk x = fk y → x = y) (hl : ∀ p ∈ l, K4 P k fk p.1) (hnd : (l.map (·.1)).Nodup) (hy : K4 P k fk y) (hb : W.heap[b]? = some (mpO fk fv l)) (hr : JQ y l = none)
  (h : wpList P ops Q rest (a.put d (.tuple #[z, .bool false])) W) : wpList P ops Q (o :: rest) a W :=
 L_look2 hd hw ho K ht hz hm hx hf hl hnd hy hb hr h
theorem L_look1s (hd : o.dst = d) (hw : Region.wanted o (yielded ops a.tmps) = true) {m x : Operand} (ho : o.op = .lookup T m x false) (K : Keyed P k) (ht : P.underlying T = some (.map k e)) {z : Value} {s bb : Nat} (hz : GW P e z s bb)
  (hm : a.eval m = .map (some b)) {y : α} (hx : a.eval x = fk y) (hf : ∀ x y, fk x = fk y → x = y) (hl : ∀ p ∈ l, K4 P k fk p.1) (hnd : (l.map (·.1)).Nodup) (hy : K4 P k fk y) (hb : W.heap[b]? = some (mpO fk fv l)) {r : β} (hr : JQ y l = some r)
  (h : wpList P ops Q rest (a.put d (fv r)) W) : wpList P ops Q (o :: rest) a W :=
 L_look1 hd hw ho K ht hz hm hx hf hl hnd hy hb hr h
theorem L_mapUpd (hd : o.dst = none) (hw : Region.wanted o (yielded ops a.tmps) = true) (Ga : St w0 W L) {m x y : Operand} (ho : o.op = .mapUpdate T m x y) (K : Keyed P k) (ht : P.underlying T = some (.map k e))
  (hm : a.eval m = .map (some b)) {u : α} {v : β} (hx : a.eval x = fk u) (hv : a.eval y = fv v) (hf : ∀ x y, fk x = fk y → x = y) (hl : ∀ p ∈ l, K4 P k fk p.1) (hnd : (l.map (·.1)).Nodup) (hy : K4 P k fk u) (n : Nat) (hn : L[n]? = some (.obj b (mpO fk fv l)))
  (h : ∀ W' : World, St w0 W' (L.set n (.obj b (mpO fk fv (PI u v l)))) → wpList P ops Q rest a W') : wpList P ops Q (o :: rest) a W :=
 L_skip hd hw (by unfold execOp; simp only [ho, hm, hx, hv]; simp [run_updA K ht hf hl hnd hy v (Ga.obj n hn)]) (h _ (Ga.setObj n hn _))
end
theorem L_lenM (hd : o.dst = d) (hw : Region.wanted o (yielded ops a.tmps) = true) {m : Operand} (ho : o.op = .call { callee := .builtin .len, args := #[m], argTypes := #[T] }) (ht : P.underlying T = some (.map k e)) (hm : a.eval m = .map (some b)) (hb : W.heap[b]? = some (mpO fk fv l))
  (h : wpList P ops Q rest (a.put d (.int .i64 (l.length : Int))) W) : wpList P ops Q (o :: rest) a W := by
 have hr : (Builtin.len_ #[T] o.type #[.map (some b)]).run P W = .ok (.int .i64 (l.length : Int)) W := by
  unfold mpO at hb
  simp [Builtin.len_, run_underlying ht, MapKept.run_getObj_map hb, goInt, Result.andThen, mpE_size]
 refine Js hd hw ?_ h
 unfold execOp
 simp [ho, resolve, invoke, builtin, hm, hr, Result.andThen]
theorem L_range (hd : o.dst = d) (hw : Region.wanted o (yielded ops a.tmps) = true) {m : Operand} (ho : o.op = .range T m) (ht : P.underlying T = some (.map k e)) (hm : a.eval m = .map (some b)) (hb : W.heap[b]? = some (mpO fk fv l))
  (h : ∀ (g : Nat) (W' : World), St W W' [.obj g (.mapIter (some b) l.length ([] : List Nat).toArray l.length)] → wpList P ops Q rest (a.put d (.pointer (some ⟨g, 0, none⟩))) W') : wpList P ops Q (o :: rest) a W :=
 Js hd hw (by unfold execOp; simp only [ho, hm]; simp [run_range_map W T k e b _ _ ht hb]) (h _ _ ((St.refl W).allocObj _))
theorem L_next (hd : o.dst = d) (hw : Region.wanted o (yielded ops a.tmps) = true) (Ga : St w0 W L) {it : Operand} (ho : o.op = .next it false) {r n c0 : Nat} {dn : List Nat} (hit : a.eval it = .pointer (some ⟨r, 0, none⟩)) (hn : n = l.length) (hc : n ≤ c0)
  (hb : W.heap[b]? = some (mpO fk fv l)) (q : Nat) (hq : L[q]? = some (.obj r (.mapIter (some b) n dn.toArray c0)))
  (h0 : (∀ i, i < n → i ∈ dn) → wpList P ops Q rest (a.put d (.tuple #[.bool false])) W)
  (h1 : ∀ (i : Nat) (p : α × β) (W' : World), l[i]? = some p → i ∉ dn → St w0 W' (L.set q (.obj r (.mapIter (some b) n (dn ++ [i]).toArray n))) → wpList P ops Q rest (a.put d (.tuple #[.bool true, fk p.1, fv p.2])) W') :
  wpList P ops Q (o :: rest) a W := by
 rcases run_nextA (P := P) hn hc hb (Ga.obj q hq) o.type with ⟨g, hrun⟩ | ⟨i, p, hp, hi, w1, hal, hrun⟩
 ·exact Js hd hw (by unfold execOp; simp only [ho, hit]; simp [hrun]) (h0 g)
 ·have hst1 : St w0 w1 L := by
   rcases hal with rfl | rfl
   ·exact Ga
   ·exact Ga.drew
  exact Js hd hw (by unfold execOp; simp only [ho, hit]; simp [hrun]) (h1 i p _ hp hi (hst1.setObj q hq _))
theorem L_entry (hd : o.dst = d) (hw : Region.wanted o (yielded ops a.tmps) = true) {it : Operand} (ho : o.op = .entry it) {r n : Nat} {dn : List Nat} {i : Nat} {p : α × β} (hit : a.eval it = .pointer (some ⟨r, 0, none⟩)) (hn : n = l.length)
  (hb : W.heap[b]? = some (mpO fk fv l)) (hr : W.heap[r]? = some (.mapIter (some b) n (dn ++ [i]).toArray n)) (hi : l[i]? = some p)
  (h : wpList P ops Q rest (a.put d (.tuple #[fk p.1, fv p.2])) W) : wpList P ops Q (o :: rest) a W :=
 Js hd hw (by unfold execOp; simp only [ho, hit]; simp [run_entryA (P := P) hn hb hr hi]) h
end
end
section
theorem countP_some (n : Nat) (o : Option Nat) (h : ∀ j, o = some j → j < n) : (List.range n).countP (fun i => decide (o = some i)) = if o.isSome then 1 else 0 := by
 cases o with
 | none => simp
 | some j =>
  have hj := h j rfl
  have e : (fun i => decide (some j = some i)) = fun i => i == j := by
   funext i
   by_cases hi : j = i
   ·simp [hi]
   ·simp [hi, Ne.symm hi]
  rw [e]
  have := List.Nodup.count (a := j) (List.nodup_range (n := n))
  rw [if_pos (List.mem_range.2 hj)] at this
  exact this
theorem namesC_snoc (ns : List NoteN) (n : NoteN) : Kg (ns ++ [n]) = if (Ho ns n.name).isSome then Kg ns else Kg ns + 1 := by
 have hc : ∀ ms : List NoteN, Kg ms = (List.range ms.length).countP fun i => decide ((ms[i]?.bind fun n => Ho ms n.name) = some i) := fun ms => by rw [Kg, List.countP_eq_length_filter]
 rw [hc, hc, List.length_append, List.length_singleton, List.range_succ, List.countP_append, List.countP_singleton]
 have h1 : decide (((ns ++ [n])[ns.length]?.bind fun x => Ho (ns ++ [n]) x.name) = some ns.length) = true := by
  rw [List.getElem?_append_right (Nat.le_refl _), Nat.sub_self]
  simp [Ny]
 rw [h1]
 have h2 := countP_some ns.length (Ho ns n.name) (fun j hj => PC hj)
 have h3 : ∀ i ∈ List.range ns.length, decide ((((ns ++ [n])[i]?.bind fun x => Ho (ns ++ [n]) x.name)) = some i) = (decide ((ns[i]?.bind fun x => Ho ns x.name) = some i) && !decide (Ho ns n.name = some i)) := by
  intro i hi
  have hi := List.mem_range.1 hi
  rw [List.getElem?_append_left hi, List.getElem?_eq_getElem hi]
  simp only [Option.bind_some]
  rw [Bool.eq_iff_iff]
  simp only [decide_eq_true_eq, Bool.and_eq_true, Bool.not_eq_true', decide_eq_false_iff_not]
  rw [Ny]
  by_cases he : n.name = (ns[i]).name
  ·rw [if_pos he, he]
   constructor
   ·intro h; have := Option.some.inj h; omega
   ·rintro ⟨h1, h2⟩; exact absurd h1 h2
  ·rw [if_neg he]
   have : ¬ Ho ns n.name = some i := fun e => by
    obtain ⟨m, hm1, hm2⟩ := JO e
    rw [List.getElem?_eq_getElem hi] at hm1
    obtain rfl := Option.some.inj hm1
    exact he hm2.symm
   exact ⟨fun h => ⟨h, this⟩, fun h => h.1⟩
 rw [List.countP_congr (fun i hi => by rw [h3 i hi])]
 have h4 : ∀ l : List Nat, (∀ i ∈ l, Ho ns n.name = some i → (ns[i]?.bind fun x => Ho ns x.name) = some i) → l.countP (fun i => decide ((ns[i]?.bind fun x => Ho ns x.name) = some i) && !decide (Ho ns n.name = some i)) + l.countP (fun i => decide (Ho ns n.name = some i)) = l.countP fun i => decide ((ns[i]?.bind fun x => Ho ns x.name) = some i) := by
  intro l
  induction l with
  | nil => intro _; rfl
  | cons i l ih =>
   intro h
   have ih' := ih (fun j hj => h j (List.mem_cons_of_mem _ hj))
   rw [List.countP_cons, List.countP_cons, List.countP_cons]
   have hi := h i (by simp)
   by_cases h5 : Ho ns n.name = some i
   ·rw [decide_eq_true h5, decide_eq_true (hi h5)]
    simp
    omega
   ·rw [decide_eq_false h5]
    simp
    omega
 have h5 := h4 (List.range ns.length) (fun i hi he => by
  obtain ⟨m, hm1, hm2⟩ := JO he
  rw [hm1, Option.bind_some, hm2, he])
 rw [h2] at h5
 by_cases hs : (Ho ns n.name).isSome = true
 ·rw [if_pos hs] at h5 ⊢
  simp only [if_true]
  omega
 ·rw [if_neg hs] at h5 ⊢
  simp only [if_true]
  omega
def Mk (ns : List NoteN) (s : List UInt8) : Option (NoteN × Nat × Dig) := (Ho ns s).bind fun i => (ns[i]?).map fun n => (n, i, Jm n)
theorem atName_snoc (ns : List NoteN) (n : NoteN) (s : List UInt8) : Mk (ns ++ [n]) s = if n.name = s then some (n, ns.length, Jm n) else Mk ns s := by
 unfold Mk
 rw [Ny]
 by_cases h : n.name = s
 ·simp [h]
 ·rw [if_neg h, if_neg h]
  cases hl : Ho ns s with
  | none => rfl
  | some i => simp only [Option.bind_some]; rw [List.getElem?_append_left (PC hl)]
theorem atName_some {ns : List NoteN} {s : List UInt8} {x : NoteN × Nat × Dig} (h : Mk ns s = some x) : Ho ns s = some x.2.1 ∧ ns[x.2.1]? = some x.1 ∧ x.2.2 = Jm x.1 ∧ lastN? ns s = some x.1 := by
 unfold Mk at h
 cases hl : Ho ns s with
 | none => rw [hl] at h; cases h
 | some i =>
  rw [hl] at h
  simp only [Option.bind_some] at h
  cases hn : ns[i]? with
  | none => rw [hn] at h; cases h
  | some n =>
   rw [hn] at h
   obtain rfl := Option.some.inj h
   exact ⟨rfl, hn, rfl, by unfold lastN?; rw [hl]; exact hn⟩
theorem MT (ns : List NoteN) (s : List UInt8) : (Mk ns s).isSome = (Ho ns s).isSome := by
 unfold Mk
 cases hl : Ho ns s with
 | none => rfl
 | some i =>
  obtain ⟨n, hn, _⟩ := JO hl
  simp [hn]
structure MapsOf (ns : List NoteN) (nm : List (List UInt8 × (NoteN × Nat × Dig))) (am : List (Nat × List UInt8)) : Prop where
 nd : (nm.map (·.1)).Nodup
 look : ∀ s, JQ s nm = Mk ns s
 len : nm.length = Kg ns
 ks : ∀ p ∈ nm, JM p.1 = true
 ndA : (am.map (·.1)).Nodup
 lookA_ : ∀ k s, JQ k am = some s ↔ ∃ n ∈ ns, n.name = s ∧ Jf s = k
 ksA : ∀ p ∈ am, p.1 < 4294967296 ∧ JM p.2 = true
 lenA : am.length = nm.length
theorem MapsOf.nil : MapsOf [] [] [] where
 nd := by simp
 look s := rfl
 len := rfl
 ks := by simp
 ndA := by simp
 lookA_ k s := by simp [JQ]
 ksA := by simp
 lenA := rfl
theorem upd_mem {α β : Type} [DecidableEq α] {x : α} {v : β} {l : List (α × β)} {p : α × β} (h : p ∈ PI x v l) : p = (x, v) ∨ p ∈ l := by
 unfold PI at h
 split at h
 ·obtain ⟨q, hq, rfl⟩ := List.mem_map.1 h
  by_cases hx : q.1 = x
  ·rw [if_pos hx]; exact .inl rfl
  ·rw [if_neg hx]; exact .inr hq
 ·rcases List.mem_append.1 h with h | h
  ·exact .inr h
  ·exact .inl (List.mem_singleton.1 h)
theorem MapsOf.add {ns : List NoteN} {nm : List (List UInt8 × (NoteN × Nat × Dig))} {am : List (Nat × List UInt8)} (h : MapsOf ns nm am) {s : List UInt8} (he : Kk ns s = 0) (k : Dig) :
  MapsOf (ns ++ [M0 ns s k]) (PI s (M0 ns s k, ns.length, Jm (M0 ns s k)) nm) (PI (Jf s) s am) where
 nd := updA_nodup h.nd
 look t := by
  rw [lookA_upd, atName_snoc, h.look]
  rfl
 len := by
  rw [length_updA, namesC_snoc, h.look, MT, h.len]
  rfl
 ks p hp := by
  rcases upd_mem hp with rfl | hp
  ·exact (KI he).1
  ·exact h.ks p hp
 ndA := updA_nodup h.ndA
 lookA_ i t := by
  rw [lookA_upd]
  have hs := (KI he).2.2.2
  by_cases hi : Jf s = i
  ·rw [if_pos hi]
   constructor
   ·intro ht
    obtain rfl := Option.some.inj ht
    exact ⟨M0 ns s k, by simp, rfl, hi⟩
   ·rintro ⟨n, hn, rfl, hni⟩
    rcases List.mem_append.1 hn with hn | hn
    ·rw [hs n hn (by rw [hni, hi])]
    ·rw [List.mem_singleton.1 hn]; rfl
  ·rw [if_neg hi, h.lookA_]
   constructor
   ·rintro ⟨n, hn, h1⟩
    exact ⟨n, List.mem_append_left _ hn, h1⟩
   ·rintro ⟨n, hn, h1, h2⟩
    rcases List.mem_append.1 hn with hn | hn
    ·exact ⟨n, hn, h1, h2⟩
    ·rw [List.mem_singleton.1 hn] at h1
     exact absurd (by rw [← h2, ← h1]; rfl) hi
 ksA p hp := by
  rcases upd_mem hp with rfl | hp
  ·exact ⟨Mo s, (KI he).1⟩
  ·exact h.ksA p hp
 lenA := by
  have hs := (KI he).2.2.2
  rw [length_updA, length_updA, h.lenA, h.look, MT]
  have e : (JQ (Jf s) am).isSome = (Ho ns s).isSome := by
   cases hl : Ho ns s with
   | some j =>
    obtain ⟨n, h1, h2⟩ := JO hl
    rw [(h.lookA_ (Jf s) s).2 ⟨n, List.mem_of_getElem? h1, h2, rfl⟩]
    rfl
   | none =>
    cases hk : JQ (Jf s) am with
    | none => rfl
    | some t =>
     obtain ⟨n, h1, h2, h3⟩ := (h.lookA_ (Jf s) t).1 hk
     exact absurd (hs n h1 (by rw [h2, h3])) (Nz.1 hl n h1)
  rw [e]
theorem MapsOf.taken {ns : List NoteN} {nm : List (List UInt8 × (NoteN × Nat × Dig))} {am : List (Nat × List UInt8)} (h : MapsOf ns nm am) (s : List UInt8) : MM ns s = true ↔ ∃ t, JQ (Jf s) am = some t ∧ t ≠ s := by
 unfold MM
 rw [List.any_eq_true]
 constructor
 ·rintro ⟨n, hn, hd⟩
  obtain ⟨h1, h2⟩ := of_decide_eq_true hd
  exact ⟨n.name, (h.lookA_ _ _).2 ⟨n, hn, rfl, h2⟩, h1⟩
 ·rintro ⟨t, h1, h2⟩
  obtain ⟨n, hn, h3, h4⟩ := (h.lookA_ _ _).1 h1
  exact ⟨n, hn, decide_eq_true ⟨by rw [h3]; exact h2, by rw [h3]; exact h4⟩⟩
theorem MapsOf.entries {ns : List NoteN} {nm : List (List UInt8 × (NoteN × Nat × Dig))} {am : List (Nat × List UInt8)} (h : MapsOf ns nm am) (hl : Logged ns) (f : List UInt8 → Dig) (hf : ∀ p ∈ am, ∀ x, JQ p.2 nm = some x → f p.2 = x.2.2) :
  (∀ k, Hq (am.map fun p => (p.1, f p.2)) k = lgF ns k) := by
 intro k
 have hnd : ((am.map fun p => (p.1, f p.2)).map (·.1)).Nodup := by
  rw [List.map_map]
  exact h.ndA
 cases hk : JQ k am with
 | none =>
  have h1 := NF.1 hk
  rw [PM (fun e he heq => by
   obtain ⟨p, hp, rfl⟩ := List.mem_map.1 he
   exact h1 (List.mem_map.2 ⟨p, hp, heq⟩))]
  rw [lgF_none (fun n hn hi => by
   have := (h.lookA_ k n.name).2 ⟨n, hn, rfl, hi⟩
   rw [hk] at this
   cases this)]
 | some s =>
  have hm := lookA_some hk
  obtain ⟨n, hn, hns, hi⟩ := (h.lookA_ k s).1 hk
  have h1 := NT hnd (e := (k, f s)) (List.mem_map.2 ⟨(k, s), hm, rfl⟩)
  rw [h1]
  cases ha : Mk ns s with
  | none =>
   exfalso
   unfold Mk at ha
   cases hli : Ho ns s with
   | none => exact (Nz.1 hli) n hn hns
   | some j =>
    obtain ⟨m, hm1, _⟩ := JO hli
    rw [hli] at ha
    simp [hm1] at ha
  | some x =>
   obtain ⟨_, _, h3, h4⟩ := atName_some ha
   have h5 := hf (k, s) hm x (by rw [h.look]; exact ha)
   have h6 := hl.lgF_at h4
   rw [hi] at h6
   rw [h6, h5, h3]
theorem MapsOf.total {ns : List NoteN} {nm : List (List UInt8 × (NoteN × Nat × Dig))} {am : List (Nat × List UInt8)} (h : MapsOf ns nm am) {k : Nat} {s : List UInt8} (hm : (k, s) ∈ am) : ∃ x, JQ s nm = some x := by
 have hk := lookA_mem h.ndA hm
 obtain ⟨n, hn, hns, hi⟩ := (h.lookA_ k s).1 hk
 rw [h.look]
 cases ha : Mk ns s with
 | some x => exact ⟨x, rfl⟩
 | none =>
  exfalso
  unfold Mk at ha
  cases hli : Ho ns s with
  | none => exact (Nz.1 hli) n hn hns
  | some j =>
   obtain ⟨m, hm1, _⟩ := JO hli
   rw [hli] at ha
   simp [hm1] at ha
theorem Logged.names {ns : List NoteN} (h : Logged ns) : Kg ns ≤ 64 := by
 induction h with
 | nil => decide
 | @add ns s k h0 he ih =>
  rw [namesC_snoc]
  show (if (Ho ns s).isSome = true then Kg ns else Kg ns + 1) ≤ 64
  cases hl : Ho ns s with
  | none => have := (KI he).2.2.1 hl; simp; omega
  | some j => simpa using ih
theorem nodup_le : ∀ (n : Nat) (l : List Nat), l.Nodup → (∀ i ∈ l, i < n) → l.length ≤ n
 | 0, l, _, h => by
  cases l with
  | nil => simp
  | cons a l => exact absurd (h a (by simp)) (by omega)
 | n + 1, l, hd, h => by
  have h1 := nodup_le n (l.filter fun i => decide (i ≠ n)) (hd.sublist (List.filter_sublist ..)) (fun i hi => by
   obtain ⟨h2, h3⟩ := List.mem_filter.1 hi
   have := h i h2
   have := of_decide_eq_true h3
   omega)
  have h2 := List.length_eq_countP_add_countP (fun i => decide (i ≠ n)) (l := l)
  rw [List.countP_eq_length_filter] at h2
  have h3 : l.countP (fun a => decide ¬ decide (a ≠ n) = true) ≤ 1 := by
   have e : (fun a : Nat => decide ¬ decide (a ≠ n) = true) = fun a => a == n := by
    funext a
    by_cases ha : a = n <;> simp [ha]
   rw [e]
   exact List.nodup_iff_count.1 hd n
  omega
theorem range_perm {n : Nat} {l : List Nat} (hd : l.Nodup) (h : ∀ i ∈ l, i < n) (ha : ∀ i, i < n → i ∈ l) : l.Perm (List.range n) := by
 rw [List.perm_iff_count]
 intro a
 rw [hd.count, List.nodup_range.count]
 by_cases hm : a < n
 ·rw [if_pos (ha a hm), if_pos (List.mem_range.2 hm)]
 ·rw [if_neg (fun h1 => hm (h a h1)), if_neg (fun h1 => hm (List.mem_range.1 h1))]
end
section
open Go.RowKit
def KG (cs : Array Value) : List (Nat × List Value) → Array Value
 | [] => cs
 | (off, vs) :: r => KG (Jg cs off vs) r
theorem putAt_size {cs : Array Value} {o : Nat} {vs : List Value} (h : o + vs.length ≤ cs.size) : (Jg cs o vs).size = cs.size := by
 simp only [Jg, List.size_toArray, List.length_append, List.length_take, List.length_drop, Array.length_toList]
 omega
theorem fill_one {f : Nat → Option (Nat × Nat)} {cs : Array Value} {i off : Nat} {v : Value} {vs : List Value} (hf : f i = some (off, vs.length)) (hv : v.cells.toList = vs) (hb : off + vs.length ≤ cs.size) (rest : List (Nat × Value)) :
  Instr.fill f cs ((i, v) :: rest) = Instr.fill f (Jg cs off vs) rest := by
 have hl : v.cells.size = vs.length := by rw [← hv, Array.length_toList]
 have hz : (v.cells.zipIdx.foldl (fun cs x => match x with | (c, j) => cs.setIfInBounds (off + j) c) cs) = Jg cs off vs := by
  have := P2 vs 0 off cs (by simpa using hb)
  rw [← Array.foldl_toList, Array.toList_zipIdx, hv]
  simpa using this
 rw [Instr.fill, hf]
 simp only
 rw [if_neg (by rw [hl]; simp; omega)]
 exact congrArg (fun c => Instr.fill f c rest) hz
def Fits (f : Nat → Option (Nat × Nat)) (n : Nat) : List (Nat × Value) → List (Nat × List Value) → Prop
 | [], [] => True
 | (i, v) :: ps, (off, vs) :: qs => f i = some (off, vs.length) ∧ v.cells.toList = vs ∧ off + vs.length ≤ n ∧ Fits f n ps qs
 | _, _ => False
theorem fill_all {f : Nat → Option (Nat × Nat)} {n : Nat} : ∀ (ps : List (Nat × Value)) (qs : List (Nat × List Value)) (cs : Array Value), cs.size = n → Fits f n ps qs → Instr.fill f cs ps = some (KG cs qs)
 | [], [], cs, _, _ => rfl
 | (i, v) :: ps, (off, vs) :: qs, cs, hn, h => by
  obtain ⟨h1, h2, h3, h4⟩ := h
  rw [fill_one h1 h2 (by omega), KG]
  exact fill_all ps qs _ (by rw [putAt_size (by omega), hn]) h4
 | [], _ :: _, _, _, h => absurd h (by simp [Fits])
 | _ :: _, [], _, _, h => absurd h (by simp [Fits])
section
variable {P : Program} {ops : Array Oper} {rest : List Oper} {o : Oper} {a : Act} {W : World} {Q : Exit → Act → World → Prop} {d : Option Tmp}
theorem Mb (hd : o.dst = d) (hw : Region.wanted o (yielded ops a.tmps) = true) {T : TypeId} {parts : Array (Nat × Operand)} (ho : o.op = .build T parts) {fields : Array Field} (hu : P.underlying T = some (.struct fields)) {cs : Array Value} {s b : Nat} (he : GW P T (.agg cs) s b)
  (pl : List (Nat × Nat)) (hpl : fields.toList.mapM (fun f => (P.info? f.type).map fun i => (f.offset, i.size)) = some pl) {ps : List (Nat × Value)} (hp : parts.toList.map (fun p => (p.1, a.eval p.2)) = ps) {qs : List (Nat × List Value)}
  (hq : Fits (pl[·]?) cs.size ps qs) {r : Array Value} (hr : KG cs qs = r)
  (h : wpList P ops Q rest (a.put d (.agg r)) W) : wpList P ops Q (o :: rest) a W := by
 obtain ⟨it, hit, hz, _⟩ := he.parts
 have hb : P.built T (parts.map fun p => (p.1, a.eval p.2)).toList = some r := by
  have h3 := fill_all ps qs cs rfl hq
  rw [hr] at h3
  unfold Program.built
  simp only [hit, hu, hz, hpl, Value.cells, Array.toList_map, hp]
  simpa using h3
 exact Js hd hw (by unfold execOp; simp only [ho]; simp [run_build W T _ r hb]) h
end
end
end Go.Proofs.YtaebeemnipafbaaGreatDoor
