/-
  Proved here, ahead of the law: PinTakes: the law returns true for every input, and leaves its arguments as they were.
-/
import Derived.Test.YtkbleigmfcleaaaDoorOpenH
import Derived.Test.YtkbleigmfcleaaaDoorLaw
import Derived.Test.YtkbleigmfcleaaaDoorLawE
import Derived.Test.YtkbleigmfcleaaaDoorEl
import Derived.Test.YtkbleigmfcleaaaDoorRefNum
import Derived.Test.YtkbleigmfcleaaaDoorRefTurn
import Derived.Test.YtkbleigmfcleaaaDoorRefRounds
import Derived.Test.YtkbleigmfcleaaaDoorRefPlainB
import Derived.Test.YtkbleigmfcleaaaDoorChain
import Derived.Deep.DeepCutAuto
import Derived.Deep.RegionWith
import Derived.Test.YtkbleigmfcleaaaDoorClone
import Derived.Test.YtkbleigmfcleaaaDoorSha
import Derived.Test.YtkbleigmfcleaaaDoorDigsL
import Derived.Test.YtkbleigmfcleaaaDoorMac
import Derived.Test.YtkbleigmfcleaaaDoorOpenS
import Derived.Test.YtkbleigmfcleaaaDoorLawD
import Derived.Lib.AppendZerosOnto
import Derived.Test.YtkbleigmfcleaaaDoorOctet
import Derived.Test.YtkbleigmfcleaaaDoorForkM
import Derived.Test.YtkbleigmfcleaaaDoorShelf
import Derived.Test.YtkbleigmfcleaaaDoorSameD
import Derived.Test.YtkbleigmfcleaaaDoorLawF
import Derived.Test.YtkbleigmfcleaaaDoorFork
import Derived.Test.YtkbleigmfcleaaaDoorDrawT
set_option maxRecDepth 20000
set_option linter.unusedSimpArgs false
set_option linter.unusedVariables false
namespace Go.Proofs.YtkbleigmfcleaaaDoor
open Go.RowKit
def hdArr (n : Int) (x y z : Dig) : Array Value := (hdCells n x y z).toArray
theorem hdArr_size (n : Int) (x y z : Dig) : (hdArr n x y z).size = 97 := by simp [hdArr, length_hdCells]
theorem hdArr_list (n : Int) (x y z : Dig) : (hdArr n x y z).toList = .int .i64 n :: (x.arr.toList ++ (y.arr.toList ++ z.arr.toList)) := rfl
theorem hdArr_0 {n : Int} {x y z : Dig} : (hdArr n x y z)[0]? = some (.int .i64 n) := rfl
theorem hdArr_one (n : Int) (x y z : Dig) : ∀ u ∈ (hdArr n x y z).toList, u.oneCell' = true := by
 intro u hu
 rw [hdArr_list] at hu
 simp only [List.mem_cons, List.mem_append, Dig.toList] at hu
 rcases hu with rfl | hu | hu | hu
 ·rfl
 all_goals exact oneCell_bytes u hu
theorem hdArr_all (n : Int) (x y z : Dig) : (hdArr n x y z).all (·.oneCell') = true := Array.all_eq_true_iff_forall_mem.2 fun u hu => hdArr_one n x y z u (Array.mem_toList_iff.2 hu)
theorem range_of_list {W : World} {g t off : Nat} {cs : Array Value} {fr : Nat × Nat} (h : W.heap[g]? = some (.cells cs t fr)) {l : List Value} (hl : ∀ j v, l[j]? = some v → cs.toList[off + j]? = some v) : W.rangeAt g off l :=
 rangeAt_of_cells h (fun j v hv => by rw [← Array.getElem?_toList]; exact hl j v hv)
theorem hdArr_root {W : World} {g t : Nat} {n : Int} {x y z : Dig} {fr : Nat × Nat} (h : W.heap[g]? = some (.cells (hdArr n x y z) t fr)) : W.rangeAt g 1 x.arr.toList :=
 range_of_list h (fun j v hv => by
  have hj := (List.getElem?_eq_some_iff.1 hv).1
  rw [hdArr_list, Nat.add_comm, List.getElem?_cons_succ, List.getElem?_append_left hj]
  exact hv)
theorem hdArr_map {W : World} {g t : Nat} {n : Int} {x y z : Dig} {fr : Nat × Nat} (h : W.heap[g]? = some (.cells (hdArr n x y z) t fr)) : W.rangeAt g 33 y.arr.toList :=
 range_of_list h (fun j v hv => by
  have hj := (List.getElem?_eq_some_iff.1 hv).1
  have hx : x.arr.toList.length = 32 := by simp [Dig.size]
  rw [hdArr_list, show 33 + j = (32 + j) + 1 by omega, List.getElem?_cons_succ, List.getElem?_append_right (by omega), hx, show 32 + j - 32 = j by omega, List.getElem?_append_left hj]
  exact hv)
theorem hdArr_tag {W : World} {g t : Nat} {n : Int} {x y z : Dig} {fr : Nat × Nat} (h : W.heap[g]? = some (.cells (hdArr n x y z) t fr)) : W.rangeAt g 65 z.arr.toList :=
 range_of_list h (fun j v hv => by
  have hx : x.arr.toList.length = 32 := by simp [Dig.size]
  have hy : y.arr.toList.length = 32 := by simp [Dig.size]
  rw [hdArr_list, show 65 + j = (64 + j) + 1 by omega, List.getElem?_cons_succ, List.getElem?_append_right (by omega), hx, show 64 + j - 32 = 32 + j by omega, List.getElem?_append_right (by omega), hy, show 32 + j - 32 = j by omega]
  exact hv)
theorem hdArr_inj {n m : Int} {x y z x' y' z' : Dig} (h : hdArr n x y z = hdArr m x' y' z') : n = m ∧ x = x' ∧ y = y' ∧ z = z' := by
 have h := congrArg Array.toList h
 rw [hdArr_list, hdArr_list] at h
 simp only [List.cons.injEq, Value.int.injEq, true_and] at h
 have l : ∀ d : Dig, d.arr.toList.length = 32 := fun d => by simp [Dig.size]
 obtain ⟨h1, h2⟩ := h
 obtain ⟨h3, h4⟩ := List.append_inj h2 (by rw [l, l])
 obtain ⟨h5, h6⟩ := List.append_inj h4 (by rw [l, l])
 have inj : ∀ d e : Dig, d.arr.toList = e.arr.toList → d = e := fun d e h => by
  rw [Dig.toList, Dig.toList] at h
  have := bytesL_inj h
  cases d
  cases e
  simp only at this
  subst this
  rfl
 exact ⟨h1, inj _ _ h3, inj _ _ h5, inj _ _ h6⟩
theorem hdArr_putTag (n : Int) (x y z d : Dig) : putAt (hdArr n x y z) 65 d.arr.toList = hdArr n x y d := by
 have l : ∀ d : Dig, d.arr.toList.length = 32 := fun d => by simp [Dig.size]
 have e : (hdArr n x y z).toList = (.int .i64 n :: (x.arr.toList ++ y.arr.toList)) ++ z.arr.toList := by rw [hdArr_list]; simp
 have e' : (hdArr n x y d).toList = (.int .i64 n :: (x.arr.toList ++ y.arr.toList)) ++ d.arr.toList := by rw [hdArr_list]; simp
 have hl : (Value.int .i64 n :: (x.arr.toList ++ y.arr.toList)).length = 65 := by simp [l, Dig.size]
 unfold putAt
 apply Array.ext'
 rw [e, e', List.take_left' hl, List.drop_append, hl, List.drop_eq_nil_of_le (by rw [hl, l]; omega), List.drop_eq_nil_of_le (by rw [l, l]; omega)]
 simp
section
variable {P : Program} {ops : Array Oper} {rest : List Oper} {o : Oper} {a : Act} {W : World} {Q : Exit → Act → World → Prop} {d : Option Tmp}
theorem L_sliceMid (hd : o.dst = d) (hw : Region.wanted o (yielded ops a.tmps) = true) {T : TypeId} {x : Operand} (ho : o.op = .slice T x none none none) {g off : Nat} (hx : a.eval x = .pointer (some ⟨g, off, none⟩))
  {n : Nat} {e : TypeId} (hu : P.underlying T = some (.array n e)) {z : Value} {s b : Nat} (he : ElemIs P e z s b) {cs : Array Value} (hg : W.rangeAt g off cs.toList) (hc : cs.size = n * s) (hn : n ≤ maxLen)
  (h : SlR W (some ⟨g, off, none⟩) n n s cs.toList → wpList P ops Q rest (a.put d (.slice (some ⟨g, off, none⟩) n n)) W) : wpList P ops Q (o :: rest) a W := by
 refine L_val hd hw ?_ (h ⟨by simp [hc], Nat.le_refl _, hn, fun _ => ⟨g, off, rfl, hg⟩⟩)
 unfold execOp
 simp only [ho, hx]
 have hb : (Instr.sliceBounds false n n none none none).run P W = .ok (0, n, n) W := by simp [Instr.sliceBounds]
 simp [Instr.sliceAt, run_underlying hu, Instr.sureAddr, hb, he.run_size, Addr.add_mid]
theorem L_shrI (hd : o.dst = d) (hw : Region.wanted o (yielded ops a.tmps) = true) {t t' : TypeId} {x y : Operand} (ho : o.op = .binOp .shr t x y t') {k k' : IntKind} {m : Int} {c : Nat} (hx : a.eval x = .int k m) (hy : a.eval y = .int k' ((c : Nat) : Int)) (hc : c ≤ k.bits)
  (h : wpList P ops Q rest (a.put d (.int k (m / 2 ^ c))) W) : wpList P ops Q (o :: rest) a W := by
 refine L_val hd hw ?_ h
 unfold execOp
 simp only [ho, hx, hy]
 have h1 : (eqGuard .shr t x y (.int k m) (.int k' (c : Int))).run P W = .ok () W := by simp [eqGuard]
 have h2 : (Go.binOp .shr t (.int k m) (.int k' (c : Int))).run P W = .ok (.int k (m / 2 ^ c)) W := by
  show (Op.shift .shr k m k' (c : Int)).run P W = _
  have hneg : ¬ (c : Int) < 0 := by omega
  have hm : min c k.bits = c := by omega
  simp only [Op.shift, hneg, if_false, Int.toNat_natCast, hm, Sem.run_pure]
  congr 2
  exact Int.fdiv_eq_ediv_of_nonneg _ (by exact Int.pow_nonneg (by omega))
 simp [h1, h2]
end
def unsN (n : Int) : Nat := (n % 18446744073709551616).toNat
def byteS (n : Int) (i : Nat) : UInt8 := UInt8.ofNat (unsN n / 2 ^ (8 * i))
theorem byteS_val (n : Int) (i : Nat) (h : i < 8) : IntKind.u8.wrap (n / 2 ^ (8 * i)) = ((byteS n i).toNat : Int) := by
 have h1 := Int.emod_nonneg n (show (18446744073709551616 : Int) ≠ 0 by decide)
 have hu : ((unsN n : Nat) : Int) = n % 18446744073709551616 := by unfold unsN; omega
 rw [byteS, UInt8.toNat_ofNat']
 show (n / 2 ^ (8 * i)) % 256 = _
 rcases (show i = 0 ∨ i = 1 ∨ i = 2 ∨ i = 3 ∨ i = 4 ∨ i = 5 ∨ i = 6 ∨ i = 7 by omega) with rfl | rfl | rfl | rfl | rfl | rfl | rfl | rfl <;> simp only [Nat.reduceMul, Int.reducePow, Nat.reducePow] <;> omega
section
variable {P : Program} {ops : Array Oper} {rest : List Oper} {o : Oper} {a : Act} {W : World} {Q : Exit → Act → World → Prop} {d : Option Tmp}
theorem L_cvS (hd : o.dst = d) (hw : Region.wanted o (yielded ops a.tmps) = true) {s t : TypeId} {x : Operand} (ho : o.op = .convert s t x) {k : IntKind} {n : Int} (i : Nat) (hi : i < 8) (hx : a.eval x = .int k (n / 2 ^ (8 * i))) {ds : TypeDesc} (hs : P.underlying s = some ds) (ht : P.underlying t = some (.int .u8))
  (h : wpList P ops Q rest (a.put d (byteV (byteS n i))) W) : wpList P ops Q (o :: rest) a W := by
 refine L_val hd hw ?_ h
 unfold execOp
 simp only [ho, hx]
 have hb : byteV (byteS n i) = .int .u8 (IntKind.u8.wrap (n / 2 ^ (8 * i))) := by rw [byteS_val n i hi]; rfl
 rw [hb]
 simp [convert, run_underlying hs, run_underlying ht, Conv.intToInt]
theorem L_cvU (hd : o.dst = d) (hw : Region.wanted o (yielded ops a.tmps) = true) {s t : TypeId} {x : Operand} (ho : o.op = .convert s t x) {k : IntKind} {n : Int} (hx : a.eval x = .int k n) {ds : TypeDesc} (hs : P.underlying s = some ds) (ht : P.underlying t = some (.int .u64))
  (h : wpList P ops Q rest (a.put d (.int .u64 ((unsN n : Nat) : Int))) W) : wpList P ops Q (o :: rest) a W := by
 refine L_val hd hw ?_ h
 unfold execOp
 simp only [ho, hx]
 have h1 := Int.emod_nonneg n (show (18446744073709551616 : Int) ≠ 0 by decide)
 have hu : ((unsN n : Nat) : Int) = IntKind.u64.wrap n := by
  show _ = n % 18446744073709551616
  unfold unsN
  omega
 rw [hu]
 simp [convert, run_underlying hs, run_underlying ht, Conv.intToInt]
end
def sz4 (n : Int) : List UInt8 := [byteS n 3, byteS n 2, byteS n 1, byteS n 0]
def sz8 (n : Int) : List UInt8 := [byteS n 7, byteS n 6, byteS n 5, byteS n 4, byteS n 3, byteS n 2, byteS n 1, byteS n 0]
theorem el_api_Head : ElemIs Tryd.prog 39 (.agg (hdArr 0 zeroD zeroD zeroD)) 97 104 := by unfold ElemIs; kernel_rfl
end Go.Proofs.YtkbleigmfcleaaaDoor

set_option maxRecDepth 20000
set_option linter.unusedSimpArgs false
set_option linter.unusedVariables false
namespace Go.Proofs.YtkbleigmfcleaaaDoor
open Go.RowKit
theorem cell_of_range1 {W : World} {g off : Nat} {i : Int} {k : Nat} {xs : List Value} {v : Value} (h : W.rangeAt g (off + i.toNat * 1) ((xs.drop (i.toNat * 1)).take 1)) (hk : i.toNat = k) (hv : xs[k]? = some v) : W.cell? ⟨g, off + i.toNat * 1, none⟩ = some v := by
 have := h 0 v (by rw [List.getElem?_take, if_pos (by omega), List.getElem?_drop, hk]; simpa using hv)
 simpa using this
set_option maxHeartbeats 2000000 in
set_option maxRecDepth 100000 in
theorem rblock_any (s : S8) (b : List UInt8) (tb : List Value) (htb : Hid (∀ t, t < 64 → tb[t]? = some (iW (tbl t)))) (A B C : Option Addr) (ca cb cc : Nat) (w : World) (hA : SlR w A 8 ca 1 s.ints) (hB : SlR w B 64 cb 1 tb) (hC : SlR w C 64 cc 1 (bytesL b)) :
  Calls Tryd.prog 64 #[.slice A 8 ca, .slice B 64 cb, .slice C 64 cc] w fun e w' => ∃ D c, e = .returned (.slice D 8 c) ∧ St w w' [.row D 8 c 3 1 (blockS s b).ints] := by
 have hst := St.refl w
 have hl := hC.1
 rw [length_bytesL, Nat.mul_one] at hl
 have Hl := Lib.hid hl
 clear hl
 have hcap := hC.2.1
 go_enter Tryd.func64, Tryd.ntmps64
 go_wp2_with (first
  | (refine L_makeS (d := some 21) (n := 64) rfl rfl rfl (by rfl) (by rfl) Tryd.underlying44 el_int rfl (by omega) (by first | decide | (simp only [maxLen]; omega)) ?_; (try clear hnew); intro g21 W21 hnew; replace hst := hst.trans hnew; simp only [List.cons_append, List.nil_append] at hst)
  | fail)
 have hst : St w W21 [.row g21 64 64 3 1 (wRow b 0)] := by rw [wRow_start]; exact hst
 go_loopg [8] 64 (fun gk s8 wr => ∃ t : Nat, Hid (t + gk = 64) ∧ s8 = .int .i64 (t : Int) ∧ St w wr [.row g21 64 64 3 1 (wRow b t)])
 case atStart => exact ⟨0, Lib.hid rfl, rfl, hst⟩
 case round =>
  clear hst
  obtain ⟨t, HT, rfl, hst⟩ := hrel
  have ht := HT.out
  by_cases h16 : t < 16
  ·clear ht
   have HS := Lib.hid (wRow_set b t (by omega) (word b t) (by rw [sched, if_pos h16]))
   have HN := Lib.hid (natE_word b t (by rw [Hl.out]; omega))
   have HX := Lib.hid (show ((bytesL b).drop (4 * t * 1)).take ((4 * t + 4 - 4 * t) * 1) = bytesL ((b.drop (4 * t)).take 4) by rw [bytesL_cut, show 4 * t + 4 - 4 * t = 4 by omega])
   go_wp2_with (first
    | (go_at_call 78; refine (rnum_any ((b.drop (4 * t)).take 4) A37 4 c37 _ (by rw [← HX.out]; simpa using hs37) (by decide) (by decide)).mono ?_; rintro e W38 ⟨rfl, hnew⟩; rw [HN.out]; replace hst := hst.keep hnew; clear hnew)
    | (first | (refine L_cutO (d := some 37) rfl rfl hst rfl (by rfl) Tryd.underlying49 el_uint8 0 rfl (by first | rfl | omega) (4*t) (4*t+4) _ (Or.inr ⟨_, _, rfl, by first | exact ev_tmp rfl | exact ev_int rfl (by omega) | (rw [ev_tmp rfl]; congr 1; omega)⟩) (Or.inr ⟨_, _, rfl, by first | exact ev_tmp rfl | exact ev_int rfl (by omega) | (rw [ev_tmp rfl]; congr 1; omega)⟩) (Or.inl ⟨rfl, rfl⟩) (by omega) (by omega) (by omega) (by omega) ?_; clear hst; intro A37 c37 hst; simp only [List.set_cons_zero, List.set_cons_succ] at hst) | (refine L_cutS (d := some 37) rfl rfl rfl (by rfl) Tryd.underlying49 el_uint8 (by decide) (by first | exact hst.old (by decide) hC | assumption | exact hst.old (by decide) (by assumption) | exact hst.sl 0 rfl) (4*t) (4*t+4) _ (Or.inr ⟨_, _, rfl, by first | exact ev_tmp rfl | exact ev_int rfl (by omega) | (rw [ev_tmp rfl]; congr 1; omega)⟩) (Or.inr ⟨_, _, rfl, by first | exact ev_tmp rfl | exact ev_int rfl (by omega) | (rw [ev_tmp rfl]; congr 1; omega)⟩) (Or.inl ⟨rfl, rfl⟩) (by omega) (by omega) (by omega) (by omega) ?_; intro A37 c37 hs37))
    | (first | (refine L_idxO (d := some 41) rfl rfl hst rfl (by rfl) (by rfl) Tryd.underlying44 el_int 0 rfl (by first | rfl | omega) (by omega) (by omega) ?_; intro o41 p41 ha41; (first | subst ha41 | (obtain ⟨h1, h2⟩ := some_addr ha41; subst h1; subst h2; clear ha41) | skip)))
    | (refine wpl_at (.store 3 (.tmp 41) (.tmp 39)) rfl ?_; first | (refine L_store1 rfl rfl hst rfl (by rfl) (ev_tmp rfl) rfl el_int 0 rfl (by first | exact of_decide_eq_true rfl | omega | (simp; done) | (simp; omega)) ?_; clear hst; intro WS14 hst; simp only [List.set_cons_zero, List.set_cons_succ] at hst) | (refine L_storeR rfl rfl hst rfl (by rfl) (ev_tmp rfl) rfl el_int 0 rfl (by first | omega | (simp; done) | (simp; omega)) ?_; clear hst; intro WS14 hst; simp only [List.set_cons_zero, List.set_cons_succ] at hst) | (refine L_storeR (i := 0) rfl rfl hst rfl (by rfl) (ev_tmp rfl) rfl el_int 0 rfl (by first | omega | (simp; done) | (simp; omega)) ?_; clear hst; intro WS14 hst; simp only [List.set_cons_zero, List.set_cons_succ] at hst))
    | fail)
   go_roundg (gk - 1)
   case measure => have ht := HT.out; omega
   case rel =>
    have ht := HT.out
    refine ⟨t + 1, Lib.hid (by omega), by go_num, ?_⟩
    rw [← HS.out]
    simpa using hst
  ·by_cases hlt : t < 64
   ·clear ht
    have hnx := wRow_set b t hlt (nextW (sched b t)) (by rw [sched, if_neg h16])
    have hls := length_sched b t
    unfold nextW sig0 sig1 at hnx
    rw [hls] at hnx
    have HS := Lib.hid hnx
    have h15 := wRow_at b t (t - 15) (by omega)
    have h2 := wRow_at b t (t - 2) (by omega)
    have h7 := wRow_at b t (t - 7) (by omega)
    have h0 := wRow_at b t (t - 16) (by omega)
    have H15 := Lib.hid h15
    have H2 := Lib.hid h2
    have H7 := Lib.hid h7
    have H0 := Lib.hid h0
    clear hnx hls h15 h2 h7 h0
    generalize (sched b t).getD (t - 15) zW = x at *
    generalize (sched b t).getD (t - 2) zW = y at *
    generalize (sched b t).getD (t - 7) zW = w7 at *
    generalize (sched b t).getD (t - 16) zW = w0 at *
    have hxor := iw_xor
    have hs3 : ∀ x : Wd, (x.n : Int) / 8 = ((x.shr 3).n : Int) := fun x => iw_shr x 3
    have hs10 : ∀ x : Wd, (x.n : Int) / 1024 = ((x.shr 10).n : Int) := fun x => iw_shr x 10
    go_wp2_with (first
     | (refine L_load1 (d := some 46) rfl rfl rfl (by rfl) Tryd.underlying3 rfl (cell_of_range1 hr45 (k := t - 15) (by omega) H15.out) ?_)
     | (refine L_load1 (d := some 51) rfl rfl rfl (by rfl) Tryd.underlying3 rfl (cell_of_range1 hr50 (k := t - 2) (by omega) H2.out) ?_)
     | (go_at_call_of 79 (Value.int .i64 7); refine (rturn_any x 7 (by decide) (by decide) _).mono ?_; rintro e W38 ⟨rfl, hnew⟩; replace hst := hst.keep hnew; clear hnew)
     | (go_at_call_of 79 (Value.int .i64 18); refine (rturn_any x 18 (by decide) (by decide) _).mono ?_; rintro e W38 ⟨rfl, hnew⟩; replace hst := hst.keep hnew; clear hnew)
     | (go_at_call_of 79 (Value.int .i64 17); refine (rturn_any y 17 (by decide) (by decide) _).mono ?_; rintro e W38 ⟨rfl, hnew⟩; replace hst := hst.keep hnew; clear hnew)
     | (go_at_call_of 79 (Value.int .i64 19); refine (rturn_any y 19 (by decide) (by decide) _).mono ?_; rintro e W38 ⟨rfl, hnew⟩; replace hst := hst.keep hnew; clear hnew)
     | (refine L_idxS (d := some 45) rfl rfl rfl (by rfl) (by rfl) Tryd.underlying44 el_int (by first | assumption | exact hst.sl 0 rfl | exact hst.old (by decide) (by assumption)) (by omega) (by omega) ?_; intro o45 p45 ha45 hr45; (first | subst ha45 | (obtain ⟨h1, h2⟩ := some_addr ha45; subst h1; subst h2; clear ha45) | skip))
     | (refine L_load1 (d := some 46) rfl rfl rfl (by rfl) Tryd.underlying3 rfl (by first | assumption | exact cell_of (hst.get 0 rfl) rfl) ?_)
     | (refine L_idxS (d := some 50) rfl rfl rfl (by rfl) (by rfl) Tryd.underlying44 el_int (by first | assumption | exact hst.sl 0 rfl | exact hst.old (by decide) (by assumption)) (by omega) (by omega) ?_; intro o50 p50 ha50 hr50; (first | subst ha50 | (obtain ⟨h1, h2⟩ := some_addr ha50; subst h1; subst h2; clear ha50) | skip))
     | (refine L_load1 (d := some 51) rfl rfl rfl (by rfl) Tryd.underlying3 rfl (by first | assumption | exact cell_of (hst.get 0 rfl) rfl) ?_)
     | fail)
    clear hxor hs3 hs10 hr45 hr50
    generalize ((y.rot 17).xor (y.rot 19)).xor (y.shr 10) = s1 at *
    generalize ((x.rot 7).xor (x.rot 18)).xor (x.shr 3) = s0 at *
    have b1 := s1.h
    have b2 := s0.h
    have b3 := w7.h
    have b4 := w0.h
    have hsum := iw_sum4 s1 w7 s0 w0
    refine wp_region_idx [(0, 0), (1, 0), (2, 0), (3, 0), (4, 0), (5, 0), (6, 0), (7, 0), (8, 0), (9, 0), (10, 0), (11, 0), (12, 2), (13, 2), (14, 2), (15, 2), (16, 2), (17, 2), (18, 2), (19, 1)] (by kernel_rfl) (by kernel_rfl) ?_
    replace hst := hst.drew
    refine idx_q rfl rfl ?_; go_wp2_with fail
    refine idx_q rfl rfl ?_; go_wp2_with fail
    refine idx_q rfl rfl ?_; go_wp2_with fail
    refine idx_q rfl rfl ?_; go_wp2_with fail
    refine idx_q rfl rfl ?_; go_wp2_with fail
    refine idx_q rfl rfl ?_; go_wp2_with fail
    refine idx_q rfl rfl ?_; go_wp2_with (first | (refine L_idxS (d := some 74) rfl rfl rfl (by rfl) (by rfl) Tryd.underlying44 el_int (by first | assumption | exact hst.sl 0 rfl | exact hst.old (by decide) (by assumption)) (by omega) (by omega) ?_; intro o74 p74 ha74 hr74; (first | subst ha74 | (obtain ⟨h1, h2⟩ := some_addr ha74; subst h1; subst h2; clear ha74) | skip)) | fail)
    refine idx_q rfl rfl ?_; go_wp2_with (first | (refine L_load1 (d := some 75) rfl rfl rfl (by rfl) Tryd.underlying3 rfl (cell_of_range1 hr74 (k := t - 7) (by omega) H7.out) ?_) | (refine L_load1 (d := some 75) rfl rfl rfl (by rfl) Tryd.underlying3 rfl (by first | assumption | exact cell_of (hst.get 0 rfl) rfl) ?_) | fail)
    refine idx_q rfl rfl ?_; go_wp2_with fail
    refine idx_q rfl rfl ?_; go_wp2_with fail
    refine idx_q rfl rfl ?_; go_wp2_with fail
    refine idx_q rfl rfl ?_; go_wp2_with fail
    refine idx_g rfl ?_; go_wp2_with fail; refine ⟨by first | exact Below.refl _ _ | exact hnew.below, ?_⟩
    refine idx_g rfl ?_; go_wp2_with fail; refine ⟨by first | exact Below.refl _ _ | exact hnew.below, ?_⟩
    refine idx_g rfl ?_; go_wp2_with (first | (refine L_idxS (d := some 82) rfl rfl rfl (by rfl) (by rfl) Tryd.underlying44 el_int (by first | assumption | exact hst.sl 0 rfl | exact hst.old (by decide) (by assumption)) (by omega) (by omega) ?_; intro o82 p82 ha82 hr82; (first | subst ha82 | (obtain ⟨h1, h2⟩ := some_addr ha82; subst h1; subst h2; clear ha82) | skip)) | fail); refine ⟨by first | exact Below.refl _ _ | exact hnew.below, ?_⟩
    refine idx_g rfl ?_; go_wp2_with (first | (refine L_load1 (d := some 83) rfl rfl rfl (by rfl) Tryd.underlying3 rfl (cell_of_range1 hr82 (k := t - 16) (by omega) H0.out) ?_) | (refine L_load1 (d := some 83) rfl rfl rfl (by rfl) Tryd.underlying3 rfl (by first | assumption | exact cell_of (hst.get 0 rfl) rfl) ?_) | fail); refine ⟨by first | exact Below.refl _ _ | exact hnew.below, ?_⟩
    refine idx_g rfl ?_; go_wp2_with fail; refine ⟨by first | exact Below.refl _ _ | exact hnew.below, ?_⟩
    refine idx_g rfl ?_; go_wp2_with fail; refine ⟨by first | exact Below.refl _ _ | exact hnew.below, ?_⟩
    refine idx_g rfl ?_; go_wp2_with (first | (first | (refine L_idxO (d := some 86) rfl rfl hst rfl (by rfl) (by rfl) Tryd.underlying44 el_int 0 rfl (by first | rfl | omega) (by omega) (by omega) ?_; intro o86 p86 ha86; (first | subst ha86 | (obtain ⟨h1, h2⟩ := some_addr ha86; subst h1; subst h2; clear ha86) | skip))) | fail); refine ⟨by first | exact Below.refl _ _ | exact hnew.below, ?_⟩
    refine idx_e rfl ?_; go_wp2_with (first | (refine wpl_at (.store 3 (.tmp 86) (.tmp 85)) rfl ?_; first | (refine L_store1 rfl rfl hst rfl (by rfl) (ev_tmp rfl) rfl el_int 0 rfl (by first | exact of_decide_eq_true rfl | omega | (simp; done) | (simp; omega)) ?_; clear hst; intro WS19 hst; simp only [List.set_cons_zero, List.set_cons_succ] at hst) | (refine L_storeR rfl rfl hst rfl (by rfl) (ev_tmp rfl) rfl el_int 0 rfl (by first | omega | (simp; done) | (simp; omega)) ?_; clear hst; intro WS19 hst; simp only [List.set_cons_zero, List.set_cons_succ] at hst) | (refine L_storeR (i := 0) rfl rfl hst rfl (by rfl) (ev_tmp rfl) rfl el_int 0 rfl (by first | omega | (simp; done) | (simp; omega)) ?_; clear hst; intro WS19 hst; simp only [List.set_cons_zero, List.set_cons_succ] at hst)) | fail)
    refine idx_nil ?_
    clear hsum b1 b2 b3 b4
    go_wp2_with (first
     | fail)
    go_roundg (gk - 1)
    case measure => have ht := HT.out; omega
    case rel =>
     have ht := HT.out
     refine ⟨t + 1, Lib.hid (by omega), by go_num, ?_⟩
     rw [← HS.out]
     simpa using hst
   ·obtain rfl : t = 64 := by omega
    clear ht HT h16 hlt
    go_wp2_with (first
     | (refine L_buildS (d := some 87) rfl rfl rfl [] (bs_0 ) rfl Tryd.underlying44 el_int rfl (by first | (simp [Value.cells]; done) | (simp [Value.cells, Dig.size]; done)) (by decide) (by decide) ?_; (try clear hnew); intro g87 W87 hnew; replace hst := hst.trans hnew; simp only [List.cons_append, List.nil_append] at hst; simp only [List.flatMap_cons, List.flatMap_nil, List.append_nil, Value.cells, List.toList_toArray] at hst)
     | (refine L_appendO (d := some 89) rfl rfl hst rfl (by rfl) (by rfl) Tryd.underlying44 el_int rfl (by decide) (by decide) 0 rfl (by first | rfl | omega) (by first | exact hst.old (by decide) hA | exact hst.sl 0 rfl | exact hst.sl 1 rfl | exact hst.sl 2 rfl | assumption | exact hst.old (by decide) (by assumption)) (by first | exact oneCell_bytes | (simp [Value.oneCell']; done) | exact s.ints_one) (by omega) ?_; clear hst; intro A89 c89 W89 hst; simp only [List.set_cons_zero, List.set_cons_succ, List.nil_append, Nat.zero_add] at hst)
     | (refine L_appendO (d := some 89) rfl rfl hst rfl (by rfl) (by rfl) Tryd.underlying44 el_int rfl (by decide) (by decide) 1 rfl (by first | rfl | omega) (by first | exact hst.old (by decide) hA | exact hst.sl 0 rfl | exact hst.sl 1 rfl | exact hst.sl 2 rfl | assumption | exact hst.old (by decide) (by assumption)) (by first | exact oneCell_bytes | (simp [Value.oneCell']; done) | exact s.ints_one) (by omega) ?_; clear hst; intro A89 c89 W89 hst; simp only [List.set_cons_zero, List.set_cons_succ, List.nil_append, Nat.zero_add] at hst)
     | (refine L_appendO (d := some 89) rfl rfl hst rfl (by rfl) (by rfl) Tryd.underlying44 el_int rfl (by decide) (by decide) 2 rfl (by first | rfl | omega) (by first | exact hst.old (by decide) hA | exact hst.sl 0 rfl | exact hst.sl 1 rfl | exact hst.sl 2 rfl | assumption | exact hst.old (by decide) (by assumption)) (by first | exact oneCell_bytes | (simp [Value.oneCell']; done) | exact s.ints_one) (by omega) ?_; clear hst; intro A89 c89 W89 hst; simp only [List.set_cons_zero, List.set_cons_succ, List.nil_append, Nat.zero_add] at hst)
     | (refine L_appendF (d := some 89) rfl rfl rfl (by rfl) (by rfl) Tryd.underlying44 el_int rfl (by decide) (by assumption) (by first | assumption | exact hst.old (by decide) hA | exact hst.sl 0 rfl | exact hst.sl 1 rfl | exact hst.sl 2 rfl | assumption | exact hst.old (by decide) (by assumption)) (by omega) (by omega) (by omega) ?_; (try clear hnew); intro A89 c89 W89 hnew; replace hst := hst.trans hnew; simp only [List.cons_append, List.nil_append] at hst)
     | fail)
    obtain ⟨R, ws, wl, HR0, HRS, HWS, HRE, hst2⟩ : ∃ (R : Nat → S8) (ws : Nat → Wd) (wl : List Value), R 0 = s ∧ Hid (∀ t, R (t + 1) = rnd (R t) (tbl t) (ws t)) ∧ Hid (∀ t, t < 64 → wl[t]? = some (iW (ws t))) ∧ Hid ((R 64).add s = blockS s b) ∧ St w W89 [.row A89 8 c89 3 1 s.ints, .row g21 64 64 3 1 wl] :=
     ⟨rounds b s, fun t => (sched b 64).getD t zW, wRow b 64, rfl, Lib.hid fun _ => rfl, Lib.hid fun t ht => wRow_at b 64 t ht, Lib.hid rfl, hst⟩
    clear hst
    have hst : St w W89 [.row A89 8 c89 3 1 (R 0).ints, .row g21 64 64 3 1 wl] := by rw [HR0]; exact hst2
    clear hst2 HR0
    clear hnew
    go_loopg [14, 15, 16, 17, 18, 19] 64 (fun gk s14 s15 s16 s17 s18 s19 wr => ∃ t : Nat, Hid (t + gk = 64) ∧ s14 = .int .i64 (t : Int) ∧ St w wr [.row A89 8 c89 3 1 (R t).ints, .row g21 64 64 3 1 wl])
    case atStart => exact ⟨0, Lib.hid rfl, rfl, hst⟩
    case round =>
     clear hst
     obtain ⟨t, HT, rfl, hst⟩ := hrel
     have ht := HT.out
     by_cases hlt : t < 64
     ·clear ht
      have HR := Lib.hid (HRS.out t)
      unfold rnd at HR
      have HK := Lib.hid (htb.out t hlt)
      have HW := Lib.hid (HWS.out t hlt)
      generalize R t = v at *
      generalize tbl t = kt at *
      generalize ws t = wt at *
      have hxor := iw_xor
      have hand := iw_and
      have hnot := iw_not v.e
      go_wp2_with (first
       | (refine L_load1 (d := some 96) rfl rfl rfl (by rfl) Tryd.underlying3 rfl (cell_of_range1 hr95 (k := 0) (by decide) (show v.ints[0]? = some (iW v.a) from rfl)) ?_)
       | (refine L_load1 (d := some 99) rfl rfl rfl (by rfl) Tryd.underlying3 rfl (cell_of_range1 hr98 (k := 4) (by decide) (show v.ints[4]? = some (iW v.e) from rfl)) ?_)
       | (refine L_idxS (d := some 95) rfl rfl rfl (by rfl) (by rfl) Tryd.underlying44 el_int (by first | assumption | exact hst.sl 0 rfl | exact hst.sl 1 rfl | exact hst.old (by decide) (by assumption)) (by omega) (by omega) ?_; intro o95 p95 ha95 hr95; (first | subst ha95 | (obtain ⟨h1, h2⟩ := some_addr ha95; subst h1; subst h2; clear ha95) | skip))
       | (refine L_load1 (d := some 96) rfl rfl rfl (by rfl) Tryd.underlying3 rfl (by first | assumption | exact cell_of (hst.get 0 rfl) rfl | exact cell_of (hst.get 1 rfl) rfl) ?_)
       | (refine L_idxS (d := some 98) rfl rfl rfl (by rfl) (by rfl) Tryd.underlying44 el_int (by first | assumption | exact hst.sl 0 rfl | exact hst.sl 1 rfl | exact hst.old (by decide) (by assumption)) (by omega) (by omega) ?_; intro o98 p98 ha98 hr98; (first | subst ha98 | (obtain ⟨h1, h2⟩ := some_addr ha98; subst h1; subst h2; clear ha98) | skip))
       | (refine L_load1 (d := some 99) rfl rfl rfl (by rfl) Tryd.underlying3 rfl (by first | assumption | exact cell_of (hst.get 0 rfl) rfl | exact cell_of (hst.get 1 rfl) rfl) ?_)
       | fail)
      obtain ⟨pn, hpn, hpb, hpm⟩ := sum5 v.h (((v.e.rot 6).xor (v.e.rot 11)).xor (v.e.rot 25)) ((v.e.and v.f).xor (v.e.not.and v.g)) kt wt
      obtain ⟨qn, hqn, hqb, hqm⟩ := sum2 (((v.a.rot 2).xor (v.a.rot 13)).xor (v.a.rot 22)) (((v.a.and v.b).xor (v.a.and v.c)).xor (v.b.and v.c))
      have hm4 := Lib.hid (iw_sumN v.d _ pn hpb hpm)
      have hm0 := Lib.hid (iw_sumM _ _ pn qn hpb hqb hpm hqm)
      clear hpm hqm hr95
      have b1 := v.h.h
      have b2 := (((v.e.rot 6).xor (v.e.rot 11)).xor (v.e.rot 25)).h
      have b3 := ((v.e.and v.f).xor (v.e.not.and v.g)).h
      have b4 := kt.h
      have b5 := wt.h
      refine wp_region_idx [(0, 0), (1, 0), (2, 0), (3, 0), (5, 0), (8, 0), (12, 0), (13, 0), (14, 0), (15, 0), (16, 0), (17, 0), (18, 0), (19, 0), (20, 0), (21, 0), (22, 0), (23, 0), (25, 0), (26, 0), (27, 0), (28, 0), (30, 0), (31, 0), (32, 0), (33, 0), (4, 2), (6, 2), (7, 0), (9, 2), (10, 2), (11, 2), (24, 2), (29, 2), (34, 2), (35, 2)] (by kernel_rfl) (by kernel_rfl) ?_
      replace hst := hst.drew
      refine idx_q rfl rfl ?_; go_wp2_with fail
      refine idx_q rfl rfl ?_; go_wp2_with (first | (refine L_idxS (d := some 101) rfl rfl rfl (by rfl) (by rfl) Tryd.underlying44 el_int (by first | exact hst.old (by decide) hB | assumption | exact hst.sl 0 rfl | exact hst.sl 1 rfl | exact hst.old (by decide) (by assumption)) (by omega) (by omega) ?_; intro o101 p101 ha101 hr101; (first | subst ha101 | (obtain ⟨h1, h2⟩ := some_addr ha101; subst h1; subst h2; clear ha101) | skip)) | fail)
      refine idx_q rfl rfl ?_; go_wp2_with (first | (refine L_load1 (d := some 102) rfl rfl rfl (by rfl) Tryd.underlying3 rfl (cell_of_range1 hr101 (k := 7) (by first | decide | omega) (show v.ints[7]? = some (iW v.h) from rfl)) ?_) | (refine L_load1 (d := some 102) rfl rfl rfl (by rfl) Tryd.underlying3 rfl (by first | assumption | exact cell_of (hst.get 0 rfl) rfl | exact cell_of (hst.get 1 rfl) rfl) ?_) | fail)
      refine idx_q rfl rfl ?_; go_wp2_with fail
      refine idx_q rfl rfl ?_; go_wp2_with fail
      refine idx_q rfl rfl ?_; go_wp2_with fail
      refine idx_q rfl rfl ?_; go_wp2_with fail
      refine idx_q rfl rfl ?_; go_wp2_with fail
      refine idx_q rfl rfl ?_; go_wp2_with (first | (refine L_idxS (d := some 114) rfl rfl rfl (by rfl) (by rfl) Tryd.underlying44 el_int (by first | exact hst.old (by decide) hB | assumption | exact hst.sl 0 rfl | exact hst.sl 1 rfl | exact hst.old (by decide) (by assumption)) (by omega) (by omega) ?_; intro o114 p114 ha114 hr114; (first | subst ha114 | (obtain ⟨h1, h2⟩ := some_addr ha114; subst h1; subst h2; clear ha114) | skip)) | fail)
      refine idx_q rfl rfl ?_; go_wp2_with (first | (refine L_load1 (d := some 115) rfl rfl rfl (by rfl) Tryd.underlying3 rfl (cell_of_range1 hr114 (k := 5) (by first | decide | omega) (show v.ints[5]? = some (iW v.f) from rfl)) ?_) | (refine L_load1 (d := some 115) rfl rfl rfl (by rfl) Tryd.underlying3 rfl (by first | assumption | exact cell_of (hst.get 0 rfl) rfl | exact cell_of (hst.get 1 rfl) rfl) ?_) | fail)
      refine idx_q rfl rfl ?_; go_wp2_with fail
      refine idx_q rfl rfl ?_; go_wp2_with fail
      refine idx_q rfl rfl ?_; go_wp2_with fail
      refine idx_q rfl rfl ?_; go_wp2_with fail
      refine idx_q rfl rfl ?_; go_wp2_with (first | (refine L_idxS (d := some 120) rfl rfl rfl (by rfl) (by rfl) Tryd.underlying44 el_int (by first | exact hst.old (by decide) hB | assumption | exact hst.sl 0 rfl | exact hst.sl 1 rfl | exact hst.old (by decide) (by assumption)) (by omega) (by omega) ?_; intro o120 p120 ha120 hr120; (first | subst ha120 | (obtain ⟨h1, h2⟩ := some_addr ha120; subst h1; subst h2; clear ha120) | skip)) | fail)
      refine idx_q rfl rfl ?_; go_wp2_with (first | (refine L_load1 (d := some 121) rfl rfl rfl (by rfl) Tryd.underlying3 rfl (cell_of_range1 hr120 (k := 6) (by first | decide | omega) (show v.ints[6]? = some (iW v.g) from rfl)) ?_) | (refine L_load1 (d := some 121) rfl rfl rfl (by rfl) Tryd.underlying3 rfl (by first | assumption | exact cell_of (hst.get 0 rfl) rfl | exact cell_of (hst.get 1 rfl) rfl) ?_) | fail)
      refine idx_q rfl rfl ?_; go_wp2_with fail
      refine idx_q rfl rfl ?_; go_wp2_with fail
      refine idx_q rfl rfl ?_; go_wp2_with fail
      refine idx_q rfl rfl ?_; go_wp2_with fail
      refine idx_q rfl rfl ?_; go_wp2_with (first | (refine L_idxS (d := some 127) rfl rfl rfl (by rfl) (by rfl) Tryd.underlying44 el_int (by first | exact hst.old (by decide) hB | assumption | exact hst.sl 0 rfl | exact hst.sl 1 rfl | exact hst.old (by decide) (by assumption)) (by omega) (by omega) ?_; intro o127 p127 ha127 hr127; (first | subst ha127 | (obtain ⟨h1, h2⟩ := some_addr ha127; subst h1; subst h2; clear ha127) | skip)) | fail)
      refine idx_q rfl rfl ?_; go_wp2_with (first | (refine L_load1 (d := some 128) rfl rfl rfl (by rfl) Tryd.underlying3 rfl (cell_of_range1 hr127 (k := t) (by first | decide | omega) HK.out) ?_) | (refine L_load1 (d := some 128) rfl rfl rfl (by rfl) Tryd.underlying3 rfl (by first | assumption | exact cell_of (hst.get 0 rfl) rfl | exact cell_of (hst.get 1 rfl) rfl) ?_) | fail)
      refine idx_q rfl rfl ?_; go_wp2_with fail
      refine idx_q rfl rfl ?_; go_wp2_with fail
      refine idx_q rfl rfl ?_; go_wp2_with (first | (refine L_idxS (d := some 132) rfl rfl rfl (by rfl) (by rfl) Tryd.underlying44 el_int (by first | exact hst.old (by decide) hB | assumption | exact hst.sl 0 rfl | exact hst.sl 1 rfl | exact hst.old (by decide) (by assumption)) (by omega) (by omega) ?_; intro o132 p132 ha132 hr132; (first | subst ha132 | (obtain ⟨h1, h2⟩ := some_addr ha132; subst h1; subst h2; clear ha132) | skip)) | fail)
      refine idx_q rfl rfl ?_; go_wp2_with (first | (refine L_load1 (d := some 133) rfl rfl rfl (by rfl) Tryd.underlying3 rfl (cell_of_range1 hr132 (k := t) (by first | decide | omega) HW.out) ?_) | (refine L_load1 (d := some 133) rfl rfl rfl (by rfl) Tryd.underlying3 rfl (by first | assumption | exact cell_of (hst.get 0 rfl) rfl | exact cell_of (hst.get 1 rfl) rfl) ?_) | fail)
      refine idx_g rfl ?_; go_wp2_with (first | (refine L_load1 (d := some 102) rfl rfl rfl (by rfl) Tryd.underlying3 rfl (cell_of_range1 hr101 (k := 7) (by first | decide | omega) (show v.ints[7]? = some (iW v.h) from rfl)) ?_) | (refine L_load1 (d := some 115) rfl rfl rfl (by rfl) Tryd.underlying3 rfl (cell_of_range1 hr114 (k := 5) (by first | decide | omega) (show v.ints[5]? = some (iW v.f) from rfl)) ?_) | (refine L_load1 (d := some 121) rfl rfl rfl (by rfl) Tryd.underlying3 rfl (cell_of_range1 hr120 (k := 6) (by first | decide | omega) (show v.ints[6]? = some (iW v.g) from rfl)) ?_) | (refine L_load1 (d := some 128) rfl rfl rfl (by rfl) Tryd.underlying3 rfl (cell_of_range1 hr127 (k := t) (by first | decide | omega) HK.out) ?_) | (refine L_load1 (d := some 133) rfl rfl rfl (by rfl) Tryd.underlying3 rfl (cell_of_range1 hr132 (k := t) (by first | decide | omega) HW.out) ?_) | (go_at_call_of 79 (Value.int .i64 6); (try clear hnew); refine (rturn_any v.e 6 (by decide) (by decide) _).mono ?_; rintro e W38 ⟨rfl, hnew⟩; replace hst := hst.keep hnew) | (go_at_call_of 79 (Value.int .i64 11); (try clear hnew); refine (rturn_any v.e 11 (by decide) (by decide) _).mono ?_; rintro e W38 ⟨rfl, hnew⟩; replace hst := hst.keep hnew) | (go_at_call_of 79 (Value.int .i64 25); (try clear hnew); refine (rturn_any v.e 25 (by decide) (by decide) _).mono ?_; rintro e W38 ⟨rfl, hnew⟩; replace hst := hst.keep hnew) | fail); refine ⟨by first | exact Below.refl _ _ | exact hnew.below, ?_⟩
      refine idx_g rfl ?_; go_wp2_with (first | (refine L_load1 (d := some 102) rfl rfl rfl (by rfl) Tryd.underlying3 rfl (cell_of_range1 hr101 (k := 7) (by first | decide | omega) (show v.ints[7]? = some (iW v.h) from rfl)) ?_) | (refine L_load1 (d := some 115) rfl rfl rfl (by rfl) Tryd.underlying3 rfl (cell_of_range1 hr114 (k := 5) (by first | decide | omega) (show v.ints[5]? = some (iW v.f) from rfl)) ?_) | (refine L_load1 (d := some 121) rfl rfl rfl (by rfl) Tryd.underlying3 rfl (cell_of_range1 hr120 (k := 6) (by first | decide | omega) (show v.ints[6]? = some (iW v.g) from rfl)) ?_) | (refine L_load1 (d := some 128) rfl rfl rfl (by rfl) Tryd.underlying3 rfl (cell_of_range1 hr127 (k := t) (by first | decide | omega) HK.out) ?_) | (refine L_load1 (d := some 133) rfl rfl rfl (by rfl) Tryd.underlying3 rfl (cell_of_range1 hr132 (k := t) (by first | decide | omega) HW.out) ?_) | (go_at_call_of 79 (Value.int .i64 6); (try clear hnew); refine (rturn_any v.e 6 (by decide) (by decide) _).mono ?_; rintro e W38 ⟨rfl, hnew⟩; replace hst := hst.keep hnew) | (go_at_call_of 79 (Value.int .i64 11); (try clear hnew); refine (rturn_any v.e 11 (by decide) (by decide) _).mono ?_; rintro e W38 ⟨rfl, hnew⟩; replace hst := hst.keep hnew) | (go_at_call_of 79 (Value.int .i64 25); (try clear hnew); refine (rturn_any v.e 25 (by decide) (by decide) _).mono ?_; rintro e W38 ⟨rfl, hnew⟩; replace hst := hst.keep hnew) | fail); refine ⟨by first | exact Below.refl _ _ | exact hnew.below, ?_⟩
      refine idx_q rfl rfl ?_; go_wp2_with fail
      refine idx_g rfl ?_; go_wp2_with (first | (refine L_load1 (d := some 102) rfl rfl rfl (by rfl) Tryd.underlying3 rfl (cell_of_range1 hr101 (k := 7) (by first | decide | omega) (show v.ints[7]? = some (iW v.h) from rfl)) ?_) | (refine L_load1 (d := some 115) rfl rfl rfl (by rfl) Tryd.underlying3 rfl (cell_of_range1 hr114 (k := 5) (by first | decide | omega) (show v.ints[5]? = some (iW v.f) from rfl)) ?_) | (refine L_load1 (d := some 121) rfl rfl rfl (by rfl) Tryd.underlying3 rfl (cell_of_range1 hr120 (k := 6) (by first | decide | omega) (show v.ints[6]? = some (iW v.g) from rfl)) ?_) | (refine L_load1 (d := some 128) rfl rfl rfl (by rfl) Tryd.underlying3 rfl (cell_of_range1 hr127 (k := t) (by first | decide | omega) HK.out) ?_) | (refine L_load1 (d := some 133) rfl rfl rfl (by rfl) Tryd.underlying3 rfl (cell_of_range1 hr132 (k := t) (by first | decide | omega) HW.out) ?_) | (go_at_call_of 79 (Value.int .i64 6); (try clear hnew); refine (rturn_any v.e 6 (by decide) (by decide) _).mono ?_; rintro e W38 ⟨rfl, hnew⟩; replace hst := hst.keep hnew) | (go_at_call_of 79 (Value.int .i64 11); (try clear hnew); refine (rturn_any v.e 11 (by decide) (by decide) _).mono ?_; rintro e W38 ⟨rfl, hnew⟩; replace hst := hst.keep hnew) | (go_at_call_of 79 (Value.int .i64 25); (try clear hnew); refine (rturn_any v.e 25 (by decide) (by decide) _).mono ?_; rintro e W38 ⟨rfl, hnew⟩; replace hst := hst.keep hnew) | fail); refine ⟨by first | exact Below.refl _ _ | exact hnew.below, ?_⟩
      refine idx_g rfl ?_; go_wp2_with fail; refine ⟨by first | exact Below.refl _ _ | exact hnew.below, ?_⟩
      refine idx_g rfl ?_; go_wp2_with fail; refine ⟨by first | exact Below.refl _ _ | exact hnew.below, ?_⟩
      refine idx_g rfl ?_; go_wp2_with fail; refine ⟨by first | exact Below.refl _ _ | exact hnew.below, ?_⟩
      refine idx_g rfl ?_; go_wp2_with fail; refine ⟨by first | exact Below.refl _ _ | exact hnew.below, ?_⟩
      refine idx_g rfl ?_; go_wp2_with fail; refine ⟨by first | exact Below.refl _ _ | exact hnew.below, ?_⟩
      refine idx_g rfl ?_; go_wp2_with fail; refine ⟨by first | exact Below.refl _ _ | exact hnew.below, ?_⟩
      refine idx_nil ?_
      go_wp2_with fail
      clear hpn hnew b1 b2 b3 b4 b5 hnot hr98 hr101 hr114 hr120 hr127 hr132
      have b6 := (((v.a.rot 2).xor (v.a.rot 13)).xor (v.a.rot 22)).h
      have b7 := (((v.a.and v.b).xor (v.a.and v.c)).xor (v.b.and v.c)).h
      refine wp_region_idx [(0, 0), (2, 0), (5, 0), (8, 0), (9, 0), (10, 0), (11, 0), (12, 0), (13, 0), (14, 0), (15, 0), (16, 0), (17, 0), (18, 0), (19, 0), (20, 0), (21, 0), (22, 0), (23, 0), (24, 0), (25, 0), (26, 0), (1, 2), (3, 2), (4, 0), (6, 2), (7, 2), (27, 2), (28, 2)] (by kernel_rfl) (by kernel_rfl) ?_
      replace hst := hst.drew
      refine idx_q rfl rfl ?_; go_wp2_with fail
      refine idx_q rfl rfl ?_; go_wp2_with fail
      refine idx_q rfl rfl ?_; go_wp2_with fail
      refine idx_q rfl rfl ?_; go_wp2_with fail
      refine idx_q rfl rfl ?_; go_wp2_with fail
      refine idx_q rfl rfl ?_; go_wp2_with (first | (refine L_idxS (d := some 145) rfl rfl rfl (by rfl) (by rfl) Tryd.underlying44 el_int (by first | assumption | exact hst.sl 0 rfl | exact hst.sl 1 rfl | exact hst.old (by decide) (by assumption)) (by omega) (by omega) ?_; intro o145 p145 ha145 hr145; (first | subst ha145 | (obtain ⟨h1, h2⟩ := some_addr ha145; subst h1; subst h2; clear ha145) | skip)) | fail)
      refine idx_q rfl rfl ?_; go_wp2_with (first | (refine L_load1 (d := some 146) rfl rfl rfl (by rfl) Tryd.underlying3 rfl (cell_of_range1 hr145 (k := 1) (by first | decide | omega) (show v.ints[1]? = some (iW v.b) from rfl)) ?_) | (refine L_load1 (d := some 146) rfl rfl rfl (by rfl) Tryd.underlying3 rfl (by first | assumption | exact cell_of (hst.get 0 rfl) rfl | exact cell_of (hst.get 1 rfl) rfl) ?_) | fail)
      refine idx_q rfl rfl ?_; go_wp2_with fail
      refine idx_q rfl rfl ?_; go_wp2_with fail
      refine idx_q rfl rfl ?_; go_wp2_with fail
      refine idx_q rfl rfl ?_; go_wp2_with (first | (refine L_idxS (d := some 150) rfl rfl rfl (by rfl) (by rfl) Tryd.underlying44 el_int (by first | assumption | exact hst.sl 0 rfl | exact hst.sl 1 rfl | exact hst.old (by decide) (by assumption)) (by omega) (by omega) ?_; intro o150 p150 ha150 hr150; (first | subst ha150 | (obtain ⟨h1, h2⟩ := some_addr ha150; subst h1; subst h2; clear ha150) | skip)) | fail)
      refine idx_q rfl rfl ?_; go_wp2_with (first | (refine L_load1 (d := some 151) rfl rfl rfl (by rfl) Tryd.underlying3 rfl (cell_of_range1 hr150 (k := 2) (by first | decide | omega) (show v.ints[2]? = some (iW v.c) from rfl)) ?_) | (refine L_load1 (d := some 151) rfl rfl rfl (by rfl) Tryd.underlying3 rfl (by first | assumption | exact cell_of (hst.get 0 rfl) rfl | exact cell_of (hst.get 1 rfl) rfl) ?_) | fail)
      refine idx_q rfl rfl ?_; go_wp2_with fail
      refine idx_q rfl rfl ?_; go_wp2_with fail
      refine idx_q rfl rfl ?_; go_wp2_with fail
      refine idx_q rfl rfl ?_; go_wp2_with (first | (refine L_idxS (d := some 155) rfl rfl rfl (by rfl) (by rfl) Tryd.underlying44 el_int (by first | assumption | exact hst.sl 0 rfl | exact hst.sl 1 rfl | exact hst.old (by decide) (by assumption)) (by omega) (by omega) ?_; intro o155 p155 ha155 hr155; (first | subst ha155 | (obtain ⟨h1, h2⟩ := some_addr ha155; subst h1; subst h2; clear ha155) | skip)) | fail)
      refine idx_q rfl rfl ?_; go_wp2_with (first | (refine L_load1 (d := some 156) rfl rfl rfl (by rfl) Tryd.underlying3 rfl (cell_of_range1 hr155 (k := 1) (by first | decide | omega) (show v.ints[1]? = some (iW v.b) from rfl)) ?_) | (refine L_load1 (d := some 156) rfl rfl rfl (by rfl) Tryd.underlying3 rfl (by first | assumption | exact cell_of (hst.get 0 rfl) rfl | exact cell_of (hst.get 1 rfl) rfl) ?_) | fail)
      refine idx_q rfl rfl ?_; go_wp2_with fail
      refine idx_q rfl rfl ?_; go_wp2_with (first | (refine L_idxS (d := some 158) rfl rfl rfl (by rfl) (by rfl) Tryd.underlying44 el_int (by first | assumption | exact hst.sl 0 rfl | exact hst.sl 1 rfl | exact hst.old (by decide) (by assumption)) (by omega) (by omega) ?_; intro o158 p158 ha158 hr158; (first | subst ha158 | (obtain ⟨h1, h2⟩ := some_addr ha158; subst h1; subst h2; clear ha158) | skip)) | fail)
      refine idx_q rfl rfl ?_; go_wp2_with (first | (refine L_load1 (d := some 159) rfl rfl rfl (by rfl) Tryd.underlying3 rfl (cell_of_range1 hr158 (k := 2) (by first | decide | omega) (show v.ints[2]? = some (iW v.c) from rfl)) ?_) | (refine L_load1 (d := some 159) rfl rfl rfl (by rfl) Tryd.underlying3 rfl (by first | assumption | exact cell_of (hst.get 0 rfl) rfl | exact cell_of (hst.get 1 rfl) rfl) ?_) | fail)
      refine idx_q rfl rfl ?_; go_wp2_with fail
      refine idx_q rfl rfl ?_; go_wp2_with fail
      refine idx_g rfl ?_; go_wp2_with (first | (refine L_load1 (d := some 146) rfl rfl rfl (by rfl) Tryd.underlying3 rfl (cell_of_range1 hr145 (k := 1) (by first | decide | omega) (show v.ints[1]? = some (iW v.b) from rfl)) ?_) | (refine L_load1 (d := some 151) rfl rfl rfl (by rfl) Tryd.underlying3 rfl (cell_of_range1 hr150 (k := 2) (by first | decide | omega) (show v.ints[2]? = some (iW v.c) from rfl)) ?_) | (refine L_load1 (d := some 156) rfl rfl rfl (by rfl) Tryd.underlying3 rfl (cell_of_range1 hr155 (k := 1) (by first | decide | omega) (show v.ints[1]? = some (iW v.b) from rfl)) ?_) | (refine L_load1 (d := some 159) rfl rfl rfl (by rfl) Tryd.underlying3 rfl (cell_of_range1 hr158 (k := 2) (by first | decide | omega) (show v.ints[2]? = some (iW v.c) from rfl)) ?_) | (go_at_call_of 79 (Value.int .i64 2); (try clear hnew); refine (rturn_any v.a 2 (by decide) (by decide) _).mono ?_; rintro e W38 ⟨rfl, hnew⟩; replace hst := hst.keep hnew) | (go_at_call_of 79 (Value.int .i64 13); (try clear hnew); refine (rturn_any v.a 13 (by decide) (by decide) _).mono ?_; rintro e W38 ⟨rfl, hnew⟩; replace hst := hst.keep hnew) | (go_at_call_of 79 (Value.int .i64 22); (try clear hnew); refine (rturn_any v.a 22 (by decide) (by decide) _).mono ?_; rintro e W38 ⟨rfl, hnew⟩; replace hst := hst.keep hnew) | fail); refine ⟨by first | exact Below.refl _ _ | exact hnew.below, ?_⟩
      refine idx_g rfl ?_; go_wp2_with (first | (refine L_load1 (d := some 146) rfl rfl rfl (by rfl) Tryd.underlying3 rfl (cell_of_range1 hr145 (k := 1) (by first | decide | omega) (show v.ints[1]? = some (iW v.b) from rfl)) ?_) | (refine L_load1 (d := some 151) rfl rfl rfl (by rfl) Tryd.underlying3 rfl (cell_of_range1 hr150 (k := 2) (by first | decide | omega) (show v.ints[2]? = some (iW v.c) from rfl)) ?_) | (refine L_load1 (d := some 156) rfl rfl rfl (by rfl) Tryd.underlying3 rfl (cell_of_range1 hr155 (k := 1) (by first | decide | omega) (show v.ints[1]? = some (iW v.b) from rfl)) ?_) | (refine L_load1 (d := some 159) rfl rfl rfl (by rfl) Tryd.underlying3 rfl (cell_of_range1 hr158 (k := 2) (by first | decide | omega) (show v.ints[2]? = some (iW v.c) from rfl)) ?_) | (go_at_call_of 79 (Value.int .i64 2); (try clear hnew); refine (rturn_any v.a 2 (by decide) (by decide) _).mono ?_; rintro e W38 ⟨rfl, hnew⟩; replace hst := hst.keep hnew) | (go_at_call_of 79 (Value.int .i64 13); (try clear hnew); refine (rturn_any v.a 13 (by decide) (by decide) _).mono ?_; rintro e W38 ⟨rfl, hnew⟩; replace hst := hst.keep hnew) | (go_at_call_of 79 (Value.int .i64 22); (try clear hnew); refine (rturn_any v.a 22 (by decide) (by decide) _).mono ?_; rintro e W38 ⟨rfl, hnew⟩; replace hst := hst.keep hnew) | fail); refine ⟨by first | exact Below.refl _ _ | exact hnew.below, ?_⟩
      refine idx_q rfl rfl ?_; go_wp2_with fail
      refine idx_g rfl ?_; go_wp2_with (first | (refine L_load1 (d := some 146) rfl rfl rfl (by rfl) Tryd.underlying3 rfl (cell_of_range1 hr145 (k := 1) (by first | decide | omega) (show v.ints[1]? = some (iW v.b) from rfl)) ?_) | (refine L_load1 (d := some 151) rfl rfl rfl (by rfl) Tryd.underlying3 rfl (cell_of_range1 hr150 (k := 2) (by first | decide | omega) (show v.ints[2]? = some (iW v.c) from rfl)) ?_) | (refine L_load1 (d := some 156) rfl rfl rfl (by rfl) Tryd.underlying3 rfl (cell_of_range1 hr155 (k := 1) (by first | decide | omega) (show v.ints[1]? = some (iW v.b) from rfl)) ?_) | (refine L_load1 (d := some 159) rfl rfl rfl (by rfl) Tryd.underlying3 rfl (cell_of_range1 hr158 (k := 2) (by first | decide | omega) (show v.ints[2]? = some (iW v.c) from rfl)) ?_) | (go_at_call_of 79 (Value.int .i64 2); (try clear hnew); refine (rturn_any v.a 2 (by decide) (by decide) _).mono ?_; rintro e W38 ⟨rfl, hnew⟩; replace hst := hst.keep hnew) | (go_at_call_of 79 (Value.int .i64 13); (try clear hnew); refine (rturn_any v.a 13 (by decide) (by decide) _).mono ?_; rintro e W38 ⟨rfl, hnew⟩; replace hst := hst.keep hnew) | (go_at_call_of 79 (Value.int .i64 22); (try clear hnew); refine (rturn_any v.a 22 (by decide) (by decide) _).mono ?_; rintro e W38 ⟨rfl, hnew⟩; replace hst := hst.keep hnew) | fail); refine ⟨by first | exact Below.refl _ _ | exact hnew.below, ?_⟩
      refine idx_g rfl ?_; go_wp2_with fail; refine ⟨by first | exact Below.refl _ _ | exact hnew.below, ?_⟩
      refine idx_g rfl ?_; go_wp2_with fail; refine ⟨by first | exact Below.refl _ _ | exact hnew.below, ?_⟩
      refine idx_g rfl ?_; go_wp2_with fail; refine ⟨by first | exact Below.refl _ _ | exact hnew.below, ?_⟩
      refine idx_nil ?_
      go_wp2_with fail
      clear hqn hnew b6 b7 hxor hand hr145 hr150 hr155 hr158
      go_wp2_with (first
       | fail)
      have hst : St w W38 [.row (some ⟨o95, p95, none⟩) 8 c89 3 1 (shV v 7), .row (some ⟨o132, p132, none⟩) 64 64 3 1 wl] := hst
      obtain ⟨gko, rfl⟩ : ∃ x, x = gk := ⟨_, rfl⟩
      go_loopg [19] 7 (fun gk s19 wr => ∃ i : Nat, Hid (i = gk) ∧ i ≤ 7 ∧ s19 = .int .i64 (i : Int) ∧ St w wr [.row (some ⟨o95, p95, none⟩) 8 c89 3 1 (shV v i), .row (some ⟨o132, p132, none⟩) 64 64 3 1 wl])
      case atStart => exact ⟨7, Lib.hid rfl, by decide, rfl, hst⟩
      case round =>
       clear hst
       obtain ⟨i, HI, hi7, rfl, hst⟩ := hrel
       by_cases hi0 : 0 < i
       ·obtain ⟨i, rfl⟩ : ∃ k, i = k + 1 := ⟨i - 1, by omega⟩
        have HA := Lib.hid (shV_at v i (by omega))
        have HS := Lib.hid (shV_set v i (by omega))
        generalize v.get i = x at HA HS
        go_wp2_with (first
         | (refine L_load1 (d := some 173) rfl rfl rfl (by rfl) Tryd.underlying3 rfl (cell_of_range1 hr172 (k := i) (by omega) HA.out) ?_)
         | (refine L_idxS (d := some 172) rfl rfl rfl (by rfl) (by rfl) Tryd.underlying44 el_int (by first | assumption | exact hst.sl 0 rfl | exact hst.old (by decide) (by assumption)) (by omega) (by omega) ?_; intro o172 p172 ha172 hr172; (first | subst ha172 | (obtain ⟨h1, h2⟩ := some_addr ha172; subst h1; subst h2; clear ha172) | skip))
         | (refine L_load1 (d := some 173) rfl rfl rfl (by rfl) Tryd.underlying3 rfl (by first | assumption | exact cell_of (hst.get 0 rfl) rfl) ?_)
         | (first | (refine L_idxO (d := some 174) rfl rfl hst rfl (by rfl) (by rfl) Tryd.underlying44 el_int 0 rfl (by first | rfl | omega) (by omega) (by omega) ?_; intro o174 p174 ha174; (first | subst ha174 | (obtain ⟨h1, h2⟩ := some_addr ha174; subst h1; subst h2; clear ha174) | skip)))
         | (refine wpl_at (.store 3 (.tmp 174) (.tmp 173)) rfl ?_; first | (refine L_store1 rfl rfl hst rfl (by rfl) (ev_tmp rfl) rfl el_int 0 rfl (by first | exact of_decide_eq_true rfl | omega | (simp; done) | (simp; omega)) ?_; clear hst; intro WS8 hst; simp only [List.set_cons_zero, List.set_cons_succ] at hst) | (refine L_storeR rfl rfl hst rfl (by rfl) (ev_tmp rfl) rfl el_int 0 rfl (by first | omega | (simp; done) | (simp; omega)) ?_; clear hst; intro WS8 hst; simp only [List.set_cons_zero, List.set_cons_succ] at hst) | (refine L_storeR (i := 0) rfl rfl hst rfl (by rfl) (ev_tmp rfl) rfl el_int 0 rfl (by first | omega | (simp; done) | (simp; omega)) ?_; clear hst; intro WS8 hst; simp only [List.set_cons_zero, List.set_cons_succ] at hst))
         | fail)
        go_roundg (gk - 1)
        case measure => have hi := HI.out; omega
        case rel =>
         have hi := HI.out
         refine ⟨i, Lib.hid (by omega), by omega, by go_num, ?_⟩
         rw [← HS.out]
         simpa using hst
       ·obtain rfl : i = 0 := by omega
        have b8 := v.d.h
        have hm4 := hm4.out
        have hm0 := hm0.out
        go_wp2_with (first
         | (refine L_load1 (d := some 178) rfl rfl rfl (by rfl) Tryd.underlying3 rfl (cell_of_range1 hr177 (k := 4) (by decide) (shV_4 v)) ?_)
         | (refine L_idxS (d := some 177) rfl rfl rfl (by rfl) (by rfl) Tryd.underlying44 el_int (by first | assumption | exact hst.sl 0 rfl | exact hst.old (by decide) (by assumption)) (by omega) (by omega) ?_; intro o177 p177 ha177 hr177; (first | subst ha177 | (obtain ⟨h1, h2⟩ := some_addr ha177; subst h1; subst h2; clear ha177) | skip))
         | (refine L_load1 (d := some 178) rfl rfl rfl (by rfl) Tryd.underlying3 rfl (by first | assumption | exact cell_of (hst.get 0 rfl) rfl) ?_)
         | (first | (refine L_idxO (d := some 182) rfl rfl hst rfl (by rfl) (by rfl) Tryd.underlying44 el_int 0 rfl (by first | rfl | omega) (by omega) (by omega) ?_; intro o182 p182 ha182; (first | subst ha182 | (obtain ⟨h1, h2⟩ := some_addr ha182; subst h1; subst h2; clear ha182) | skip)))
         | (refine wpl_at (.store 3 (.tmp 182) (.tmp 181)) rfl ?_; first | (refine L_store1 rfl rfl hst rfl (by rfl) (ev_tmp rfl) rfl el_int 0 rfl (by first | exact of_decide_eq_true rfl | omega | (simp; done) | (simp; omega)) ?_; clear hst; intro WS8 hst; simp only [List.set_cons_zero, List.set_cons_succ] at hst) | (refine L_storeR rfl rfl hst rfl (by rfl) (ev_tmp rfl) rfl el_int 0 rfl (by first | omega | (simp; done) | (simp; omega)) ?_; clear hst; intro WS8 hst; simp only [List.set_cons_zero, List.set_cons_succ] at hst) | (refine L_storeR (i := 0) rfl rfl hst rfl (by rfl) (ev_tmp rfl) rfl el_int 0 rfl (by first | omega | (simp; done) | (simp; omega)) ?_; clear hst; intro WS8 hst; simp only [List.set_cons_zero, List.set_cons_succ] at hst))
         | (first | (refine L_idxO (d := some 188) rfl rfl hst rfl (by rfl) (by rfl) Tryd.underlying44 el_int 0 rfl (by first | rfl | omega) (by omega) (by omega) ?_; intro o188 p188 ha188; (first | subst ha188 | (obtain ⟨h1, h2⟩ := some_addr ha188; subst h1; subst h2; clear ha188) | skip)))
         | (refine wpl_at (.store 3 (.tmp 188) (.tmp 187)) rfl ?_; first | (refine L_store1 rfl rfl hst rfl (by rfl) (ev_tmp rfl) rfl el_int 0 rfl (by first | exact of_decide_eq_true rfl | omega | (simp; done) | (simp; omega)) ?_; clear hst; intro WS6 hst; simp only [List.set_cons_zero, List.set_cons_succ] at hst) | (refine L_storeR rfl rfl hst rfl (by rfl) (ev_tmp rfl) rfl el_int 0 rfl (by first | omega | (simp; done) | (simp; omega)) ?_; clear hst; intro WS6 hst; simp only [List.set_cons_zero, List.set_cons_succ] at hst) | (refine L_storeR (i := 0) rfl rfl hst rfl (by rfl) (ev_tmp rfl) rfl el_int 0 rfl (by first | omega | (simp; done) | (simp; omega)) ?_; clear hst; intro WS6 hst; simp only [List.set_cons_zero, List.set_cons_succ] at hst))
         | fail)
        go_roundg (gko - 1)
        case measure => have ht := HT.out; omega
        case rel =>
         have ht := HT.out
         refine ⟨t + 1, Lib.hid (by omega), by go_num, ?_⟩
         rw [HR.out]
         exact hst
     ·obtain rfl : t = 64 := by omega
      clear ht HT hlt
      go_wp2_with (first
       | fail)
      generalize R 64 = v at *
      have hst : St w wr [.row A89 8 c89 3 1 (addV v s 0), .row g21 64 64 3 1 wl] := hst
      go_loopg [20] 8 (fun gk s20 wr => ∃ i : Nat, Hid (i + gk = 8) ∧ s20 = .int .i64 (i : Int) ∧ St w wr [.row A89 8 c89 3 1 (addV v s i), .row g21 64 64 3 1 wl])
      case atStart => exact ⟨0, Lib.hid rfl, rfl, hst⟩
      case round =>
       clear hst
       obtain ⟨i, HI, rfl, hst⟩ := hrel
       have hi := HI.out
       by_cases hi8 : i < 8
       ·clear hi
        have HA := Lib.hid (addV_at v s i hi8)
        have HB := Lib.hid (s.ints_at i hi8)
        have HS := Lib.hid (addV_set v s i hi8)
        generalize v.get i = x at *
        generalize s.get i = y at *
        have b1 := x.h
        have b2 := y.h
        have hm := iw_sum2 x y
        go_wp2_with (first
         | fail)
        refine wp_region_idx [(0, 0), (1, 0), (2, 0), (3, 0), (4, 0), (5, 0), (6, 0), (7, 2), (8, 2), (9, 2), (10, 2), (11, 2), (12, 2), (13, 1)] (by kernel_rfl) (by kernel_rfl) ?_
        replace hst := hst.drew
        refine idx_q rfl rfl ?_; go_wp2_with fail
        refine idx_q rfl rfl ?_; go_wp2_with fail
        refine idx_q rfl rfl ?_; go_wp2_with fail
        refine idx_q rfl rfl ?_; go_wp2_with fail
        refine idx_q rfl rfl ?_; go_wp2_with (first | (refine L_idxS (d := some 197) rfl rfl rfl (by rfl) (by rfl) Tryd.underlying44 el_int (by first | exact hst.old (by decide) hA | assumption | exact hst.sl 0 rfl | exact hst.old (by decide) (by assumption)) (by omega) (by omega) ?_; intro o197 p197 ha197 hr197; (first | subst ha197 | (obtain ⟨h1, h2⟩ := some_addr ha197; subst h1; subst h2; clear ha197) | skip)) | fail)
        refine idx_q rfl rfl ?_; go_wp2_with (first | (refine L_load1 (d := some 198) rfl rfl rfl (by rfl) Tryd.underlying3 rfl (cell_of_range1 hr197 (k := i) (by omega) HA.out) ?_) | (refine L_load1 (d := some 198) rfl rfl rfl (by rfl) Tryd.underlying3 rfl (by first | assumption | exact cell_of (hst.get 0 rfl) rfl) ?_) | fail)
        refine idx_q rfl rfl ?_; go_wp2_with fail
        refine idx_g rfl ?_; go_wp2_with fail; refine ⟨by first | exact Below.refl _ _ | exact hnew.below, ?_⟩
        refine idx_g rfl ?_; go_wp2_with (first | (refine L_idxS (d := some 201) rfl rfl rfl (by rfl) (by rfl) Tryd.underlying44 el_int (by first | exact hst.old (by decide) hA | assumption | exact hst.sl 0 rfl | exact hst.old (by decide) (by assumption)) (by omega) (by omega) ?_; intro o201 p201 ha201 hr201; (first | subst ha201 | (obtain ⟨h1, h2⟩ := some_addr ha201; subst h1; subst h2; clear ha201) | skip)) | fail); refine ⟨by first | exact Below.refl _ _ | exact hnew.below, ?_⟩
        refine idx_g rfl ?_; go_wp2_with (first | (refine L_load1 (d := some 202) rfl rfl rfl (by rfl) Tryd.underlying3 rfl (cell_of_range1 hr201 (k := i) (by omega) HB.out) ?_) | (refine L_load1 (d := some 202) rfl rfl rfl (by rfl) Tryd.underlying3 rfl (by first | assumption | exact cell_of (hst.get 0 rfl) rfl) ?_) | fail); refine ⟨by first | exact Below.refl _ _ | exact hnew.below, ?_⟩
        refine idx_g rfl ?_; go_wp2_with fail; refine ⟨by first | exact Below.refl _ _ | exact hnew.below, ?_⟩
        refine idx_g rfl ?_; go_wp2_with fail; refine ⟨by first | exact Below.refl _ _ | exact hnew.below, ?_⟩
        refine idx_g rfl ?_; go_wp2_with (first | (first | (refine L_idxO (d := some 205) rfl rfl hst rfl (by rfl) (by rfl) Tryd.underlying44 el_int 0 rfl (by first | rfl | omega) (by omega) (by omega) ?_; intro o205 p205 ha205; (first | subst ha205 | (obtain ⟨h1, h2⟩ := some_addr ha205; subst h1; subst h2; clear ha205) | skip))) | fail); refine ⟨by first | exact Below.refl _ _ | exact hnew.below, ?_⟩
        refine idx_e rfl ?_; go_wp2_with (first | (refine wpl_at (.store 3 (.tmp 205) (.tmp 204)) rfl ?_; first | (refine L_store1 rfl rfl hst rfl (by rfl) (ev_tmp rfl) rfl el_int 0 rfl (by first | exact of_decide_eq_true rfl | omega | (simp; done) | (simp; omega)) ?_; clear hst; intro WS13 hst; simp only [List.set_cons_zero, List.set_cons_succ] at hst) | (refine L_storeR rfl rfl hst rfl (by rfl) (ev_tmp rfl) rfl el_int 0 rfl (by first | omega | (simp; done) | (simp; omega)) ?_; clear hst; intro WS13 hst; simp only [List.set_cons_zero, List.set_cons_succ] at hst) | (refine L_storeR (i := 0) rfl rfl hst rfl (by rfl) (ev_tmp rfl) rfl el_int 0 rfl (by first | omega | (simp; done) | (simp; omega)) ?_; clear hst; intro WS13 hst; simp only [List.set_cons_zero, List.set_cons_succ] at hst)) | fail)
        refine idx_nil ?_
        go_wp2_with (first
         | fail)
        go_roundg (gk - 1)
        case measure => have hi := HI.out; omega
        case rel =>
         have hi := HI.out
         refine ⟨i + 1, Lib.hid (by omega), by go_num, ?_⟩
         rw [← HS.out]
         simpa using hst
       ·obtain rfl : i = 8 := by omega
        clear hi HI
        go_wp2_with (first
         | fail)
        rw [addV_end, HRE.out] at hst
        go_ret
        exact ⟨_, _, rfl, hst.pick [0] (by decide)⟩
end Go.Proofs.YtkbleigmfcleaaaDoor

set_option maxRecDepth 20000
set_option linter.unusedSimpArgs false
set_option linter.unusedVariables false
namespace Go.Proofs.YtkbleigmfcleaaaDoor
open Go.RowKit
theorem bigE_eight (n : Nat) : bigE 8 n = eight n := rfl
def padAt (b : List UInt8) (z : Nat) : List UInt8 := b ++ [128] ++ List.replicate z 0
theorem padAt_succ (b : List UInt8) (z : Nat) : padAt b z ++ [0] = padAt b (z + 1) := by simp [padAt, List.replicate_succ']
theorem padAt_0 (b : List UInt8) : padAt b 0 = b ++ [128] := by simp [padAt]
theorem padAt_end (b : List UInt8) (h : b.length * 8 < 18446744073709551616) : padAt b (zerosFor b.length) ++ bigE 8 (b.length * 8) = padded b := by
 rw [bigE_eight, padAt, padded, Nat.mod_eq_of_lt h]
theorem length_padAt (b : List UInt8) (z : Nat) : (padAt b z).length = b.length + 1 + z := by simp [padAt]; omega
theorem dCells_next (s : S8) (i : Nat) (hi : i < 32) : (dCells s i).setIfInBounds i (byteV (UInt8.ofNat ((s.get (i / 4)).n >>> (24 - 8 * (i % 4))))) = dCells s (i + 1) := by
 have := dCells_set s (i / 4) (i % 4) (by omega) (by omega)
 rw [show 4 * (i / 4) + i % 4 = i by omega] at this
 exact this
set_option maxHeartbeats 2000000 in
set_option maxRecDepth 100000 in
theorem rsum_any (b : List UInt8) (A : Option Addr) (n c : Nat) (w : World) (hx : SlR w A n c 1 (bytesL b)) (hn : n ≤ 140737488355000) :
  Calls Tryd.prog 38 #[.slice A n c] w fun e w' => e = .returned (sha b).v ∧ St w w' [] := by
 have hst := St.refl w
 have hl := hx.1
 rw [length_bytesL, Nat.mul_one] at hl
 obtain ⟨z, K, P, hz, hK, HE, HP, HF⟩ : ∃ (z K : Nat) (P : List UInt8), z = (119 - n % 64) % 64 ∧ n + 1 + z + 8 = 64 * K ∧ Hid (padAt b z ++ bigE 8 (n * 8) = P) ∧ Hid (P.length = 64 * K) ∧ Hid ((blocksS begS P K).bytes = (sha b).l) := by
  have he := padAt_end b (by omega)
  have hpl := length_padded b
  have hpn : (padded b).length = n + 1 + zerosFor b.length + 8 := by rw [← he, List.length_append, length_padAt, length_bigE, hl]
  rw [hl] at he hpn
  exact ⟨zerosFor n, (padded b).length / 64, padded b, rfl, by omega, Lib.hid he, Lib.hid (by omega), Lib.hid rfl⟩
 have Hl := Lib.hid hl
 have Hz := Lib.hid hz
 have H0 := Lib.hid (show bytesL b ++ [Value.int .u8 128] = bytesL (padAt b 0) by rw [padAt_0, bytesL_append]; rfl)
 have HS := Lib.hid (fun z => show bytesL (padAt b z) ++ [Value.int .u8 0] = bytesL (padAt b (z + 1)) by rw [← padAt_succ, bytesL_append]; rfl)
 have hz64 : z < 64 := by omega
 have HK := Lib.hid hK
 have HPut : ∀ w, Calls Tryd.prog 62 #[.int .i64 ((n : Int) * 8), .int .i64 8] w fun e w' => ∃ A, e = .returned (.tuple #[.slice A 8 8, .bool ((((n * 8) >>> 64 : Nat) : Int) == 0)]) ∧ St w w' [.row A 8 8 5 1 (bytesL (bigE 8 (n * 8)))] := fun w => by
  have := rput_any (n * 8) 8 w (by decide) (by decide) (by omega)
  rw [show ((n * 8 : Nat) : Int) = (n : Int) * 8 by omega] at this
  exact this
 have HPut := Lib.hid HPut
 rename_i HPut'
 clear hz hl hK HPut'
 go_enter Tryd.func38, Tryd.ntmps38
 go_wp2_with (first
  | (refine L_allocA (d := some 2) rfl rfl rfl el_api_Digest ?_; (try clear hnew); intro g2 W2 hnew; replace hst := hst.trans hnew; simp only [List.cons_append, List.nil_append] at hst)
  | (refine L_buildS (d := some 11) rfl rfl rfl [] (bs_0 ) rfl Tryd.underlying49 el_uint8 rfl (by first | (simp [Value.cells]; done) | (simp [Value.cells, Dig.size]; done)) (by decide) (by decide) ?_; (try clear hnew); intro g11 W11 hnew; replace hst := hst.trans hnew; simp only [List.cons_append, List.nil_append] at hst; simp only [List.flatMap_cons, List.flatMap_nil, List.append_nil, Value.cells, List.toList_toArray] at hst)
  | (refine L_appendO (d := some 13) rfl rfl hst rfl (by rfl) (by rfl) Tryd.underlying49 el_uint8 rfl (by decide) (by decide) 0 rfl (by first | rfl | omega) (by first | exact hst.old (by decide) hx | exact hst.sl 0 rfl | exact hst.sl 1 rfl | exact hst.sl 2 rfl | assumption | exact hst.old (by decide) (by assumption)) (by first | exact oneCell_bytes | (simp [Value.oneCell']; done)) (by omega) ?_; clear hst; intro A13 c13 W13 hst; simp only [List.set_cons_zero, List.set_cons_succ, List.nil_append, Nat.zero_add] at hst)
  | (refine L_appendO (d := some 13) rfl rfl hst rfl (by rfl) (by rfl) Tryd.underlying49 el_uint8 rfl (by decide) (by decide) 1 rfl (by first | rfl | omega) (by first | exact hst.old (by decide) hx | exact hst.sl 0 rfl | exact hst.sl 1 rfl | exact hst.sl 2 rfl | assumption | exact hst.old (by decide) (by assumption)) (by first | exact oneCell_bytes | (simp [Value.oneCell']; done)) (by omega) ?_; clear hst; intro A13 c13 W13 hst; simp only [List.set_cons_zero, List.set_cons_succ, List.nil_append, Nat.zero_add] at hst)
  | (refine L_appendO (d := some 13) rfl rfl hst rfl (by rfl) (by rfl) Tryd.underlying49 el_uint8 rfl (by decide) (by decide) 2 rfl (by first | rfl | omega) (by first | exact hst.old (by decide) hx | exact hst.sl 0 rfl | exact hst.sl 1 rfl | exact hst.sl 2 rfl | assumption | exact hst.old (by decide) (by assumption)) (by first | exact oneCell_bytes | (simp [Value.oneCell']; done)) (by omega) ?_; clear hst; intro A13 c13 W13 hst; simp only [List.set_cons_zero, List.set_cons_succ, List.nil_append, Nat.zero_add] at hst)
  | (refine L_appendF (d := some 13) rfl rfl rfl (by rfl) (by rfl) Tryd.underlying49 el_uint8 rfl (by decide) (by assumption) (by first | assumption | exact hst.old (by decide) hx | exact hst.sl 0 rfl | exact hst.sl 1 rfl | exact hst.sl 2 rfl | assumption | exact hst.old (by decide) (by assumption)) (by omega) (by omega) (by omega) ?_; (try clear hnew); intro A13 c13 W13 hnew; replace hst := hst.trans hnew; simp only [List.cons_append, List.nil_append] at hst)
  | (refine L_buildS (d := some 14) rfl rfl rfl [_] (bs_1 ev_const) rfl Tryd.underlying49 el_uint8 rfl (by first | (simp [Value.cells]; done) | (simp [Value.cells, Dig.size]; done)) (by decide) (by decide) ?_; (try clear hnew); intro g14 W14 hnew; replace hst := hst.trans hnew; simp only [List.cons_append, List.nil_append] at hst; simp only [List.flatMap_cons, List.flatMap_nil, List.append_nil, Value.cells, List.toList_toArray] at hst)
  | (refine L_appendO (d := some 15) rfl rfl hst rfl (by rfl) (by rfl) Tryd.underlying49 el_uint8 rfl (by decide) (by decide) 0 rfl (by first | rfl | omega) (by first | exact hst.old (by decide) hx | exact hst.sl 0 rfl | exact hst.sl 1 rfl | exact hst.sl 2 rfl | assumption | exact hst.old (by decide) (by assumption)) (by first | exact oneCell_bytes | (simp [Value.oneCell']; done)) (by omega) ?_; clear hst; intro A15 c15 W15 hst; simp only [List.set_cons_zero, List.set_cons_succ, List.nil_append, Nat.zero_add] at hst)
  | (refine L_appendO (d := some 15) rfl rfl hst rfl (by rfl) (by rfl) Tryd.underlying49 el_uint8 rfl (by decide) (by decide) 1 rfl (by first | rfl | omega) (by first | exact hst.old (by decide) hx | exact hst.sl 0 rfl | exact hst.sl 1 rfl | exact hst.sl 2 rfl | assumption | exact hst.old (by decide) (by assumption)) (by first | exact oneCell_bytes | (simp [Value.oneCell']; done)) (by omega) ?_; clear hst; intro A15 c15 W15 hst; simp only [List.set_cons_zero, List.set_cons_succ, List.nil_append, Nat.zero_add] at hst)
  | (refine L_appendO (d := some 15) rfl rfl hst rfl (by rfl) (by rfl) Tryd.underlying49 el_uint8 rfl (by decide) (by decide) 2 rfl (by first | rfl | omega) (by first | exact hst.old (by decide) hx | exact hst.sl 0 rfl | exact hst.sl 1 rfl | exact hst.sl 2 rfl | assumption | exact hst.old (by decide) (by assumption)) (by first | exact oneCell_bytes | (simp [Value.oneCell']; done)) (by omega) ?_; clear hst; intro A15 c15 W15 hst; simp only [List.set_cons_zero, List.set_cons_succ, List.nil_append, Nat.zero_add] at hst)
  | (refine L_appendF (d := some 15) rfl rfl rfl (by rfl) (by rfl) Tryd.underlying49 el_uint8 rfl (by decide) (by assumption) (by first | assumption | exact hst.old (by decide) hx | exact hst.sl 0 rfl | exact hst.sl 1 rfl | exact hst.sl 2 rfl | assumption | exact hst.old (by decide) (by assumption)) (by omega) (by omega) (by omega) ?_; (try clear hnew); intro A15 c15 W15 hnew; replace hst := hst.trans hnew; simp only [List.cons_append, List.nil_append] at hst)
  | fail)
 have hst : St w W15 [.row A15 (n + 1 + 0) c15 5 1 (bytesL (padAt b 0)), .blk g2 23 zeroD.arr] := by
  rw [← H0.out]
  exact hst.pick [1, 2] (by decide)
 clear hnew
 go_loopg [3] z (fun gk s3 wr => ∃ (j : Nat) (A' : Option Addr) (c' : Nat), Hid (j + gk = z) ∧ s3 = .slice A' (n + 1 + j) c' ∧ St w wr [.row A' (n + 1 + j) c' 5 1 (bytesL (padAt b j)), .blk g2 23 zeroD.arr])
 case atStart => exact ⟨0, A15, c15, Lib.hid (by omega), rfl, hst⟩
 case round =>
  clear hst
  obtain ⟨j, A', c', HJ, rfl, hst⟩ := hrel
  have hz := Hz.out
  have hj := HJ.out
  have hj64 : j < 64 := by omega
  by_cases h0 : 0 < gk
  ·have hr : (((n : Int) + 1 + (j : Int)) % 64 != 56) = true := by rw [bne_iff_ne]; omega
   clear hz hj
   go_wp2_with (first
    | (refine L_buildS (d := some 21) rfl rfl rfl [_] (bs_1 ev_const) rfl Tryd.underlying49 el_uint8 rfl (by first | (simp [Value.cells]; done) | (simp [Value.cells, Dig.size]; done)) (by decide) (by decide) ?_; (try clear hnew); intro g21 W21 hnew; replace hst := hst.trans hnew; simp only [List.cons_append, List.nil_append] at hst; simp only [List.flatMap_cons, List.flatMap_nil, List.append_nil, Value.cells, List.toList_toArray] at hst)
    | (refine L_appendO (d := some 22) rfl rfl hst rfl (by rfl) (by rfl) Tryd.underlying49 el_uint8 rfl (by decide) (by decide) 0 rfl (by first | rfl | omega) (by first | exact hst.sl 0 rfl | exact hst.sl 1 rfl | assumption | exact hst.old (by decide) (by assumption)) (by first | exact oneCell_bytes | (simp [Value.oneCell']; done)) (by omega) ?_; clear hst; intro A22 c22 W22 hst; simp only [List.set_cons_zero, List.set_cons_succ, List.nil_append, Nat.zero_add] at hst)
    | (refine L_appendO (d := some 22) rfl rfl hst rfl (by rfl) (by rfl) Tryd.underlying49 el_uint8 rfl (by decide) (by decide) 1 rfl (by first | rfl | omega) (by first | exact hst.sl 0 rfl | exact hst.sl 1 rfl | assumption | exact hst.old (by decide) (by assumption)) (by first | exact oneCell_bytes | (simp [Value.oneCell']; done)) (by omega) ?_; clear hst; intro A22 c22 W22 hst; simp only [List.set_cons_zero, List.set_cons_succ, List.nil_append, Nat.zero_add] at hst)
    | (refine L_appendF (d := some 22) rfl rfl rfl (by rfl) (by rfl) Tryd.underlying49 el_uint8 rfl (by decide) (by assumption) (by first | assumption | exact hst.sl 0 rfl | exact hst.sl 1 rfl | assumption | exact hst.old (by decide) (by assumption)) (by omega) (by omega) (by omega) ?_; (try clear hnew); intro A22 c22 W22 hnew; replace hst := hst.trans hnew; simp only [List.cons_append, List.nil_append] at hst)
    | fail)
   go_roundg (gk - 1)
   case measure => omega
   case rel =>
    have hj := HJ.out
    refine ⟨j + 1, A22, c22, Lib.hid (by omega), rfl, ?_⟩
    rw [← HS.out]
    exact hst.pick [1, 2] (by decide)
  ·have hr : (((n : Int) + 1 + (j : Int)) % 64 != 56) = false := by rw [bne_eq_false_iff_eq]; omega
   obtain rfl : j = z := by omega
   clear hz hj HJ h0 HS
   go_wp2_with (first
    | (go_at_call 62; refine (HPut.out _).mono ?_; rintro e W27 ⟨A27, rfl, hnew⟩; replace hst := hst.trans hnew; clear hnew; simp only [List.cons_append, List.nil_append] at hst)
    | (go_at_call 63; (try clear hnew); refine (rrounds_any _).mono ?_; rintro e W34 ⟨A34, rfl, hnew⟩; replace hst := hst.trans hnew; clear hnew; simp only [List.cons_append, List.nil_append] at hst)
    | (refine L_appendO (d := some 32) rfl rfl hst rfl (by rfl) (by rfl) Tryd.underlying49 el_uint8 rfl (by decide) (by decide) 0 rfl (by first | rfl | omega) (by first | exact hst.sl 0 rfl | exact hst.sl 1 rfl | exact hst.sl 2 rfl | exact hst.sl 3 rfl | assumption | exact hst.old (by decide) (by assumption)) (by first | exact oneCell_bytes | (simp [Value.oneCell']; done)) (by omega) ?_; clear hst; intro A32 c32 W32 hst; simp only [List.set_cons_zero, List.set_cons_succ, List.nil_append, Nat.zero_add] at hst)
    | (refine L_appendO (d := some 32) rfl rfl hst rfl (by rfl) (by rfl) Tryd.underlying49 el_uint8 rfl (by decide) (by decide) 1 rfl (by first | rfl | omega) (by first | exact hst.sl 0 rfl | exact hst.sl 1 rfl | exact hst.sl 2 rfl | exact hst.sl 3 rfl | assumption | exact hst.old (by decide) (by assumption)) (by first | exact oneCell_bytes | (simp [Value.oneCell']; done)) (by omega) ?_; clear hst; intro A32 c32 W32 hst; simp only [List.set_cons_zero, List.set_cons_succ, List.nil_append, Nat.zero_add] at hst)
    | (refine L_appendO (d := some 32) rfl rfl hst rfl (by rfl) (by rfl) Tryd.underlying49 el_uint8 rfl (by decide) (by decide) 2 rfl (by first | rfl | omega) (by first | exact hst.sl 0 rfl | exact hst.sl 1 rfl | exact hst.sl 2 rfl | exact hst.sl 3 rfl | assumption | exact hst.old (by decide) (by assumption)) (by first | exact oneCell_bytes | (simp [Value.oneCell']; done)) (by omega) ?_; clear hst; intro A32 c32 W32 hst; simp only [List.set_cons_zero, List.set_cons_succ, List.nil_append, Nat.zero_add] at hst)
    | (refine L_appendO (d := some 32) rfl rfl hst rfl (by rfl) (by rfl) Tryd.underlying49 el_uint8 rfl (by decide) (by decide) 3 rfl (by first | rfl | omega) (by first | exact hst.sl 0 rfl | exact hst.sl 1 rfl | exact hst.sl 2 rfl | exact hst.sl 3 rfl | assumption | exact hst.old (by decide) (by assumption)) (by first | exact oneCell_bytes | (simp [Value.oneCell']; done)) (by omega) ?_; clear hst; intro A32 c32 W32 hst; simp only [List.set_cons_zero, List.set_cons_succ, List.nil_append, Nat.zero_add] at hst)
    | (refine L_appendF (d := some 32) rfl rfl rfl (by rfl) (by rfl) Tryd.underlying49 el_uint8 rfl (by decide) (by assumption) (by first | assumption | exact hst.sl 0 rfl | exact hst.sl 1 rfl | exact hst.sl 2 rfl | exact hst.sl 3 rfl | assumption | exact hst.old (by decide) (by assumption)) (by omega) (by omega) (by omega) ?_; (try clear hnew); intro A32 c32 W32 hnew; replace hst := hst.trans hnew; simp only [List.cons_append, List.nil_append] at hst)
    | (refine L_buildS (d := some 33) rfl rfl rfl [_, _, _, _, _, _, _, _] (bs_8 ev_const ev_const ev_const ev_const ev_const ev_const ev_const ev_const) rfl Tryd.underlying44 el_int rfl (by first | (simp [Value.cells]; done) | (simp [Value.cells, Dig.size]; done)) (by decide) (by decide) ?_; (try clear hnew); intro g33 W33 hnew; replace hst := hst.trans hnew; simp only [List.cons_append, List.nil_append] at hst; simp only [List.flatMap_cons, List.flatMap_nil, List.append_nil, Value.cells, List.toList_toArray] at hst)
    | fail)
   rw [HK.out]
   obtain ⟨tb, htb, hst2⟩ : ∃ tb, Hid (∀ t, t < 64 → tb[t]? = some (iW (tbl t))) ∧ St w W34 [.row g33 8 8 3 1 (blocksS begS P 0).ints, .row A32 (64 * K) c32 5 1 (bytesL P), .row A34 64 64 3 1 tb, .blk g2 23 zeroD.arr] :=
    ⟨tableI, Lib.hid tableI_at, by
     have h := hst.pick [1, 3, 0, 4] (by decide)
     simp only [List.filterMap_cons, List.filterMap_nil, List.getElem?_cons_succ, List.getElem?_cons_zero] at h
     rw [← bytesL_append, HE.out, HK.out] at h
     exact h⟩
   clear hst hr HPut H0
   have hst := hst2
   clear hst2
   have hcap := (hst.sl 1 rfl).2.1
   go_loopg [6, 8] K (fun gk s6 s8 wr => ∃ (k : Nat) (H : Option Addr) (hc : Nat), Hid (k + gk = K) ∧ s6 = .slice H 8 hc ∧ s8 = .int .i64 ((64 * k : Nat) : Int) ∧ St w wr [.row H 8 hc 3 1 (blocksS begS P k).ints, .row A32 (64 * K) c32 5 1 (bytesL P), .row A34 64 64 3 1 tb, .blk g2 23 zeroD.arr])
   case atStart => exact ⟨0, _, _, Lib.hid (by omega), rfl, rfl, hst⟩
   case round =>
    clear hst
    obtain ⟨k, H, hc, HKK, rfl, rfl, hst⟩ := hrel
    have hk := HKK.out
    by_cases hkK : k < K
    ·clear hk
     have HX := Lib.hid (show ((bytesL P).drop (64 * k * 1)).take ((64 * k + 64 - 64 * k) * 1) = bytesL ((P.drop (64 * k)).take 64) by rw [bytesL_cut, show 64 * k + 64 - 64 * k = 64 by omega])
     have HN := Lib.hid (show blocksS begS P (k + 1) = blockS (blocksS begS P k) ((P.drop (64 * k)).take 64) by rw [← blockS_take]; rfl)
     have e1 : ((64 * k : Nat) : Int) = 64 * (k : Int) := by omega
     have hKb : K ≤ 2199023255600 := by have := HK.out; omega
     rw [e1]
     clear e1
     generalize blocksS begS P k = S at *
     go_wp2_with (first
      | (go_at_call 64; (try clear hnew); refine (rblock_any S ((P.drop (64 * k)).take 64) tb htb _ _ _ _ _ _ _ (hst.sl 0 rfl) (hst.sl 2 rfl) (by rw [← HX.out]; simpa using hs47)).mono ?_; rintro e W48 ⟨A48, c48, rfl, hnew⟩; replace hst := hst.trans hnew; clear hnew; simp only [List.cons_append, List.nil_append] at hst)
      | (first | (refine L_cutS (d := some 47) rfl rfl rfl (by rfl) Tryd.underlying49 el_uint8 (by decide) (by first | assumption | exact hst.old (by decide) (by assumption) | exact hst.sl 0 rfl | exact hst.sl 1 rfl | exact hst.sl 2 rfl | exact hst.sl 3 rfl) (64*k) (64*k+64) _ (Or.inr ⟨_, _, rfl, by first | exact ev_tmp rfl | exact ev_int rfl (by omega) | (rw [ev_tmp rfl]; congr 1; omega)⟩) (Or.inr ⟨_, _, rfl, by first | exact ev_tmp rfl | exact ev_int rfl (by omega) | (rw [ev_tmp rfl]; congr 1; omega)⟩) (Or.inl ⟨rfl, rfl⟩) (by omega) (by omega) (by omega) (by omega) ?_; intro A47 c47 hs47))
      | fail)
     go_roundg (gk - 1)
     case measure => have hk := HKK.out; omega
     case rel =>
      have hk := HKK.out
      refine ⟨k + 1, A48, c48, Lib.hid (by omega), rfl, by first | rfl | (congr 1; omega), ?_⟩
      rw [HN.out]
      exact hst.pick [0, 2, 3, 4] (by decide)
    ·obtain rfl : k = K := by omega
     clear hk HKK
     generalize blocksS begS P k = S at *
     have e1 : ((64 * k : Nat) : Int) = 64 * (k : Int) := by omega
     rw [e1]
     clear e1
     have hKb : k ≤ 2199023255600 := by have := HK.out; omega
     go_wp2_with (first
      | (refine L_allocA (d := some 9) rfl rfl rfl el_api_Digest ?_; (try clear hnew); intro g9 W9 hnew; replace hst := hst.trans hnew; simp only [List.cons_append, List.nil_append] at hst)
      | fail)
     have hst : St w W9 [.blk g9 23 (dCells S 0), .row H 8 hc 3 1 S.ints, .blk g2 23 zeroD.arr] := hst.pick [0, 1, 4] (by decide)
     clear hnew
     go_loopg [10] 32 (fun gk s10 wr => ∃ i : Nat, Hid (i + gk = 32) ∧ s10 = .int .i64 (i : Int) ∧ St w wr [.blk g9 23 (dCells S i), .row H 8 hc 3 1 S.ints, .blk g2 23 zeroD.arr])
     case atStart => exact ⟨0, Lib.hid rfl, rfl, hst⟩
     case round =>
      clear hst
      obtain ⟨i, HI, rfl, hst⟩ := hrel
      have hi := HI.out
      by_cases hi32 : i < 32
      ·clear hi
       have HA := Lib.hid (S.ints_at (i / 4) (by omega))
       have hset := dCells_next S i hi32
       rw [byteV_shr, Nat.mul_comm 8 (i % 4)] at hset
       have HSet := Lib.hid hset
       have hsz := Lib.hid (size_dCells S i (by omega))
       clear hset
       generalize S.get (i / 4) = x at *
       have b1 := x.h
       go_wp2_with (first
        | (refine L_load1 (d := some 58) rfl rfl rfl (by rfl) Tryd.underlying3 rfl (cell_of_range1 hr57 (k := i / 4) (by omega) HA.out) ?_)
        | (refine L_store1 rfl rfl hst rfl (by rfl) (ev_tmp rfl) rfl el_uint8 0 rfl (by rw [hsz.out]; omega) ?_; clear hst; intro WS11 hst; simp only [List.set_cons_zero, List.set_cons_succ] at hst)
        | (refine L_idxS (d := some 57) rfl rfl rfl (by rfl) (by rfl) Tryd.underlying44 el_int (by first | assumption | exact hst.sl 0 rfl | exact hst.sl 1 rfl | exact hst.sl 2 rfl | exact hst.old (by decide) (by assumption)) (by omega) (by omega) ?_; intro o57 p57 ha57 hr57; (first | subst ha57 | (obtain ⟨h1, h2⟩ := some_addr ha57; subst h1; subst h2; clear ha57) | skip))
        | (refine L_load1 (d := some 58) rfl rfl rfl (by rfl) Tryd.underlying3 rfl (by first | assumption | exact cell_of (hst.get 0 rfl) rfl | exact cell_of (hst.get 1 rfl) rfl | exact cell_of (hst.get 2 rfl) rfl) ?_)
        | (refine wpl_at (.store 5 (.tmp 65) (.tmp 64)) rfl ?_; first | (refine L_store1 rfl rfl hst rfl (by rfl) (ev_tmp rfl) rfl el_uint8 0 rfl (by first | exact of_decide_eq_true rfl | omega | (simp; done) | (simp; omega)) ?_; clear hst; intro WS13 hst; simp only [List.set_cons_zero, List.set_cons_succ] at hst) | (refine L_store1 rfl rfl hst rfl (by rfl) (ev_tmp rfl) rfl el_uint8 1 rfl (by first | exact of_decide_eq_true rfl | omega | (simp; done) | (simp; omega)) ?_; clear hst; intro WS13 hst; simp only [List.set_cons_zero, List.set_cons_succ] at hst) | (refine L_store1 rfl rfl hst rfl (by rfl) (ev_tmp rfl) rfl el_uint8 2 rfl (by first | exact of_decide_eq_true rfl | omega | (simp; done) | (simp; omega)) ?_; clear hst; intro WS13 hst; simp only [List.set_cons_zero, List.set_cons_succ] at hst))
        | fail)
       rw [HSet.out] at hst
       go_roundg (gk - 1)
       case measure => have hi := HI.out; omega
       case rel =>
        have hi := HI.out
        exact ⟨i + 1, Lib.hid (by omega), by go_num, hst⟩
      ·obtain rfl : i = 32 := by omega
       clear hi HI
       rw [dCells_32, HF.out] at hst
       go_wp2_with (first
        | (first | (refine L_loadA (d := some 66) rfl rfl rfl (by rfl) Tryd.underlying23 rfl el_api_Digest (by first | exact hst.get 0 rfl | exact hst.get 1 rfl | exact hst.get 2 rfl) (by first | rfl | exact Dig.size _ | (simp; done)) ?_) | (refine L_loadM (d := some 66) rfl rfl rfl (by rfl) Tryd.underlying23 rfl el_api_Digest (by first | assumption) (by first | rfl | exact Dig.size _ | (simp; done)) ?_))
        | (refine wpl_at (.store 23 (.tmp 2) (.tmp 66)) rfl ?_; first | (refine L_storeA rfl rfl hst rfl (by rfl) (ev_tmp rfl) (by first | rfl | exact Dig.one _ | (simp; done)) el_api_Digest (by first | rfl | exact Dig.size _ | (simp; done)) 0 rfl (by first | rfl | exact Dig.size _ | (simp; done)) ?_; clear hst; intro WS1 hst; simp only [List.set_cons_zero, List.set_cons_succ] at hst) | (refine L_storeA rfl rfl hst rfl (by rfl) (ev_tmp rfl) (by first | rfl | exact Dig.one _ | (simp; done)) el_api_Digest (by first | rfl | exact Dig.size _ | (simp; done)) 1 rfl (by first | rfl | exact Dig.size _ | (simp; done)) ?_; clear hst; intro WS1 hst; simp only [List.set_cons_zero, List.set_cons_succ] at hst) | (refine L_storeA rfl rfl hst rfl (by rfl) (ev_tmp rfl) (by first | rfl | exact Dig.one _ | (simp; done)) el_api_Digest (by first | rfl | exact Dig.size _ | (simp; done)) 2 rfl (by first | rfl | exact Dig.size _ | (simp; done)) ?_; clear hst; intro WS1 hst; simp only [List.set_cons_zero, List.set_cons_succ] at hst) | (refine L_storeM rfl rfl hst rfl (by rfl) (ev_tmp rfl) (by first | rfl | exact Dig.one _ | (simp; done)) el_api_Digest (by first | rfl | exact Dig.size _ | (simp; done)) 0 rfl (by first | exact of_decide_eq_true rfl | (simp; done)) ?_; clear hst; intro WS1 hst; simp only [List.set_cons_zero, List.set_cons_succ] at hst)  | (refine L_storeM rfl rfl hst rfl (by rfl) (ev_tmp rfl) (by first | rfl | exact Dig.one _ | (simp; done)) el_api_Digest (by first | rfl | exact Dig.size _ | (simp; done)) 1 rfl (by first | exact of_decide_eq_true rfl | (simp; done)) ?_; clear hst; intro WS1 hst; simp only [List.set_cons_zero, List.set_cons_succ] at hst)  | (refine L_storeM rfl rfl hst rfl (by rfl) (ev_tmp rfl) (by first | rfl | exact Dig.one _ | (simp; done)) el_api_Digest (by first | rfl | exact Dig.size _ | (simp; done)) 2 rfl (by first | exact of_decide_eq_true rfl | (simp; done)) ?_; clear hst; intro WS1 hst; simp only [List.set_cons_zero, List.set_cons_succ] at hst))
        | fail)
       refine bp_cell rfl rfl rfl (hst.get 2 rfl) Tryd.underlying23 rfl el_api_Digest (by first | rfl | exact Dig.size _ | (simp; done)) ?_
       exact ⟨rfl, hst.forget⟩
end Go.Proofs.YtkbleigmfcleaaaDoor

set_option maxRecDepth 20000
set_option linter.unusedSimpArgs false
set_option linter.unusedVariables false
namespace Go.Proofs.YtkbleigmfcleaaaDoor
open Go.RowKit
theorem St.oldR {w0 W : World} {L : List Res} {b o : Nat} {xs : List Value} (h : St w0 W L) (hr : w0.rangeAt b o xs) (hx : xs ≠ []) : W.rangeAt b o xs := rangeAt_of_block hr (h.below.block b (rangeAt_lt hr hx))
theorem hdArr_ne (n : Int) (x y z : Dig) : (hdArr n x y z).toList ≠ [] := by rw [hdArr_list]; exact List.cons_ne_nil _ _
def pinArr (A : Option Addr) (m c : Nat) (n : Int) (x y z : Dig) : Array Value := (.slice A m c :: (hdArr n x y z).toList).toArray
theorem pinArr_size (A : Option Addr) (m c : Nat) (n : Int) (x y z : Dig) : (pinArr A m c n x y z).size = 98 := by simp [pinArr, hdArr_size]
theorem pinArr_list (A : Option Addr) (m c : Nat) (n : Int) (x y z : Dig) : (pinArr A m c n x y z).toList = .slice A m c :: (hdArr n x y z).toList := rfl
theorem pinArr_0 {A : Option Addr} {m c : Nat} {n : Int} {x y z : Dig} : (pinArr A m c n x y z)[0]? = some (.slice A m c) := rfl
theorem pinArr_1 {A : Option Addr} {m c : Nat} {n : Int} {x y z : Dig} : (pinArr A m c n x y z)[1]? = some (.int .i64 n) := rfl
theorem pinArr_head {W : World} {g t : Nat} {A : Option Addr} {m c : Nat} {n : Int} {x y z : Dig} {fr : Nat × Nat} (h : W.heap[g]? = some (.cells (pinArr A m c n x y z) t fr)) : W.rangeAt g 1 (hdArr n x y z).toList :=
 range_of_list h (fun j v hv => by rw [pinArr_list, Nat.add_comm, List.getElem?_cons_succ]; exact hv)
theorem pinArr_all (A : Option Addr) (m c : Nat) (n : Int) (x y z : Dig) : (pinArr A m c n x y z).all (·.oneCell') = true := Array.all_eq_true_iff_forall_mem.2 fun u hu => by
 rw [← Array.mem_toList_iff, pinArr_list] at hu
 rcases List.mem_cons.1 hu with rfl | hu
 ·rfl
 ·exact hdArr_one _ _ _ _ u hu
theorem pinArr_put (A : Option Addr) (m c : Nat) (n n' : Int) (x y z x' y' z' : Dig) : putAt (pinArr A m c n x y z) 1 (hdArr n' x' y' z').toList = pinArr A m c n' x' y' z' := by
 unfold putAt
 rw [pinArr_list]
 apply Array.ext'
 have h1 := hdArr_size n x y z
 have h2 := hdArr_size n' x' y' z'
 rw [List.take_succ_cons, List.take_zero, Array.length_toList, h2, show 1 + 97 = 97 + 1 from rfl, List.drop_succ_cons, List.drop_of_length_le (by rw [Array.length_toList, h1]; exact Nat.le_refl _), List.append_nil]
 rfl
theorem hdArr_putRoot (n : Int) (x y z d : Dig) : putAt (hdArr n x y z) 1 d.arr.toList = hdArr n d y z := by
 have l : ∀ d : Dig, d.arr.toList.length = 32 := fun d => by simp [Dig.size]
 unfold putAt
 rw [hdArr_list]
 apply Array.ext'
 rw [List.take_succ_cons, List.take_zero, l, show 1 + 32 = 32 + 1 from rfl, List.drop_succ_cons, List.drop_left' (l x)]
 rfl
section
variable {P : Program} {ops : Array Oper} {rest : List Oper} {o : Oper} {a : Act} {W : World} {Q : Exit → Act → World → Prop} {d : Option Tmp}
theorem L_buildG (hd : o.dst = d) (hw : Region.wanted o (yielded ops a.tmps) = true) {T : TypeId} {x : Operand} (ho : o.op = .build T #[(1, x)]) {f0 f1 f2 f3 : Field} (hu : P.underlying T = some (.struct #[f0, f1, f2, f3])) {z0 z1 z2 z3 : Value} {s0 s2 s3 b0 b1 b2 b3 : Nat} (h0 : ElemIs P f0.type z0 s0 b0) (h1 : ElemIs P f1.type z1 32 b1) (h2 : ElemIs P f2.type z2 s2 b2) (h3 : ElemIs P f3.type z3 s3 b3) (o1 : f1.offset = 1)
  {cs : Array Value} {s b : Nat} (he : ElemIs P T (.agg cs) s b) (hcs : 33 ≤ cs.size) {q : Dig} (hx : a.eval x = .agg q.arr)
  (h : wpList P ops Q rest (a.put d (.agg (putAt cs 1 q.arr.toList))) W) : wpList P ops Q (o :: rest) a W := by
 refine L_val hd hw ?_ h
 have hq : q.arr.size = 32 := Dig.size q
 have hf := fold_put q.arr.toList 0 1 cs (by simp [hq]; omega)
 have hz : (q.arr.zipIdx.foldl (fun cs x => cs.setIfInBounds (1 + x.2) x.1) cs) = putAt cs 1 q.arr.toList := by
  rw [← Array.foldl_toList, Array.toList_zipIdx]
  simpa using hf
 rw [show q.arr.zipIdx.size = 32 by simp [hq]] at hz
 unfold execOp
 simp only [ho]
 have hfill : Instr.fill (fun x => ([(f0.offset, s0), (1, 32), (f2.offset, s2), (f3.offset, s3)] : List (Nat × Nat))[x]?) cs [(1, .agg q.arr)] = some (putAt cs 1 q.arr.toList) := by
  have e1 : ¬ (cs.size < 33) := by omega
  simp [Instr.fill, Value.cells, hq, hcs, hz]
 simp [Instr.build, he.run_zero, run_underlying hu, Value.cells, hx, h0.run_size, h1.run_size, h2.run_size, h3.run_size, o1]
 rw [hfill]
 rfl
end
theorem el_pin_Pin : ElemIs Tryd.prog 103 (.agg (pinArr none 0 0 0 zeroD zeroD zeroD)) 98 128 := by unfold ElemIs; kernel_rfl
section
variable {ops : Array Oper} {rest : List Oper} {o : Oper} {a : Act} {W : World} {Q : Exit → Act → World → Prop} {d : Option Tmp}
theorem L_buildPin (hd : o.dst = d) (hw : Region.wanted o (yielded ops a.tmps) = true) {x y : Operand} (ho : o.op = .build 103 #[(0, x), (1, y)]) {A : Option Addr} {m c : Nat} (hx : a.eval x = .slice A m c) {n : Int} {p q r : Dig} (hy : a.eval y = .agg (hdArr n p q r))
  (h : wpList Tryd.prog ops Q rest (a.put d (.agg (pinArr A m c n p q r))) W) : wpList Tryd.prog ops Q (o :: rest) a W := by
 refine L_val hd hw ?_ h
 unfold execOp
 simp only [ho]
 have hs := hdArr_size n p q r
 have hz := el_pin_Pin.run_zero W
 have h1 := el_S_uint8.run_size W
 have h2 := el_api_Head.run_size W
 have hf := fold_put (hdArr n p q r).toList 0 1 (pinArr A m c 0 zeroD zeroD zeroD) (by simp [hs, pinArr_size])
 have h3 : Array.foldl (fun (cs : Array Value) (x : Value × Nat) => cs.setIfInBounds (1 + x.snd) x.fst) (pinArr A m c 0 zeroD zeroD zeroD) (hdArr n p q r).zipIdx 0 97 = pinArr A m c n p q r := by
  have e1 : 97 = (hdArr n p q r).zipIdx.size := by simp [hs]
  rw [e1, ← Array.foldl_toList, Array.toList_zipIdx]
  rw [show (1 + 0) = 1 from rfl, pinArr_put] at hf
  simpa using hf
 have h4 : (pinArr none 0 0 0 zeroD zeroD zeroD).setIfInBounds 0 (.slice A m c) = pinArr A m c 0 zeroD zeroD zeroD := rfl
 have h5 : pinArr none 0 0 0 zeroD zeroD zeroD ≠ #[] := fun e => by have := pinArr_size none 0 0 0 zeroD zeroD zeroD; rw [e] at this; exact absurd this (by decide)
 simp [Instr.build, hz, run_underlying Tryd.underlying103, h1, h2, hx, hy, Value.cells, Instr.fill, hs, h3, h4, h5, pinArr_size]
end
set_option maxHeartbeats 1000000 in
theorem pnew_any (key : List UInt8) (K : Option Addr) (m mc : Nat) (w : World) (hT : Tb w) (hk : SlR w K m mc 1 (bytesL key)) (hm : m ≤ 140737488355000) :
  Calls Tryd.prog 36 #[.slice K m mc] w fun e w' => ∃ g O oc, e = .returned (.pointer (some ⟨g, 0, none⟩)) ∧ St w w' [.blk g 103 (pinArr O m oc 0 (sha []) zeroD zeroD), .row O m oc 5 1 (bytesL key)] := by
 have hst := St.refl w
 have HT := Lib.hid hT
 clear hT
 go_enter Tryd.func36, Tryd.ntmps36
 go_wp2_with (first
  | (go_at_call 58; refine (cloneB_any key _ _ _ _ (hst.old (by decide) hk) (by omega)).mono ?_; rintro e W4 ⟨O4, c4, rfl, hnew⟩; replace hst := hst.trans hnew; simp only [List.cons_append, List.nil_append] at hst; clear hnew)
  | (go_at_call 61; refine (ssum_any [] none 0 0 _ (HT.out.of hst) (by simp [SlR, bytesL]) (by decide)).mono ?_; rintro e W5 ⟨rfl, hnew⟩; replace hst := hst.keep hnew; clear hnew)
  | (refine L_buildG (d := some 6) rfl rfl rfl Tryd.underlying39 el_int el_api_Digest el_api_Digest el_api_Digest rfl el_api_Head (by rw [hdArr_size]; decide) (ev_tmp rfl) ?_; rw [hdArr_putRoot])
  | (refine L_buildPin (d := some 7) rfl rfl rfl (ev_tmp rfl) (ev_tmp rfl) ?_)
  | (refine L_boxA (d := some 8) rfl rfl rfl (ev_tmp rfl) ?_; (try clear hnew); intro g8 W8 hnew; replace hst := hst.trans hnew; simp only [List.cons_append, List.nil_append] at hst)
  | fail)
 go_ret
 exact ⟨_, _, _, rfl, hst⟩
set_option maxHeartbeats 1000000 in
theorem held_any (g t m c : Nat) (A : Option Addr) (n : Int) (x y z : Dig) (fr : Nat × Nat) (w : World) (hg : w.heap[g]? = some (.cells (pinArr A m c n x y z) t fr)) :
  Calls Tryd.prog 37 #[.pointer (some ⟨g, 0, none⟩)] w fun e w' => e = .returned (.agg (hdArr n x y z)) ∧ St w w' [] := by
 have hst := St.refl w
 have hr := pinArr_head hg
 clear hg
 go_enter Tryd.func37, Tryd.ntmps37
 go_wp2_with (first
  | (refine L_allocA (d := some 2) rfl rfl rfl el_api_Head ?_; (try clear hnew); intro g2 W2 hnew; replace hst := hst.trans hnew; simp only [List.cons_append, List.nil_append] at hst)
  | (first | (refine L_loadA (d := some 6) rfl rfl rfl (by rfl) Tryd.underlying39 rfl el_api_Head (by first | exact hst.get 0 rfl) (by first | exact Dig.size _ | exact hdArr_size _ _ _ _ | rfl | (simp; done)) ?_) | (refine L_loadM (d := some 6) rfl rfl rfl (by rfl) Tryd.underlying39 rfl el_api_Head (by first | assumption | exact hst.oldR hr (hdArr_ne _ _ _ _)) (by first | exact Dig.size _ | exact hdArr_size _ _ _ _ | rfl | (simp; done)) ?_))
  | (refine wpl_at (.store 39 (.tmp 2) (.tmp 6)) rfl ?_; first | (refine L_storeA rfl rfl hst rfl (by rfl) (ev_tmp rfl) (by first | rfl | exact Dig.one _ | exact hdArr_all _ _ _ _ | (simp; done)) el_api_Head (by first | rfl | exact Dig.size _ | exact hdArr_size _ _ _ _ | (simp; done)) 0 rfl (by first | rfl | exact Dig.size _ | exact hdArr_size _ _ _ _ | (simp; done)) ?_; clear hst; intro WS4 hst; simp only [List.set_cons_zero, List.set_cons_succ] at hst) | (refine L_storeM rfl rfl hst rfl (by rfl) (ev_tmp rfl) (by first | rfl | exact Dig.one _ | exact hdArr_all _ _ _ _ | (simp; done)) el_api_Head (by first | rfl | exact Dig.size _ | exact hdArr_size _ _ _ _ | (simp; done)) 0 rfl (by first | exact of_decide_eq_true rfl | (simp; done)) ?_; clear hst; intro WS4 hst; simp only [List.set_cons_zero, List.set_cons_succ] at hst))
  | fail)
 refine bp_cell rfl rfl rfl (hst.get 0 rfl) Tryd.underlying39 rfl el_api_Head (hdArr_size _ _ _ _) ?_
 exact ⟨rfl, hst.forget⟩
set_option maxHeartbeats 1000000 in
theorem first_any (w : World) : Calls Tryd.prog 41 #[] w fun e w' => e = .returned (.agg (hdArr 0 (sha []) zeroD zeroD)) ∧ St w w' [] := by
 have hst := St.refl w
 go_enter Tryd.func41, Tryd.ntmps41
 go_wp2_with (first
  | (go_at_call 38; refine (rsum_any [] none 0 0 _ (by simp [SlR, bytesL]) (by decide)).mono ?_; rintro e W5 ⟨rfl, hnew⟩; replace hst := hst.keep hnew; clear hnew)
  | (refine L_buildG (d := some 2) rfl rfl rfl Tryd.underlying39 el_int el_api_Digest el_api_Digest el_api_Digest rfl el_api_Head (by rw [hdArr_size]; decide) (ev_tmp rfl) ?_; rw [hdArr_putRoot])
  | (refine L_allocA (d := some 0) rfl rfl rfl el_api_Head ?_; (try clear hnew); intro g0 W0 hnew; replace hst := hst.trans hnew; simp only [List.cons_append, List.nil_append] at hst)
  | (refine wpl_at (.store 39 (.tmp 0) (.tmp 2)) rfl ?_; first | (refine L_storeA rfl rfl hst rfl (by rfl) (ev_tmp rfl) (by first | rfl | exact Dig.one _ | exact hdArr_all _ _ _ _ | (simp; done)) el_api_Head (by first | rfl | exact Dig.size _ | exact hdArr_size _ _ _ _ | (simp; done)) 0 rfl (by first | rfl | exact Dig.size _ | exact hdArr_size _ _ _ _ | (simp; done)) ?_; clear hst; intro WS2 hst; simp only [List.set_cons_zero, List.set_cons_succ] at hst) | (refine L_storeM rfl rfl hst rfl (by rfl) (ev_tmp rfl) (by first | rfl | exact Dig.one _ | exact hdArr_all _ _ _ _ | (simp; done)) el_api_Head (by first | rfl | exact Dig.size _ | exact hdArr_size _ _ _ _ | (simp; done)) 0 rfl (by first | exact of_decide_eq_true rfl | (simp; done)) ?_; clear hst; intro WS2 hst; simp only [List.set_cons_zero, List.set_cons_succ] at hst))
  | fail)
 refine bp_cell rfl rfl rfl (hst.get 0 rfl) Tryd.underlying39 rfl el_api_Head (hdArr_size _ _ _ _) ?_
 exact ⟨rfl, hst.forget⟩
end Go.Proofs.YtkbleigmfcleaaaDoor

set_option maxRecDepth 20000
set_option linter.unusedSimpArgs false
set_option linter.unusedVariables false
namespace Go.Proofs.YtkbleigmfcleaaaDoor
open Go.RowKit
set_option maxHeartbeats 1000000 in
theorem rof_any (tag : UInt8) (ds : List Dig) (A : Option Addr) (n c : Nat) (w : World) (hx : SlR w A n c 32 (digsL ds)) (hm : n ≤ 1099511627776) :
  Calls Tryd.prog 101 #[byteV tag, .slice A n c] w fun e w' => e = .returned (ofN tag ds).v ∧ St w w' [] := by
 have hst := St.refl w
 have hn : ds.length = n := by
  have := hx.1
  rw [length_digsL] at this
  omega
 have Hn := Lib.hid hn
 have hcap := hx.2.1
 have hmx := hx.2.2.1
 simp only [maxLen] at hmx
 clear hn
 unfold byteV
 go_enter Tryd.func101, Tryd.ntmps101
 go_wp2_with (first
  | (refine L_allocA (d := some 4) rfl rfl rfl el_api_Digest ?_; (try clear hnew); intro g4 W4 hnew; replace hst := hst.trans hnew; simp only [List.cons_append, List.nil_append] at hst)
  | (refine L_buildS (d := some 9) rfl rfl rfl [_] (bs_1 (ev_tmp rfl)) rfl Tryd.underlying49 el_uint8 rfl (by first | (simp [Value.cells]; done) | (simp [Value.cells, Dig.size]; done)) (by decide) (by decide) ?_; (try clear hnew); intro g9 W9 hnew; replace hst := hst.trans hnew; simp only [List.cons_append, List.nil_append] at hst; simp only [List.flatMap_cons, List.flatMap_nil, List.append_nil, Value.cells, List.toList_toArray] at hst)
  | fail)
 have hst : St w W9 [.row g9 (1 + 0 * 32) 1 5 1 (bytesL (tag :: allB (ds.take 0))), .blk g4 23 zeroD.arr] := hst
 clear hnew
 go_loopg [5, 6] n (fun gk s5 s6 wr => ∃ (i : Nat) (A' : Option Addr) (c' : Nat), Hid (i + gk = n) ∧ s5 = .slice A' (1 + i * 32) c' ∧ s6 = .int .i64 (i : Int) ∧ St w wr [.row A' (1 + i * 32) c' 5 1 (bytesL (tag :: allB (ds.take i))), .blk g4 23 zeroD.arr])
 case atStart => exact ⟨0, g9, 1, Lib.hid (by omega), rfl, rfl, hst⟩
 case round =>
  clear hst
  obtain ⟨i, A', c', HI, rfl, rfl, hst⟩ := hrel
  have hi := HI.out
  by_cases hin : i < n
  ·clear hi
   have hds := Lib.hid (digsL_at ds i (by rw [Hn.out]; exact hin))
   have hta := Lib.hid (allB_take ds i (by rw [Hn.out]; exact hin))
   have hgt : ∃ dd : Dig, Hid (dd = ds[i]'(by rw [Hn.out]; exact hin)) := ⟨_, Lib.hid rfl⟩
   obtain ⟨dd, hdd⟩ := hgt
   go_wp2_with (first
    | (refine L_loadM (d := some 19) rfl rfl rfl (by rfl) Tryd.underlying23 rfl el_api_Digest (cs := dd.arr) (by rw [Dig.toList, hdd.out, ← hds.out]; exact hr18) (Dig.size _) ?_)
    | (refine L_idxS (d := some 18) rfl rfl rfl (by rfl) (by rfl) Tryd.underlying74 el_api_Digest (by first | exact hs21 | exact hst.old (by decide) hx | assumption | exact hst.sl 0 rfl | exact hst.sl 1 rfl | exact hst.sl 2 rfl | exact hst.old (by decide) (by assumption)) (by omega) (by omega) ?_; intro o18 p18 ha18 hr18; (first | subst ha18 | (obtain ⟨h1, h2⟩ := some_addr ha18; subst h1; subst h2; clear ha18) | skip))
    | (first | (refine L_loadA (d := some 19) rfl rfl rfl (by rfl) Tryd.underlying23 rfl el_api_Digest (by first | exact hst.get 0 rfl | exact hst.get 1 rfl | exact hst.get 2 rfl) (by first | rfl | exact Dig.size _ | (simp; done)) ?_) | (refine L_loadM (d := some 19) rfl rfl rfl (by rfl) Tryd.underlying23 rfl el_api_Digest (by first | assumption) (by first | rfl | exact Dig.size _ | (simp; done)) ?_))
    | (refine L_allocA (d := some 7) rfl rfl rfl el_api_Digest ?_; (try clear hnew); intro g7 W7 hnew; replace hst := hst.trans hnew; simp only [List.cons_append, List.nil_append] at hst)
    | (refine wpl_at (.store 23 (.tmp 7) (.tmp 19)) rfl ?_; first | (refine L_storeA rfl rfl hst rfl (by rfl) (ev_tmp rfl) (by first | rfl | exact Dig.one _ | (simp; done)) el_api_Digest (by first | rfl | exact Dig.size _ | (simp; done)) 0 rfl (by first | rfl | exact Dig.size _ | (simp; done)) ?_; clear hst; intro WS5 hst; simp only [List.set_cons_zero, List.set_cons_succ] at hst) | (refine L_storeA rfl rfl hst rfl (by rfl) (ev_tmp rfl) (by first | rfl | exact Dig.one _ | (simp; done)) el_api_Digest (by first | rfl | exact Dig.size _ | (simp; done)) 1 rfl (by first | rfl | exact Dig.size _ | (simp; done)) ?_; clear hst; intro WS5 hst; simp only [List.set_cons_zero, List.set_cons_succ] at hst) | (refine L_storeA rfl rfl hst rfl (by rfl) (ev_tmp rfl) (by first | rfl | exact Dig.one _ | (simp; done)) el_api_Digest (by first | rfl | exact Dig.size _ | (simp; done)) 2 rfl (by first | rfl | exact Dig.size _ | (simp; done)) ?_; clear hst; intro WS5 hst; simp only [List.set_cons_zero, List.set_cons_succ] at hst) | (refine L_storeM rfl rfl hst rfl (by rfl) (ev_tmp rfl) (by first | rfl | exact Dig.one _ | (simp; done)) el_api_Digest (by first | rfl | exact Dig.size _ | (simp; done)) 0 rfl (by first | exact of_decide_eq_true rfl | (simp; done)) ?_; clear hst; intro WS5 hst; simp only [List.set_cons_zero, List.set_cons_succ] at hst)  | (refine L_storeM rfl rfl hst rfl (by rfl) (ev_tmp rfl) (by first | rfl | exact Dig.one _ | (simp; done)) el_api_Digest (by first | rfl | exact Dig.size _ | (simp; done)) 1 rfl (by first | exact of_decide_eq_true rfl | (simp; done)) ?_; clear hst; intro WS5 hst; simp only [List.set_cons_zero, List.set_cons_succ] at hst)  | (refine L_storeM rfl rfl hst rfl (by rfl) (ev_tmp rfl) (by first | rfl | exact Dig.one _ | (simp; done)) el_api_Digest (by first | rfl | exact Dig.size _ | (simp; done)) 2 rfl (by first | exact of_decide_eq_true rfl | (simp; done)) ?_; clear hst; intro WS5 hst; simp only [List.set_cons_zero, List.set_cons_succ] at hst))
    | (refine L_sliceAll (d := some 21) rfl rfl rfl (by rfl) Tryd.underlying23 el_uint8 (by first | exact hst.get 0 rfl | exact hst.get 1 rfl | exact hst.get 2 rfl) (by first | rfl | exact Dig.size _ | (simp; done)) (by decide) ?_; intro hs21)
    | (refine L_appendO (d := some 22) rfl rfl hst rfl (by rfl) (by rfl) Tryd.underlying49 el_uint8 rfl (by decide) (by decide) 0 rfl (by first | rfl | omega) (by first | exact hs21 | exact hst.old (by decide) hx | exact hst.sl 0 rfl | exact hst.sl 1 rfl | exact hst.sl 2 rfl | assumption | exact hst.old (by decide) (by assumption)) (by first | exact oneCell_bytes | (simp [Value.oneCell']; done)) (by omega) ?_; clear hst; intro A22 c22 W22 hst; simp only [List.set_cons_zero, List.set_cons_succ, List.nil_append, Nat.zero_add] at hst)
    | (refine L_appendO (d := some 22) rfl rfl hst rfl (by rfl) (by rfl) Tryd.underlying49 el_uint8 rfl (by decide) (by decide) 1 rfl (by first | rfl | omega) (by first | exact hs21 | exact hst.old (by decide) hx | exact hst.sl 0 rfl | exact hst.sl 1 rfl | exact hst.sl 2 rfl | assumption | exact hst.old (by decide) (by assumption)) (by first | exact oneCell_bytes | (simp [Value.oneCell']; done)) (by omega) ?_; clear hst; intro A22 c22 W22 hst; simp only [List.set_cons_zero, List.set_cons_succ, List.nil_append, Nat.zero_add] at hst)
    | (refine L_appendO (d := some 22) rfl rfl hst rfl (by rfl) (by rfl) Tryd.underlying49 el_uint8 rfl (by decide) (by decide) 2 rfl (by first | rfl | omega) (by first | exact hs21 | exact hst.old (by decide) hx | exact hst.sl 0 rfl | exact hst.sl 1 rfl | exact hst.sl 2 rfl | assumption | exact hst.old (by decide) (by assumption)) (by first | exact oneCell_bytes | (simp [Value.oneCell']; done)) (by omega) ?_; clear hst; intro A22 c22 W22 hst; simp only [List.set_cons_zero, List.set_cons_succ, List.nil_append, Nat.zero_add] at hst)
    | (refine L_appendF (d := some 22) rfl rfl rfl (by rfl) (by rfl) Tryd.underlying49 el_uint8 rfl (by decide) (by assumption) (by first | assumption | exact hs21 | exact hst.old (by decide) hx | exact hst.sl 0 rfl | exact hst.sl 1 rfl | exact hst.sl 2 rfl | assumption | exact hst.old (by decide) (by assumption)) (by omega) (by omega) (by omega) ?_; (try clear hnew); intro A22 c22 W22 hnew; replace hst := hst.trans hnew; simp only [List.cons_append, List.nil_append] at hst)
    | fail)
   go_roundg (gk - 1)
   case measure => have hi := HI.out; omega
   case rel =>
    have hi := HI.out
    refine ⟨i + 1, A22, c22, Lib.hid (by omega), by congr 1; omega, by go_num, ?_⟩
    rw [hta.out, ← hdd.out, ← List.cons_append, bytesL_append, show 1 + (i + 1) * 32 = 1 + i * 32 + 32 by omega]
    exact (hst.pick [1, 2] (by decide))
  ·obtain rfl : i = n := by omega
   have hall : allB (ds.take i) = allB ds := by rw [List.take_of_length_le (by rw [Hn.out]; exact Nat.le_refl _)]
   rw [hall] at hst
   clear hall hi HI
   go_wp2_with (first
    | (go_at_call 38; (try clear hnew); with_reducible refine (rsum_any _ _ _ _ _ (hst.sl 0 rfl) (by omega)).mono ?_; rintro e Wk1 ⟨rfl, hnew⟩; replace hst := hst.keep hnew)
    | (refine wpl_at (.store 23 (.tmp 4) (.tmp 24)) rfl ?_; first | (refine L_storeA rfl rfl hst rfl (by rfl) (ev_tmp rfl) (by first | rfl | exact Dig.one _ | (simp; done)) el_api_Digest (by first | rfl | exact Dig.size _ | (simp; done)) 0 rfl (by first | rfl | exact Dig.size _ | (simp; done)) ?_; clear hst; intro WS2 hst; simp only [List.set_cons_zero, List.set_cons_succ] at hst) | (refine L_storeA rfl rfl hst rfl (by rfl) (ev_tmp rfl) (by first | rfl | exact Dig.one _ | (simp; done)) el_api_Digest (by first | rfl | exact Dig.size _ | (simp; done)) 1 rfl (by first | rfl | exact Dig.size _ | (simp; done)) ?_; clear hst; intro WS2 hst; simp only [List.set_cons_zero, List.set_cons_succ] at hst) | (refine L_storeA rfl rfl hst rfl (by rfl) (ev_tmp rfl) (by first | rfl | exact Dig.one _ | (simp; done)) el_api_Digest (by first | rfl | exact Dig.size _ | (simp; done)) 2 rfl (by first | rfl | exact Dig.size _ | (simp; done)) ?_; clear hst; intro WS2 hst; simp only [List.set_cons_zero, List.set_cons_succ] at hst) | (refine L_storeM rfl rfl hst rfl (by rfl) (ev_tmp rfl) (by first | rfl | exact Dig.one _ | (simp; done)) el_api_Digest (by first | rfl | exact Dig.size _ | (simp; done)) 0 rfl (by first | exact of_decide_eq_true rfl | (simp; done)) ?_; clear hst; intro WS2 hst; simp only [List.set_cons_zero, List.set_cons_succ] at hst)  | (refine L_storeM rfl rfl hst rfl (by rfl) (ev_tmp rfl) (by first | rfl | exact Dig.one _ | (simp; done)) el_api_Digest (by first | rfl | exact Dig.size _ | (simp; done)) 1 rfl (by first | exact of_decide_eq_true rfl | (simp; done)) ?_; clear hst; intro WS2 hst; simp only [List.set_cons_zero, List.set_cons_succ] at hst)  | (refine L_storeM rfl rfl hst rfl (by rfl) (ev_tmp rfl) (by first | rfl | exact Dig.one _ | (simp; done)) el_api_Digest (by first | rfl | exact Dig.size _ | (simp; done)) 2 rfl (by first | exact of_decide_eq_true rfl | (simp; done)) ?_; clear hst; intro WS2 hst; simp only [List.set_cons_zero, List.set_cons_succ] at hst))
    | fail)
   refine bp_cell rfl rfl rfl (hst.get 1 rfl) Tryd.underlying23 rfl el_api_Digest (by first | rfl | exact Dig.size _ | (simp; done)) ?_
   exact ⟨rfl, hst.forget⟩
end Go.Proofs.YtkbleigmfcleaaaDoor

set_option maxRecDepth 20000
set_option linter.unusedSimpArgs false
set_option linter.unusedVariables false
namespace Go.Proofs.YtkbleigmfcleaaaDoor
open Go.RowKit
theorem Dig.oneR (d : Dig) : ∀ u ∈ d.arr.toList, u.oneCell' = true := by
 rw [Dig.toList]
 exact oneCell_bytes
theorem padK_take (k : List UInt8) (x : UInt8) (i : Nat) (h : i < 64) : bytesL ((padK k x).take i) ++ [.int .u8 (((k.getD i 0).toNat ^^^ x.toNat : Nat) : Int)] = bytesL ((padK k x).take (i + 1)) := by
 have hl : i < (padK k x).length := by rw [length_padK]; exact h
 have hg : (padK k x)[i] = k.getD i 0 ^^^ x := by simp [padK]
 rw [List.take_succ_eq_append_getElem hl, hg, bytesL_append, xor_byte]
 rfl
theorem padK_all (k : List UInt8) (x : UInt8) : (padK k x).take 64 = padK k x := List.take_of_length_le (by rw [length_padK]; exact Nat.le_refl _)
set_option maxHeartbeats 2000000 in
set_option maxRecDepth 100000 in
theorem rmac_any (key b : List UInt8) (K A : Option Addr) (m mc n c : Nat) (w : World) (hk : SlR w K m mc 1 (bytesL key)) (hx : SlR w A n c 1 (bytesL b)) (hm : m ≤ 140737488355000) (hn : n ≤ 140737488354000) :
  Calls Tryd.prog 52 #[.slice K m mc, .slice A n c] w fun e w' => e = .returned (macN key b).v ∧ St w w' [] := by
 have hst := St.refl w
 have hkl := hk.1
 have hxl := hx.1
 rw [length_bytesL, Nat.mul_one] at hkl hxl
 have Hkl := Lib.hid hkl
 have Hxl := Lib.hid hxl
 clear hkl hxl
 go_enter Tryd.func52, Tryd.ntmps52
 go_upto_if 13 with (first
  | (refine L_allocA (d := some 4) rfl rfl rfl el_api_Digest ?_; (try clear hnew); intro g4 W4 hnew; replace hst := hst.trans hnew; simp only [List.cons_append, List.nil_append] at hst)
  | fail)
 clear hnew
 go_cut [0] (fun s0 wx => ∃ (K' : Option Addr) (m' c' : Nat) (kk : List UInt8) (Lk : List Res), Hid (kk = keyOf key ∧ kk.length = m') ∧ m' ≤ 64 ∧ s0 = .slice K' m' c' ∧ Hid (Src w Lk K' m' c' 1 (bytesL kk)) ∧ St w wx (.blk g4 23 zeroD.arr :: Lk))
 case first =>
  by_cases h64 : 64 < m
  ·have h1 : (64 : Int) < (m : Int) := by omega
   go_wp2_with (first
    | (go_at_call 38; (try clear hnew); with_reducible refine (rsum_any _ _ _ _ _ (hst.old (by decide) hk) (by omega)).mono ?_; rintro e Wk1 ⟨rfl, hnew⟩; replace hst := hst.keep hnew)
    | (refine L_allocA (d := some 5) rfl rfl rfl el_api_Digest ?_; (try clear hnew); intro g5 W5 hnew; replace hst := hst.trans hnew; simp only [List.cons_append, List.nil_append] at hst)
    | (refine wpl_at (.store 23 (.tmp 5) (.tmp 15)) rfl ?_; first | (refine L_storeA rfl rfl hst rfl (by rfl) (ev_tmp rfl) (by first | rfl | exact Dig.one _ | (simp; done)) el_api_Digest (by first | rfl | exact Dig.size _ | (simp; done)) 0 rfl (by first | rfl | exact Dig.size _ | (simp; done)) ?_; clear hst; intro WS3 hst; simp only [List.set_cons_zero, List.set_cons_succ] at hst) | (refine L_storeA rfl rfl hst rfl (by rfl) (ev_tmp rfl) (by first | rfl | exact Dig.one _ | (simp; done)) el_api_Digest (by first | rfl | exact Dig.size _ | (simp; done)) 1 rfl (by first | rfl | exact Dig.size _ | (simp; done)) ?_; clear hst; intro WS3 hst; simp only [List.set_cons_zero, List.set_cons_succ] at hst) | (refine L_storeA rfl rfl hst rfl (by rfl) (ev_tmp rfl) (by first | rfl | exact Dig.one _ | (simp; done)) el_api_Digest (by first | rfl | exact Dig.size _ | (simp; done)) 2 rfl (by first | rfl | exact Dig.size _ | (simp; done)) ?_; clear hst; intro WS3 hst; simp only [List.set_cons_zero, List.set_cons_succ] at hst) | (refine L_storeA rfl rfl hst rfl (by rfl) (ev_tmp rfl) (by first | rfl | exact Dig.one _ | (simp; done)) el_api_Digest (by first | rfl | exact Dig.size _ | (simp; done)) 3 rfl (by first | rfl | exact Dig.size _ | (simp; done)) ?_; clear hst; intro WS3 hst; simp only [List.set_cons_zero, List.set_cons_succ] at hst) | (refine L_storeA rfl rfl hst rfl (by rfl) (ev_tmp rfl) (by first | rfl | exact Dig.one _ | (simp; done)) el_api_Digest (by first | rfl | exact Dig.size _ | (simp; done)) 4 rfl (by first | rfl | exact Dig.size _ | (simp; done)) ?_; clear hst; intro WS3 hst; simp only [List.set_cons_zero, List.set_cons_succ] at hst) | (refine L_storeA rfl rfl hst rfl (by rfl) (ev_tmp rfl) (by first | rfl | exact Dig.one _ | (simp; done)) el_api_Digest (by first | rfl | exact Dig.size _ | (simp; done)) 5 rfl (by first | rfl | exact Dig.size _ | (simp; done)) ?_; clear hst; intro WS3 hst; simp only [List.set_cons_zero, List.set_cons_succ] at hst) | (refine L_storeM rfl rfl hst rfl (by rfl) (ev_tmp rfl) (by first | rfl | exact Dig.one _ | (simp; done)) el_api_Digest (by first | rfl | exact Dig.size _ | (simp; done)) 0 rfl (by first | exact of_decide_eq_true rfl | (simp; done)) ?_; clear hst; intro WS3 hst; simp only [List.set_cons_zero, List.set_cons_succ] at hst)  | (refine L_storeM rfl rfl hst rfl (by rfl) (ev_tmp rfl) (by first | rfl | exact Dig.one _ | (simp; done)) el_api_Digest (by first | rfl | exact Dig.size _ | (simp; done)) 1 rfl (by first | exact of_decide_eq_true rfl | (simp; done)) ?_; clear hst; intro WS3 hst; simp only [List.set_cons_zero, List.set_cons_succ] at hst)  | (refine L_storeM rfl rfl hst rfl (by rfl) (ev_tmp rfl) (by first | rfl | exact Dig.one _ | (simp; done)) el_api_Digest (by first | rfl | exact Dig.size _ | (simp; done)) 2 rfl (by first | exact of_decide_eq_true rfl | (simp; done)) ?_; clear hst; intro WS3 hst; simp only [List.set_cons_zero, List.set_cons_succ] at hst)  | (refine L_storeM rfl rfl hst rfl (by rfl) (ev_tmp rfl) (by first | rfl | exact Dig.one _ | (simp; done)) el_api_Digest (by first | rfl | exact Dig.size _ | (simp; done)) 3 rfl (by first | exact of_decide_eq_true rfl | (simp; done)) ?_; clear hst; intro WS3 hst; simp only [List.set_cons_zero, List.set_cons_succ] at hst)  | (refine L_storeM rfl rfl hst rfl (by rfl) (ev_tmp rfl) (by first | rfl | exact Dig.one _ | (simp; done)) el_api_Digest (by first | rfl | exact Dig.size _ | (simp; done)) 4 rfl (by first | exact of_decide_eq_true rfl | (simp; done)) ?_; clear hst; intro WS3 hst; simp only [List.set_cons_zero, List.set_cons_succ] at hst)  | (refine L_storeM rfl rfl hst rfl (by rfl) (ev_tmp rfl) (by first | rfl | exact Dig.one _ | (simp; done)) el_api_Digest (by first | rfl | exact Dig.size _ | (simp; done)) 5 rfl (by first | exact of_decide_eq_true rfl | (simp; done)) ?_; clear hst; intro WS3 hst; simp only [List.set_cons_zero, List.set_cons_succ] at hst))
    | (refine L_sliceAll (d := some 16) rfl rfl rfl (by rfl) Tryd.underlying23 el_uint8 (by first | exact hst.get 0 rfl | exact hst.get 1 rfl | exact hst.get 2 rfl | exact hst.get 3 rfl | exact hst.get 4 rfl | exact hst.get 5 rfl) (by first | rfl | exact Dig.size _ | (simp; done)) (by decide) ?_; intro hs16)
    | fail)
   go_meet
   case rel =>
    refine ⟨_, _, _, (sha key).l, [.blk g5 23 (sha key).arr], Lib.hid ⟨?_, (sha key).h⟩, by omega, rfl, Lib.hid ?_, hst.pick [1, 0] (by decide)⟩
    ·rw [keyOf, if_pos (by rw [Hkl.out]; exact h64)]
    ·rw [← Dig.toList]
     exact Src.blk (i := 0) rfl (Dig.size _) (by decide)
  ·have h1 : (m : Int) ≤ 64 := by omega
   go_wp2_with fail
   go_meet
   case rel =>
    refine ⟨K, m, mc, key, [], Lib.hid ⟨?_, Hkl.out⟩, by omega, rfl, Lib.hid (Src.old (by decide) hk _), hst⟩
    rw [keyOf, if_neg (by rw [Hkl.out]; omega)]
 case rest =>
  clear hst
  obtain ⟨K', m', c', kk, Lk, HK, hm64, rfl, HS, hst⟩ := hcut
  go_wp2_with (first
   | fail)
  have hst : St w wc (.row none 0 0 5 1 (bytesL ((padK kk 92).take 0)) :: .row none 0 0 5 1 (bytesL ((padK kk 54).take 0)) :: .blk g4 23 zeroD.arr :: Lk) := (hst.nilRow 5 1).nilRow 5 1
  go_loopg [6, 7, 8, 9] 64 (fun gk s6 s7 s8 s9 wr => ∃ (i : Nat) (O I : Option Addr) (oc ic : Nat), Hid (i + gk = 64) ∧ s6 = .slice O i oc ∧ s7 = .slice I i ic ∧ s8 = .int .i64 (i : Int) ∧ St w wr (.row O i oc 5 1 (bytesL ((padK kk 92).take i)) :: .row I i ic 5 1 (bytesL ((padK kk 54).take i)) :: .blk g4 23 zeroD.arr :: Lk))
  case atStart => exact ⟨0, none, none, 0, 0, Lib.hid (by omega), rfl, rfl, rfl, hst⟩
  case round =>
   clear hst
   obtain ⟨i, O, I, oc, ic, HI, rfl, rfl, rfl, hst⟩ := hrel
   have hi := HI.out
   by_cases h64 : i < 64
   ·clear hi
    have HP9 := Lib.hid (padK_take kk 92 i h64)
    have HP5 := Lib.hid (padK_take kk 54 i h64)
    by_cases hin : i < m'
    ·have hb := Lib.hid (show i < kk.length by rw [HK.out.2]; exact hin)
     have hx5 : bits .xor .u8 ((kk.getD i 0).toNat : Int) 54 = (((kk.getD i 0).toNat ^^^ 54 : Nat) : Int) := xor_val _ 54
     have hx9 : bits .xor .u8 ((kk.getD i 0).toNat : Int) 92 = (((kk.getD i 0).toNat ^^^ 92 : Nat) : Int) := xor_val _ 92
     have HC := Lib.hid (fun (W : World) (g off : Nat) h => byte_of_range (W := W) (g := g) (off := off) (i := i) (l := kk) h hb.out)
     generalize kk.getD i 0 = x at *
     go_wp2_with (first
      | (refine wpl_at (.load 5 (.tmp 27)) rfl ?_; (refine L_load1 (d := some 28) rfl rfl rfl (by rfl) Tryd.underlying5 rfl (HC.out _ _ _ hr27) ?_))
      | (refine L_idxS (d := some 27) rfl rfl rfl (by rfl) (by rfl) Tryd.underlying49 el_uint8 (by first | exact HS.out _ (hst.tailN 3) | assumption | exact hst.sl 0 rfl | exact hst.sl 1 rfl | exact hst.sl 2 rfl | exact hst.sl 3 rfl | exact hst.sl 4 rfl | exact hst.sl 5 rfl | exact hst.old (by decide) (by assumption)) (by omega) (by omega) ?_; intro o27 p27 ha27 hr27; (first | subst ha27 | (obtain ⟨h1, h2⟩ := some_addr ha27; subst h1; subst h2; clear ha27) | skip))
      | (refine L_load1 (d := some 28) rfl rfl rfl (by rfl) Tryd.underlying5 rfl (by first | assumption | exact cell_of (hst.get 0 rfl) rfl | exact cell_of (hst.get 1 rfl) rfl | exact cell_of (hst.get 2 rfl) rfl | exact cell_of (hst.get 3 rfl) rfl | exact cell_of (hst.get 4 rfl) rfl | exact cell_of (hst.get 5 rfl) rfl) ?_)
      | (refine L_buildS (d := some 32) rfl rfl rfl [_] (bs_1 (ev_tmp rfl)) rfl Tryd.underlying49 el_uint8 rfl (by first | (simp [Value.cells]; done) | (simp [Value.cells, Dig.size]; done)) (by decide) (by decide) ?_; (try clear hnew); intro g32 W32 hnew; replace hst := hst.trans hnew; simp only [List.cons_append, List.nil_append] at hst; simp only [List.flatMap_cons, List.flatMap_nil, List.append_nil, Value.cells, List.toList_toArray] at hst)
      | (refine L_appendO (d := some 33) rfl rfl hst rfl (by rfl) (by rfl) Tryd.underlying49 el_uint8 rfl (by decide) (by decide) 0 rfl (by first | rfl | omega) (by first | exact HS.out _ (hst.tailN 3) | exact hst.sl 0 rfl | exact hst.sl 1 rfl | exact hst.sl 2 rfl | exact hst.sl 3 rfl | exact hst.sl 4 rfl | exact hst.sl 5 rfl | assumption | exact hst.old (by decide) (by assumption)) (by first | exact oneCell_bytes | (simp [Value.oneCell']; done)) (by omega) ?_; clear hst; intro A33 c33 W33 hst; simp only [List.set_cons_zero, List.set_cons_succ, List.nil_append, Nat.zero_add] at hst)
      | (refine L_appendO (d := some 33) rfl rfl hst rfl (by rfl) (by rfl) Tryd.underlying49 el_uint8 rfl (by decide) (by decide) 1 rfl (by first | rfl | omega) (by first | exact HS.out _ (hst.tailN 3) | exact hst.sl 0 rfl | exact hst.sl 1 rfl | exact hst.sl 2 rfl | exact hst.sl 3 rfl | exact hst.sl 4 rfl | exact hst.sl 5 rfl | assumption | exact hst.old (by decide) (by assumption)) (by first | exact oneCell_bytes | (simp [Value.oneCell']; done)) (by omega) ?_; clear hst; intro A33 c33 W33 hst; simp only [List.set_cons_zero, List.set_cons_succ, List.nil_append, Nat.zero_add] at hst)
      | (refine L_appendO (d := some 33) rfl rfl hst rfl (by rfl) (by rfl) Tryd.underlying49 el_uint8 rfl (by decide) (by decide) 2 rfl (by first | rfl | omega) (by first | exact HS.out _ (hst.tailN 3) | exact hst.sl 0 rfl | exact hst.sl 1 rfl | exact hst.sl 2 rfl | exact hst.sl 3 rfl | exact hst.sl 4 rfl | exact hst.sl 5 rfl | assumption | exact hst.old (by decide) (by assumption)) (by first | exact oneCell_bytes | (simp [Value.oneCell']; done)) (by omega) ?_; clear hst; intro A33 c33 W33 hst; simp only [List.set_cons_zero, List.set_cons_succ, List.nil_append, Nat.zero_add] at hst)
      | (refine L_appendO (d := some 33) rfl rfl hst rfl (by rfl) (by rfl) Tryd.underlying49 el_uint8 rfl (by decide) (by decide) 3 rfl (by first | rfl | omega) (by first | exact HS.out _ (hst.tailN 3) | exact hst.sl 0 rfl | exact hst.sl 1 rfl | exact hst.sl 2 rfl | exact hst.sl 3 rfl | exact hst.sl 4 rfl | exact hst.sl 5 rfl | assumption | exact hst.old (by decide) (by assumption)) (by first | exact oneCell_bytes | (simp [Value.oneCell']; done)) (by omega) ?_; clear hst; intro A33 c33 W33 hst; simp only [List.set_cons_zero, List.set_cons_succ, List.nil_append, Nat.zero_add] at hst)
      | (refine L_appendO (d := some 33) rfl rfl hst rfl (by rfl) (by rfl) Tryd.underlying49 el_uint8 rfl (by decide) (by decide) 4 rfl (by first | rfl | omega) (by first | exact HS.out _ (hst.tailN 3) | exact hst.sl 0 rfl | exact hst.sl 1 rfl | exact hst.sl 2 rfl | exact hst.sl 3 rfl | exact hst.sl 4 rfl | exact hst.sl 5 rfl | assumption | exact hst.old (by decide) (by assumption)) (by first | exact oneCell_bytes | (simp [Value.oneCell']; done)) (by omega) ?_; clear hst; intro A33 c33 W33 hst; simp only [List.set_cons_zero, List.set_cons_succ, List.nil_append, Nat.zero_add] at hst)
      | (refine L_appendO (d := some 33) rfl rfl hst rfl (by rfl) (by rfl) Tryd.underlying49 el_uint8 rfl (by decide) (by decide) 5 rfl (by first | rfl | omega) (by first | exact HS.out _ (hst.tailN 3) | exact hst.sl 0 rfl | exact hst.sl 1 rfl | exact hst.sl 2 rfl | exact hst.sl 3 rfl | exact hst.sl 4 rfl | exact hst.sl 5 rfl | assumption | exact hst.old (by decide) (by assumption)) (by first | exact oneCell_bytes | (simp [Value.oneCell']; done)) (by omega) ?_; clear hst; intro A33 c33 W33 hst; simp only [List.set_cons_zero, List.set_cons_succ, List.nil_append, Nat.zero_add] at hst)
      | (refine L_appendF (d := some 33) rfl rfl rfl (by rfl) (by rfl) Tryd.underlying49 el_uint8 rfl (by decide) (by assumption) (by first | assumption | exact HS.out _ (hst.tailN 3) | exact hst.sl 0 rfl | exact hst.sl 1 rfl | exact hst.sl 2 rfl | exact hst.sl 3 rfl | exact hst.sl 4 rfl | exact hst.sl 5 rfl | assumption | exact hst.old (by decide) (by assumption)) (by omega) (by omega) (by omega) ?_; (try clear hnew); intro A33 c33 W33 hnew; replace hst := hst.trans hnew; simp only [List.cons_append, List.nil_append] at hst)
      | (refine L_buildS (d := some 37) rfl rfl rfl [_] (bs_1 (ev_tmp rfl)) rfl Tryd.underlying49 el_uint8 rfl (by first | (simp [Value.cells]; done) | (simp [Value.cells, Dig.size]; done)) (by decide) (by decide) ?_; (try clear hnew); intro g37 W37 hnew; replace hst := hst.trans hnew; simp only [List.cons_append, List.nil_append] at hst; simp only [List.flatMap_cons, List.flatMap_nil, List.append_nil, Value.cells, List.toList_toArray] at hst)
      | (refine L_appendO (d := some 38) rfl rfl hst rfl (by rfl) (by rfl) Tryd.underlying49 el_uint8 rfl (by decide) (by decide) 0 rfl (by first | rfl | omega) (by first | exact HS.out _ (hst.tailN 3) | exact hst.sl 0 rfl | exact hst.sl 1 rfl | exact hst.sl 2 rfl | exact hst.sl 3 rfl | exact hst.sl 4 rfl | exact hst.sl 5 rfl | assumption | exact hst.old (by decide) (by assumption)) (by first | exact oneCell_bytes | (simp [Value.oneCell']; done)) (by omega) ?_; clear hst; intro A38 c38 W38 hst; simp only [List.set_cons_zero, List.set_cons_succ, List.nil_append, Nat.zero_add] at hst)
      | (refine L_appendO (d := some 38) rfl rfl hst rfl (by rfl) (by rfl) Tryd.underlying49 el_uint8 rfl (by decide) (by decide) 1 rfl (by first | rfl | omega) (by first | exact HS.out _ (hst.tailN 3) | exact hst.sl 0 rfl | exact hst.sl 1 rfl | exact hst.sl 2 rfl | exact hst.sl 3 rfl | exact hst.sl 4 rfl | exact hst.sl 5 rfl | assumption | exact hst.old (by decide) (by assumption)) (by first | exact oneCell_bytes | (simp [Value.oneCell']; done)) (by omega) ?_; clear hst; intro A38 c38 W38 hst; simp only [List.set_cons_zero, List.set_cons_succ, List.nil_append, Nat.zero_add] at hst)
      | (refine L_appendO (d := some 38) rfl rfl hst rfl (by rfl) (by rfl) Tryd.underlying49 el_uint8 rfl (by decide) (by decide) 2 rfl (by first | rfl | omega) (by first | exact HS.out _ (hst.tailN 3) | exact hst.sl 0 rfl | exact hst.sl 1 rfl | exact hst.sl 2 rfl | exact hst.sl 3 rfl | exact hst.sl 4 rfl | exact hst.sl 5 rfl | assumption | exact hst.old (by decide) (by assumption)) (by first | exact oneCell_bytes | (simp [Value.oneCell']; done)) (by omega) ?_; clear hst; intro A38 c38 W38 hst; simp only [List.set_cons_zero, List.set_cons_succ, List.nil_append, Nat.zero_add] at hst)
      | (refine L_appendO (d := some 38) rfl rfl hst rfl (by rfl) (by rfl) Tryd.underlying49 el_uint8 rfl (by decide) (by decide) 3 rfl (by first | rfl | omega) (by first | exact HS.out _ (hst.tailN 3) | exact hst.sl 0 rfl | exact hst.sl 1 rfl | exact hst.sl 2 rfl | exact hst.sl 3 rfl | exact hst.sl 4 rfl | exact hst.sl 5 rfl | assumption | exact hst.old (by decide) (by assumption)) (by first | exact oneCell_bytes | (simp [Value.oneCell']; done)) (by omega) ?_; clear hst; intro A38 c38 W38 hst; simp only [List.set_cons_zero, List.set_cons_succ, List.nil_append, Nat.zero_add] at hst)
      | (refine L_appendO (d := some 38) rfl rfl hst rfl (by rfl) (by rfl) Tryd.underlying49 el_uint8 rfl (by decide) (by decide) 4 rfl (by first | rfl | omega) (by first | exact HS.out _ (hst.tailN 3) | exact hst.sl 0 rfl | exact hst.sl 1 rfl | exact hst.sl 2 rfl | exact hst.sl 3 rfl | exact hst.sl 4 rfl | exact hst.sl 5 rfl | assumption | exact hst.old (by decide) (by assumption)) (by first | exact oneCell_bytes | (simp [Value.oneCell']; done)) (by omega) ?_; clear hst; intro A38 c38 W38 hst; simp only [List.set_cons_zero, List.set_cons_succ, List.nil_append, Nat.zero_add] at hst)
      | (refine L_appendO (d := some 38) rfl rfl hst rfl (by rfl) (by rfl) Tryd.underlying49 el_uint8 rfl (by decide) (by decide) 5 rfl (by first | rfl | omega) (by first | exact HS.out _ (hst.tailN 3) | exact hst.sl 0 rfl | exact hst.sl 1 rfl | exact hst.sl 2 rfl | exact hst.sl 3 rfl | exact hst.sl 4 rfl | exact hst.sl 5 rfl | assumption | exact hst.old (by decide) (by assumption)) (by first | exact oneCell_bytes | (simp [Value.oneCell']; done)) (by omega) ?_; clear hst; intro A38 c38 W38 hst; simp only [List.set_cons_zero, List.set_cons_succ, List.nil_append, Nat.zero_add] at hst)
      | (refine L_appendF (d := some 38) rfl rfl rfl (by rfl) (by rfl) Tryd.underlying49 el_uint8 rfl (by decide) (by assumption) (by first | assumption | exact HS.out _ (hst.tailN 3) | exact hst.sl 0 rfl | exact hst.sl 1 rfl | exact hst.sl 2 rfl | exact hst.sl 3 rfl | exact hst.sl 4 rfl | exact hst.sl 5 rfl | assumption | exact hst.old (by decide) (by assumption)) (by omega) (by omega) (by omega) ?_; (try clear hnew); intro A38 c38 W38 hnew; replace hst := hst.trans hnew; simp only [List.cons_append, List.nil_append] at hst)
      | fail)
     go_roundg (gk - 1)
     case measure => have hi := HI.out; omega
     case rel =>
      have hi := HI.out
      refine ⟨i + 1, A33, A38, c33, c38, Lib.hid (by omega), rfl, rfl, by go_num, ?_⟩
      rw [← HP9.out, ← HP5.out]
      exact hst.tail.tail
    ·have hz : kk.getD i 0 = 0 := by
      have := HK.out.2
      rw [List.getD_eq_getElem?_getD, List.getElem?_eq_none (by omega)]
      rfl
     have hx5 : bits .xor .u8 (0 : Int) 54 = 54 := by decide
     have hx9 : bits .xor .u8 (0 : Int) 92 = 92 := by decide
     rw [hz] at HP5 HP9
     clear hz
     go_wp2_with (first
      | (refine L_idxS (d := some 27) rfl rfl rfl (by rfl) (by rfl) Tryd.underlying49 el_uint8 (by first | assumption | exact hst.sl 0 rfl | exact hst.sl 1 rfl | exact hst.sl 2 rfl | exact hst.sl 3 rfl | exact hst.sl 4 rfl | exact hst.sl 5 rfl | exact hst.old (by decide) (by assumption)) (by omega) (by omega) ?_; intro o27 p27 ha27 hr27; (first | subst ha27 | (obtain ⟨h1, h2⟩ := some_addr ha27; subst h1; subst h2; clear ha27) | skip))
      | (refine L_load1 (d := some 28) rfl rfl rfl (by rfl) Tryd.underlying5 rfl (by first | assumption | exact cell_of (hst.get 0 rfl) rfl | exact cell_of (hst.get 1 rfl) rfl | exact cell_of (hst.get 2 rfl) rfl | exact cell_of (hst.get 3 rfl) rfl | exact cell_of (hst.get 4 rfl) rfl | exact cell_of (hst.get 5 rfl) rfl) ?_)
      | (refine L_buildS (d := some 32) rfl rfl rfl [_] (bs_1 (ev_tmp rfl)) rfl Tryd.underlying49 el_uint8 rfl (by first | (simp [Value.cells]; done) | (simp [Value.cells, Dig.size]; done)) (by decide) (by decide) ?_; (try clear hnew); intro g32 W32 hnew; replace hst := hst.trans hnew; simp only [List.cons_append, List.nil_append] at hst; simp only [List.flatMap_cons, List.flatMap_nil, List.append_nil, Value.cells, List.toList_toArray] at hst)
      | (refine L_appendO (d := some 33) rfl rfl hst rfl (by rfl) (by rfl) Tryd.underlying49 el_uint8 rfl (by decide) (by decide) 0 rfl (by first | rfl | omega) (by first | exact hst.sl 0 rfl | exact hst.sl 1 rfl | exact hst.sl 2 rfl | exact hst.sl 3 rfl | exact hst.sl 4 rfl | exact hst.sl 5 rfl | assumption | exact hst.old (by decide) (by assumption)) (by first | exact oneCell_bytes | (simp [Value.oneCell']; done)) (by omega) ?_; clear hst; intro A33 c33 W33 hst; simp only [List.set_cons_zero, List.set_cons_succ, List.nil_append, Nat.zero_add] at hst)
      | (refine L_appendO (d := some 33) rfl rfl hst rfl (by rfl) (by rfl) Tryd.underlying49 el_uint8 rfl (by decide) (by decide) 1 rfl (by first | rfl | omega) (by first | exact hst.sl 0 rfl | exact hst.sl 1 rfl | exact hst.sl 2 rfl | exact hst.sl 3 rfl | exact hst.sl 4 rfl | exact hst.sl 5 rfl | assumption | exact hst.old (by decide) (by assumption)) (by first | exact oneCell_bytes | (simp [Value.oneCell']; done)) (by omega) ?_; clear hst; intro A33 c33 W33 hst; simp only [List.set_cons_zero, List.set_cons_succ, List.nil_append, Nat.zero_add] at hst)
      | (refine L_appendO (d := some 33) rfl rfl hst rfl (by rfl) (by rfl) Tryd.underlying49 el_uint8 rfl (by decide) (by decide) 2 rfl (by first | rfl | omega) (by first | exact hst.sl 0 rfl | exact hst.sl 1 rfl | exact hst.sl 2 rfl | exact hst.sl 3 rfl | exact hst.sl 4 rfl | exact hst.sl 5 rfl | assumption | exact hst.old (by decide) (by assumption)) (by first | exact oneCell_bytes | (simp [Value.oneCell']; done)) (by omega) ?_; clear hst; intro A33 c33 W33 hst; simp only [List.set_cons_zero, List.set_cons_succ, List.nil_append, Nat.zero_add] at hst)
      | (refine L_appendO (d := some 33) rfl rfl hst rfl (by rfl) (by rfl) Tryd.underlying49 el_uint8 rfl (by decide) (by decide) 3 rfl (by first | rfl | omega) (by first | exact hst.sl 0 rfl | exact hst.sl 1 rfl | exact hst.sl 2 rfl | exact hst.sl 3 rfl | exact hst.sl 4 rfl | exact hst.sl 5 rfl | assumption | exact hst.old (by decide) (by assumption)) (by first | exact oneCell_bytes | (simp [Value.oneCell']; done)) (by omega) ?_; clear hst; intro A33 c33 W33 hst; simp only [List.set_cons_zero, List.set_cons_succ, List.nil_append, Nat.zero_add] at hst)
      | (refine L_appendO (d := some 33) rfl rfl hst rfl (by rfl) (by rfl) Tryd.underlying49 el_uint8 rfl (by decide) (by decide) 4 rfl (by first | rfl | omega) (by first | exact hst.sl 0 rfl | exact hst.sl 1 rfl | exact hst.sl 2 rfl | exact hst.sl 3 rfl | exact hst.sl 4 rfl | exact hst.sl 5 rfl | assumption | exact hst.old (by decide) (by assumption)) (by first | exact oneCell_bytes | (simp [Value.oneCell']; done)) (by omega) ?_; clear hst; intro A33 c33 W33 hst; simp only [List.set_cons_zero, List.set_cons_succ, List.nil_append, Nat.zero_add] at hst)
      | (refine L_appendO (d := some 33) rfl rfl hst rfl (by rfl) (by rfl) Tryd.underlying49 el_uint8 rfl (by decide) (by decide) 5 rfl (by first | rfl | omega) (by first | exact hst.sl 0 rfl | exact hst.sl 1 rfl | exact hst.sl 2 rfl | exact hst.sl 3 rfl | exact hst.sl 4 rfl | exact hst.sl 5 rfl | assumption | exact hst.old (by decide) (by assumption)) (by first | exact oneCell_bytes | (simp [Value.oneCell']; done)) (by omega) ?_; clear hst; intro A33 c33 W33 hst; simp only [List.set_cons_zero, List.set_cons_succ, List.nil_append, Nat.zero_add] at hst)
      | (refine L_appendF (d := some 33) rfl rfl rfl (by rfl) (by rfl) Tryd.underlying49 el_uint8 rfl (by decide) (by assumption) (by first | assumption | exact hst.sl 0 rfl | exact hst.sl 1 rfl | exact hst.sl 2 rfl | exact hst.sl 3 rfl | exact hst.sl 4 rfl | exact hst.sl 5 rfl | assumption | exact hst.old (by decide) (by assumption)) (by omega) (by omega) (by omega) ?_; (try clear hnew); intro A33 c33 W33 hnew; replace hst := hst.trans hnew; simp only [List.cons_append, List.nil_append] at hst)
      | (refine L_buildS (d := some 37) rfl rfl rfl [_] (bs_1 (ev_tmp rfl)) rfl Tryd.underlying49 el_uint8 rfl (by first | (simp [Value.cells]; done) | (simp [Value.cells, Dig.size]; done)) (by decide) (by decide) ?_; (try clear hnew); intro g37 W37 hnew; replace hst := hst.trans hnew; simp only [List.cons_append, List.nil_append] at hst; simp only [List.flatMap_cons, List.flatMap_nil, List.append_nil, Value.cells, List.toList_toArray] at hst)
      | (refine L_appendO (d := some 38) rfl rfl hst rfl (by rfl) (by rfl) Tryd.underlying49 el_uint8 rfl (by decide) (by decide) 0 rfl (by first | rfl | omega) (by first | exact hst.sl 0 rfl | exact hst.sl 1 rfl | exact hst.sl 2 rfl | exact hst.sl 3 rfl | exact hst.sl 4 rfl | exact hst.sl 5 rfl | assumption | exact hst.old (by decide) (by assumption)) (by first | exact oneCell_bytes | (simp [Value.oneCell']; done)) (by omega) ?_; clear hst; intro A38 c38 W38 hst; simp only [List.set_cons_zero, List.set_cons_succ, List.nil_append, Nat.zero_add] at hst)
      | (refine L_appendO (d := some 38) rfl rfl hst rfl (by rfl) (by rfl) Tryd.underlying49 el_uint8 rfl (by decide) (by decide) 1 rfl (by first | rfl | omega) (by first | exact hst.sl 0 rfl | exact hst.sl 1 rfl | exact hst.sl 2 rfl | exact hst.sl 3 rfl | exact hst.sl 4 rfl | exact hst.sl 5 rfl | assumption | exact hst.old (by decide) (by assumption)) (by first | exact oneCell_bytes | (simp [Value.oneCell']; done)) (by omega) ?_; clear hst; intro A38 c38 W38 hst; simp only [List.set_cons_zero, List.set_cons_succ, List.nil_append, Nat.zero_add] at hst)
      | (refine L_appendO (d := some 38) rfl rfl hst rfl (by rfl) (by rfl) Tryd.underlying49 el_uint8 rfl (by decide) (by decide) 2 rfl (by first | rfl | omega) (by first | exact hst.sl 0 rfl | exact hst.sl 1 rfl | exact hst.sl 2 rfl | exact hst.sl 3 rfl | exact hst.sl 4 rfl | exact hst.sl 5 rfl | assumption | exact hst.old (by decide) (by assumption)) (by first | exact oneCell_bytes | (simp [Value.oneCell']; done)) (by omega) ?_; clear hst; intro A38 c38 W38 hst; simp only [List.set_cons_zero, List.set_cons_succ, List.nil_append, Nat.zero_add] at hst)
      | (refine L_appendO (d := some 38) rfl rfl hst rfl (by rfl) (by rfl) Tryd.underlying49 el_uint8 rfl (by decide) (by decide) 3 rfl (by first | rfl | omega) (by first | exact hst.sl 0 rfl | exact hst.sl 1 rfl | exact hst.sl 2 rfl | exact hst.sl 3 rfl | exact hst.sl 4 rfl | exact hst.sl 5 rfl | assumption | exact hst.old (by decide) (by assumption)) (by first | exact oneCell_bytes | (simp [Value.oneCell']; done)) (by omega) ?_; clear hst; intro A38 c38 W38 hst; simp only [List.set_cons_zero, List.set_cons_succ, List.nil_append, Nat.zero_add] at hst)
      | (refine L_appendO (d := some 38) rfl rfl hst rfl (by rfl) (by rfl) Tryd.underlying49 el_uint8 rfl (by decide) (by decide) 4 rfl (by first | rfl | omega) (by first | exact hst.sl 0 rfl | exact hst.sl 1 rfl | exact hst.sl 2 rfl | exact hst.sl 3 rfl | exact hst.sl 4 rfl | exact hst.sl 5 rfl | assumption | exact hst.old (by decide) (by assumption)) (by first | exact oneCell_bytes | (simp [Value.oneCell']; done)) (by omega) ?_; clear hst; intro A38 c38 W38 hst; simp only [List.set_cons_zero, List.set_cons_succ, List.nil_append, Nat.zero_add] at hst)
      | (refine L_appendO (d := some 38) rfl rfl hst rfl (by rfl) (by rfl) Tryd.underlying49 el_uint8 rfl (by decide) (by decide) 5 rfl (by first | rfl | omega) (by first | exact hst.sl 0 rfl | exact hst.sl 1 rfl | exact hst.sl 2 rfl | exact hst.sl 3 rfl | exact hst.sl 4 rfl | exact hst.sl 5 rfl | assumption | exact hst.old (by decide) (by assumption)) (by first | exact oneCell_bytes | (simp [Value.oneCell']; done)) (by omega) ?_; clear hst; intro A38 c38 W38 hst; simp only [List.set_cons_zero, List.set_cons_succ, List.nil_append, Nat.zero_add] at hst)
      | (refine L_appendF (d := some 38) rfl rfl rfl (by rfl) (by rfl) Tryd.underlying49 el_uint8 rfl (by decide) (by assumption) (by first | assumption | exact hst.sl 0 rfl | exact hst.sl 1 rfl | exact hst.sl 2 rfl | exact hst.sl 3 rfl | exact hst.sl 4 rfl | exact hst.sl 5 rfl | assumption | exact hst.old (by decide) (by assumption)) (by omega) (by omega) (by omega) ?_; (try clear hnew); intro A38 c38 W38 hnew; replace hst := hst.trans hnew; simp only [List.cons_append, List.nil_append] at hst)
      | fail)
     go_roundg (gk - 1)
     case measure => have hi := HI.out; omega
     case rel =>
      have hi := HI.out
      refine ⟨i + 1, A33, A38, c33, c38, Lib.hid (by omega), rfl, rfl, by go_num, ?_⟩
      rw [← HP9.out, ← HP5.out]
      exact hst.tail.tail
   ·obtain rfl : i = 64 := by omega
    clear hi HI
    rw [padK_all, padK_all] at hst
    have hfin : sha (padK kk 92 ++ (sha (padK kk 54 ++ b)).l) = macN key b := by rw [HK.out.1]; rfl
    have Hfin := Lib.hid hfin
    clear hfin
    go_wp2_with (first
     | (go_at_call 38; (try clear hnew); first | (refine (rsum_any (padK kk 54 ++ b) _ _ _ _ (by rw [bytesL_append]; exact hst.sl 1 rfl) (by omega)).mono ?_; rintro e W42 ⟨rfl, hnew⟩; replace hst := hst.keep hnew) | (refine (rsum_any (padK kk 92 ++ (sha (padK kk 54 ++ b)).l) _ _ _ _ (by rw [bytesL_append, ← Dig.toList]; exact hst.sl 1 rfl) (by omega)).mono ?_; rintro e W46 ⟨rfl, hnew⟩; replace hst := hst.keep hnew))
     | (refine L_appendO (d := some 41) rfl rfl hst rfl (by rfl) (by rfl) Tryd.underlying49 el_uint8 rfl (by decide) (by decide) 0 rfl (by first | rfl | omega) (by first | exact hs44 | exact hst.old (by decide) hx | exact hst.sl 0 rfl | exact hst.sl 1 rfl | exact hst.sl 2 rfl | exact hst.sl 3 rfl | exact hst.sl 4 rfl | assumption | exact hst.old (by decide) (by assumption)) (by first | exact oneCell_bytes | (simp [Value.oneCell']; done) | exact Dig.oneR _) (by omega) ?_; clear hst; intro A41 c41 W41 hst; simp only [List.set_cons_zero, List.set_cons_succ, List.nil_append, Nat.zero_add] at hst)
     | (refine L_appendO (d := some 41) rfl rfl hst rfl (by rfl) (by rfl) Tryd.underlying49 el_uint8 rfl (by decide) (by decide) 1 rfl (by first | rfl | omega) (by first | exact hs44 | exact hst.old (by decide) hx | exact hst.sl 0 rfl | exact hst.sl 1 rfl | exact hst.sl 2 rfl | exact hst.sl 3 rfl | exact hst.sl 4 rfl | assumption | exact hst.old (by decide) (by assumption)) (by first | exact oneCell_bytes | (simp [Value.oneCell']; done) | exact Dig.oneR _) (by omega) ?_; clear hst; intro A41 c41 W41 hst; simp only [List.set_cons_zero, List.set_cons_succ, List.nil_append, Nat.zero_add] at hst)
     | (refine L_appendO (d := some 41) rfl rfl hst rfl (by rfl) (by rfl) Tryd.underlying49 el_uint8 rfl (by decide) (by decide) 2 rfl (by first | rfl | omega) (by first | exact hs44 | exact hst.old (by decide) hx | exact hst.sl 0 rfl | exact hst.sl 1 rfl | exact hst.sl 2 rfl | exact hst.sl 3 rfl | exact hst.sl 4 rfl | assumption | exact hst.old (by decide) (by assumption)) (by first | exact oneCell_bytes | (simp [Value.oneCell']; done) | exact Dig.oneR _) (by omega) ?_; clear hst; intro A41 c41 W41 hst; simp only [List.set_cons_zero, List.set_cons_succ, List.nil_append, Nat.zero_add] at hst)
     | (refine L_appendO (d := some 41) rfl rfl hst rfl (by rfl) (by rfl) Tryd.underlying49 el_uint8 rfl (by decide) (by decide) 3 rfl (by first | rfl | omega) (by first | exact hs44 | exact hst.old (by decide) hx | exact hst.sl 0 rfl | exact hst.sl 1 rfl | exact hst.sl 2 rfl | exact hst.sl 3 rfl | exact hst.sl 4 rfl | assumption | exact hst.old (by decide) (by assumption)) (by first | exact oneCell_bytes | (simp [Value.oneCell']; done) | exact Dig.oneR _) (by omega) ?_; clear hst; intro A41 c41 W41 hst; simp only [List.set_cons_zero, List.set_cons_succ, List.nil_append, Nat.zero_add] at hst)
     | (refine L_appendO (d := some 41) rfl rfl hst rfl (by rfl) (by rfl) Tryd.underlying49 el_uint8 rfl (by decide) (by decide) 4 rfl (by first | rfl | omega) (by first | exact hs44 | exact hst.old (by decide) hx | exact hst.sl 0 rfl | exact hst.sl 1 rfl | exact hst.sl 2 rfl | exact hst.sl 3 rfl | exact hst.sl 4 rfl | assumption | exact hst.old (by decide) (by assumption)) (by first | exact oneCell_bytes | (simp [Value.oneCell']; done) | exact Dig.oneR _) (by omega) ?_; clear hst; intro A41 c41 W41 hst; simp only [List.set_cons_zero, List.set_cons_succ, List.nil_append, Nat.zero_add] at hst)
     | (refine L_appendF (d := some 41) rfl rfl rfl (by rfl) (by rfl) Tryd.underlying49 el_uint8 rfl (by decide) (by assumption) (by first | assumption | exact hs44 | exact hst.old (by decide) hx | exact hst.sl 0 rfl | exact hst.sl 1 rfl | exact hst.sl 2 rfl | exact hst.sl 3 rfl | exact hst.sl 4 rfl | assumption | exact hst.old (by decide) (by assumption)) (by omega) (by omega) (by omega) ?_; (try clear hnew); intro A41 c41 W41 hnew; replace hst := hst.trans hnew; simp only [List.cons_append, List.nil_append] at hst)
     | (refine L_allocA (d := some 10) rfl rfl rfl el_api_Digest ?_; (try clear hnew); intro g10 W10 hnew; replace hst := hst.trans hnew; simp only [List.cons_append, List.nil_append] at hst)
     | (refine wpl_at (.store 23 (.tmp 10) (.tmp 42)) rfl ?_; first | (refine L_storeA rfl rfl hst rfl (by rfl) (ev_tmp rfl) (by first | rfl | exact Dig.one _ | exact Dig.oneR _ | (simp; done)) el_api_Digest (by first | rfl | exact Dig.size _ | (simp; done)) 0 rfl (by first | rfl | exact Dig.size _ | (simp; done)) ?_; clear hst; intro WS5 hst; simp only [List.set_cons_zero, List.set_cons_succ] at hst) | (refine L_storeA rfl rfl hst rfl (by rfl) (ev_tmp rfl) (by first | rfl | exact Dig.one _ | exact Dig.oneR _ | (simp; done)) el_api_Digest (by first | rfl | exact Dig.size _ | (simp; done)) 1 rfl (by first | rfl | exact Dig.size _ | (simp; done)) ?_; clear hst; intro WS5 hst; simp only [List.set_cons_zero, List.set_cons_succ] at hst) | (refine L_storeA rfl rfl hst rfl (by rfl) (ev_tmp rfl) (by first | rfl | exact Dig.one _ | exact Dig.oneR _ | (simp; done)) el_api_Digest (by first | rfl | exact Dig.size _ | (simp; done)) 2 rfl (by first | rfl | exact Dig.size _ | (simp; done)) ?_; clear hst; intro WS5 hst; simp only [List.set_cons_zero, List.set_cons_succ] at hst) | (refine L_storeA rfl rfl hst rfl (by rfl) (ev_tmp rfl) (by first | rfl | exact Dig.one _ | exact Dig.oneR _ | (simp; done)) el_api_Digest (by first | rfl | exact Dig.size _ | (simp; done)) 3 rfl (by first | rfl | exact Dig.size _ | (simp; done)) ?_; clear hst; intro WS5 hst; simp only [List.set_cons_zero, List.set_cons_succ] at hst) | (refine L_storeA rfl rfl hst rfl (by rfl) (ev_tmp rfl) (by first | rfl | exact Dig.one _ | exact Dig.oneR _ | (simp; done)) el_api_Digest (by first | rfl | exact Dig.size _ | (simp; done)) 4 rfl (by first | rfl | exact Dig.size _ | (simp; done)) ?_; clear hst; intro WS5 hst; simp only [List.set_cons_zero, List.set_cons_succ] at hst) | (refine L_storeM rfl rfl hst rfl (by rfl) (ev_tmp rfl) (by first | rfl | exact Dig.one _ | exact Dig.oneR _ | (simp; done)) el_api_Digest (by first | rfl | exact Dig.size _ | (simp; done)) 0 rfl (by first | exact of_decide_eq_true rfl | (simp; done)) ?_; clear hst; intro WS5 hst; simp only [List.set_cons_zero, List.set_cons_succ] at hst)  | (refine L_storeM rfl rfl hst rfl (by rfl) (ev_tmp rfl) (by first | rfl | exact Dig.one _ | exact Dig.oneR _ | (simp; done)) el_api_Digest (by first | rfl | exact Dig.size _ | (simp; done)) 1 rfl (by first | exact of_decide_eq_true rfl | (simp; done)) ?_; clear hst; intro WS5 hst; simp only [List.set_cons_zero, List.set_cons_succ] at hst)  | (refine L_storeM rfl rfl hst rfl (by rfl) (ev_tmp rfl) (by first | rfl | exact Dig.one _ | exact Dig.oneR _ | (simp; done)) el_api_Digest (by first | rfl | exact Dig.size _ | (simp; done)) 2 rfl (by first | exact of_decide_eq_true rfl | (simp; done)) ?_; clear hst; intro WS5 hst; simp only [List.set_cons_zero, List.set_cons_succ] at hst)  | (refine L_storeM rfl rfl hst rfl (by rfl) (ev_tmp rfl) (by first | rfl | exact Dig.one _ | exact Dig.oneR _ | (simp; done)) el_api_Digest (by first | rfl | exact Dig.size _ | (simp; done)) 3 rfl (by first | exact of_decide_eq_true rfl | (simp; done)) ?_; clear hst; intro WS5 hst; simp only [List.set_cons_zero, List.set_cons_succ] at hst)  | (refine L_storeM rfl rfl hst rfl (by rfl) (ev_tmp rfl) (by first | rfl | exact Dig.one _ | exact Dig.oneR _ | (simp; done)) el_api_Digest (by first | rfl | exact Dig.size _ | (simp; done)) 4 rfl (by first | exact of_decide_eq_true rfl | (simp; done)) ?_; clear hst; intro WS5 hst; simp only [List.set_cons_zero, List.set_cons_succ] at hst))
     | (refine L_sliceAll (d := some 44) rfl rfl rfl (by rfl) Tryd.underlying23 el_uint8 (by first | exact hst.get 0 rfl | exact hst.get 1 rfl | exact hst.get 2 rfl | exact hst.get 3 rfl | exact hst.get 4 rfl) (by first | rfl | exact Dig.size _ | (simp; done)) (by decide) ?_; intro hs44)
     | (refine L_appendO (d := some 45) rfl rfl hst rfl (by rfl) (by rfl) Tryd.underlying49 el_uint8 rfl (by decide) (by decide) 0 rfl (by first | rfl | omega) (by first | exact hs44 | exact hst.old (by decide) hx | exact hst.sl 0 rfl | exact hst.sl 1 rfl | exact hst.sl 2 rfl | exact hst.sl 3 rfl | exact hst.sl 4 rfl | assumption | exact hst.old (by decide) (by assumption)) (by first | exact oneCell_bytes | (simp [Value.oneCell']; done) | exact Dig.oneR _) (by omega) ?_; clear hst; intro A45 c45 W45 hst; simp only [List.set_cons_zero, List.set_cons_succ, List.nil_append, Nat.zero_add] at hst)
     | (refine L_appendO (d := some 45) rfl rfl hst rfl (by rfl) (by rfl) Tryd.underlying49 el_uint8 rfl (by decide) (by decide) 1 rfl (by first | rfl | omega) (by first | exact hs44 | exact hst.old (by decide) hx | exact hst.sl 0 rfl | exact hst.sl 1 rfl | exact hst.sl 2 rfl | exact hst.sl 3 rfl | exact hst.sl 4 rfl | assumption | exact hst.old (by decide) (by assumption)) (by first | exact oneCell_bytes | (simp [Value.oneCell']; done) | exact Dig.oneR _) (by omega) ?_; clear hst; intro A45 c45 W45 hst; simp only [List.set_cons_zero, List.set_cons_succ, List.nil_append, Nat.zero_add] at hst)
     | (refine L_appendO (d := some 45) rfl rfl hst rfl (by rfl) (by rfl) Tryd.underlying49 el_uint8 rfl (by decide) (by decide) 2 rfl (by first | rfl | omega) (by first | exact hs44 | exact hst.old (by decide) hx | exact hst.sl 0 rfl | exact hst.sl 1 rfl | exact hst.sl 2 rfl | exact hst.sl 3 rfl | exact hst.sl 4 rfl | assumption | exact hst.old (by decide) (by assumption)) (by first | exact oneCell_bytes | (simp [Value.oneCell']; done) | exact Dig.oneR _) (by omega) ?_; clear hst; intro A45 c45 W45 hst; simp only [List.set_cons_zero, List.set_cons_succ, List.nil_append, Nat.zero_add] at hst)
     | (refine L_appendO (d := some 45) rfl rfl hst rfl (by rfl) (by rfl) Tryd.underlying49 el_uint8 rfl (by decide) (by decide) 3 rfl (by first | rfl | omega) (by first | exact hs44 | exact hst.old (by decide) hx | exact hst.sl 0 rfl | exact hst.sl 1 rfl | exact hst.sl 2 rfl | exact hst.sl 3 rfl | exact hst.sl 4 rfl | assumption | exact hst.old (by decide) (by assumption)) (by first | exact oneCell_bytes | (simp [Value.oneCell']; done) | exact Dig.oneR _) (by omega) ?_; clear hst; intro A45 c45 W45 hst; simp only [List.set_cons_zero, List.set_cons_succ, List.nil_append, Nat.zero_add] at hst)
     | (refine L_appendO (d := some 45) rfl rfl hst rfl (by rfl) (by rfl) Tryd.underlying49 el_uint8 rfl (by decide) (by decide) 4 rfl (by first | rfl | omega) (by first | exact hs44 | exact hst.old (by decide) hx | exact hst.sl 0 rfl | exact hst.sl 1 rfl | exact hst.sl 2 rfl | exact hst.sl 3 rfl | exact hst.sl 4 rfl | assumption | exact hst.old (by decide) (by assumption)) (by first | exact oneCell_bytes | (simp [Value.oneCell']; done) | exact Dig.oneR _) (by omega) ?_; clear hst; intro A45 c45 W45 hst; simp only [List.set_cons_zero, List.set_cons_succ, List.nil_append, Nat.zero_add] at hst)
     | (refine L_appendF (d := some 45) rfl rfl rfl (by rfl) (by rfl) Tryd.underlying49 el_uint8 rfl (by decide) (by assumption) (by first | assumption | exact hs44 | exact hst.old (by decide) hx | exact hst.sl 0 rfl | exact hst.sl 1 rfl | exact hst.sl 2 rfl | exact hst.sl 3 rfl | exact hst.sl 4 rfl | assumption | exact hst.old (by decide) (by assumption)) (by omega) (by omega) (by omega) ?_; (try clear hnew); intro A45 c45 W45 hnew; replace hst := hst.trans hnew; simp only [List.cons_append, List.nil_append] at hst)
     | (refine wpl_at (.store 23 (.tmp 4) (.tmp 46)) rfl ?_; first | (refine L_storeA rfl rfl hst rfl (by rfl) (ev_tmp rfl) (by first | rfl | exact Dig.one _ | exact Dig.oneR _ | (simp; done)) el_api_Digest (by first | rfl | exact Dig.size _ | (simp; done)) 0 rfl (by first | rfl | exact Dig.size _ | (simp; done)) ?_; clear hst; intro WS4 hst; simp only [List.set_cons_zero, List.set_cons_succ] at hst) | (refine L_storeA rfl rfl hst rfl (by rfl) (ev_tmp rfl) (by first | rfl | exact Dig.one _ | exact Dig.oneR _ | (simp; done)) el_api_Digest (by first | rfl | exact Dig.size _ | (simp; done)) 1 rfl (by first | rfl | exact Dig.size _ | (simp; done)) ?_; clear hst; intro WS4 hst; simp only [List.set_cons_zero, List.set_cons_succ] at hst) | (refine L_storeA rfl rfl hst rfl (by rfl) (ev_tmp rfl) (by first | rfl | exact Dig.one _ | exact Dig.oneR _ | (simp; done)) el_api_Digest (by first | rfl | exact Dig.size _ | (simp; done)) 2 rfl (by first | rfl | exact Dig.size _ | (simp; done)) ?_; clear hst; intro WS4 hst; simp only [List.set_cons_zero, List.set_cons_succ] at hst) | (refine L_storeA rfl rfl hst rfl (by rfl) (ev_tmp rfl) (by first | rfl | exact Dig.one _ | exact Dig.oneR _ | (simp; done)) el_api_Digest (by first | rfl | exact Dig.size _ | (simp; done)) 3 rfl (by first | rfl | exact Dig.size _ | (simp; done)) ?_; clear hst; intro WS4 hst; simp only [List.set_cons_zero, List.set_cons_succ] at hst) | (refine L_storeA rfl rfl hst rfl (by rfl) (ev_tmp rfl) (by first | rfl | exact Dig.one _ | exact Dig.oneR _ | (simp; done)) el_api_Digest (by first | rfl | exact Dig.size _ | (simp; done)) 4 rfl (by first | rfl | exact Dig.size _ | (simp; done)) ?_; clear hst; intro WS4 hst; simp only [List.set_cons_zero, List.set_cons_succ] at hst) | (refine L_storeM rfl rfl hst rfl (by rfl) (ev_tmp rfl) (by first | rfl | exact Dig.one _ | exact Dig.oneR _ | (simp; done)) el_api_Digest (by first | rfl | exact Dig.size _ | (simp; done)) 0 rfl (by first | exact of_decide_eq_true rfl | (simp; done)) ?_; clear hst; intro WS4 hst; simp only [List.set_cons_zero, List.set_cons_succ] at hst)  | (refine L_storeM rfl rfl hst rfl (by rfl) (ev_tmp rfl) (by first | rfl | exact Dig.one _ | exact Dig.oneR _ | (simp; done)) el_api_Digest (by first | rfl | exact Dig.size _ | (simp; done)) 1 rfl (by first | exact of_decide_eq_true rfl | (simp; done)) ?_; clear hst; intro WS4 hst; simp only [List.set_cons_zero, List.set_cons_succ] at hst)  | (refine L_storeM rfl rfl hst rfl (by rfl) (ev_tmp rfl) (by first | rfl | exact Dig.one _ | exact Dig.oneR _ | (simp; done)) el_api_Digest (by first | rfl | exact Dig.size _ | (simp; done)) 2 rfl (by first | exact of_decide_eq_true rfl | (simp; done)) ?_; clear hst; intro WS4 hst; simp only [List.set_cons_zero, List.set_cons_succ] at hst)  | (refine L_storeM rfl rfl hst rfl (by rfl) (ev_tmp rfl) (by first | rfl | exact Dig.one _ | exact Dig.oneR _ | (simp; done)) el_api_Digest (by first | rfl | exact Dig.size _ | (simp; done)) 3 rfl (by first | exact of_decide_eq_true rfl | (simp; done)) ?_; clear hst; intro WS4 hst; simp only [List.set_cons_zero, List.set_cons_succ] at hst)  | (refine L_storeM rfl rfl hst rfl (by rfl) (ev_tmp rfl) (by first | rfl | exact Dig.one _ | exact Dig.oneR _ | (simp; done)) el_api_Digest (by first | rfl | exact Dig.size _ | (simp; done)) 4 rfl (by first | exact of_decide_eq_true rfl | (simp; done)) ?_; clear hst; intro WS4 hst; simp only [List.set_cons_zero, List.set_cons_succ] at hst))
     | fail)
    rw [Hfin.out] at hst
    refine bp_cell rfl rfl rfl (hst.get 3 rfl) Tryd.underlying23 rfl el_api_Digest (by first | rfl | exact Dig.size _ | (simp; done)) ?_
    exact ⟨rfl, hst.forget⟩
end Go.Proofs.YtkbleigmfcleaaaDoor

set_option maxRecDepth 20000
set_option linter.unusedSimpArgs false
set_option linter.unusedVariables false
namespace Go.Proofs.YtkbleigmfcleaaaDoor
def markN (key : List UInt8) (n : Int) (x y : Dig) : Dig := macN key (13 :: (sz8 n ++ (x.l ++ y.l)))
def tagN (key : List UInt8) (n : Int) (x y : Dig) : Dig := macN key (sz4 n ++ (x.l ++ y.l))
end Go.Proofs.YtkbleigmfcleaaaDoor

set_option maxRecDepth 20000
set_option linter.unusedSimpArgs false
set_option linter.unusedVariables false
namespace Go.Proofs.YtkbleigmfcleaaaDoor
open Go.RowKit
theorem bS (n : Int) (i : Nat) (h : i < 8) (m : Int) (hm : m = 2 ^ (8 * i)) : Value.int .u8 (n / m % 256) = byteV (byteS n i) := by
 subst hm
 have := byteS_val n i h
 unfold byteV
 rw [← this]
 rfl
theorem bS0 (n : Int) : Value.int .u8 (n % 256) = byteV (byteS n 0) := by
 have := bS n 0 (by decide) 1 (by decide)
 rwa [Int.ediv_one] at this
theorem sz4_cells (n : Int) : [Value.int .u8 (n / 16777216 % 256), .int .u8 (n / 65536 % 256), .int .u8 (n / 256 % 256), .int .u8 (n % 256)] = bytesL (sz4 n) := by
 rw [bS n 3 (by decide) _ (by decide), bS n 2 (by decide) _ (by decide), bS n 1 (by decide) _ (by decide), bS0]
 rfl
def mkHi (n : Int) : List UInt8 := [13, byteS n 7, byteS n 6, byteS n 5, byteS n 4]
theorem mkHi_cells (n : Int) : [Value.int .u8 13, .int .u8 (n / 72057594037927936 % 256), .int .u8 (n / 281474976710656 % 256), .int .u8 (n / 1099511627776 % 256), .int .u8 (n / 4294967296 % 256)] = bytesL (mkHi n) := by
 rw [bS n 7 (by decide) _ (by decide), bS n 6 (by decide) _ (by decide), bS n 5 (by decide) _ (by decide), bS n 4 (by decide) _ (by decide)]
 rfl
set_option maxHeartbeats 1000000 in
theorem four_any (n : Int) (w : World) :
  Calls Tryd.prog 51 #[.int .i64 n] w fun e w' => ∃ A, e = .returned (.slice A 4 4) ∧ St w w' [.row A 4 4 5 1 (bytesL (sz4 n))] := by
 have hst := St.refl w
 go_enter Tryd.func51, Tryd.ntmps51
 go_wp2_with (first
  | (refine L_buildS (d := some 14) rfl rfl rfl [_, _, _, _] (bs_4 (ev_tmp rfl) (ev_tmp rfl) (ev_tmp rfl) (ev_tmp rfl)) rfl Tryd.underlying49 el_uint8 rfl (by first | (simp [Value.cells]; done) | (simp [Value.cells, Dig.size]; done)) (by decide) (by decide) ?_; (try clear hnew); intro g14 W14 hnew; replace hst := hst.trans hnew; simp only [List.cons_append, List.nil_append] at hst; simp only [List.flatMap_cons, List.flatMap_nil, List.append_nil, Value.cells, List.toList_toArray] at hst)
  | fail)
 simp only [List.cons_append, List.nil_append] at hst
 rw [sz4_cells] at hst
 go_ret
 exact ⟨_, rfl, hst⟩
set_option maxHeartbeats 2000000 in
set_option maxRecDepth 100000 in
theorem rmark_any (key : List UInt8) (K : Option Addr) (m mc : Nat) (n : Int) (x y z : Dig) (w : World) (hk : SlR w K m mc 1 (bytesL key)) (hm : m ≤ 140737488355000) :
  Calls Tryd.prog 23 #[.slice K m mc, .agg (hdArr n x y z)] w fun e w' => e = .returned (markN key n x y).v ∧ St w w' [] := by
 have hst := St.refl w
 go_enter Tryd.func23, Tryd.ntmps23
 go_upto_region 1 with (first
  | (refine L_boxA (d := some 3) rfl rfl rfl (ev_tmp rfl) ?_; (try clear hnew); intro g3 W3 hnew; replace hst := hst.trans hnew; simp only [List.cons_append, List.nil_append] at hst)
  | (refine L_allocA (d := some 4) rfl rfl rfl el_api_Digest ?_; (try clear hnew); intro g4 W4 hnew; replace hst := hst.trans hnew; simp only [List.cons_append, List.nil_append] at hst)
  | fail)
 go_upto_region 2 with (first
  | (refine L_load1 (d := some 9) rfl rfl rfl (by rfl) Tryd.underlying3 rfl (by first | assumption | exact cell_of (hst.get 0 rfl) hdArr_0 | exact cell_of (hst.get 0 rfl) rfl | exact cell_of (hst.get 1 rfl) hdArr_0 | exact cell_of (hst.get 1 rfl) rfl | exact cell_of (hst.get 2 rfl) hdArr_0 | exact cell_of (hst.get 2 rfl) rfl | exact cell_of (hst.get 3 rfl) hdArr_0 | exact cell_of (hst.get 3 rfl) rfl) ?_)
  | (refine L_load1 (d := some 13) rfl rfl rfl (by rfl) Tryd.underlying3 rfl (by first | assumption | exact cell_of (hst.get 0 rfl) hdArr_0 | exact cell_of (hst.get 0 rfl) rfl | exact cell_of (hst.get 1 rfl) hdArr_0 | exact cell_of (hst.get 1 rfl) rfl | exact cell_of (hst.get 2 rfl) hdArr_0 | exact cell_of (hst.get 2 rfl) rfl | exact cell_of (hst.get 3 rfl) hdArr_0 | exact cell_of (hst.get 3 rfl) rfl) ?_)
  | (refine L_load1 (d := some 17) rfl rfl rfl (by rfl) Tryd.underlying3 rfl (by first | assumption | exact cell_of (hst.get 0 rfl) hdArr_0 | exact cell_of (hst.get 0 rfl) rfl | exact cell_of (hst.get 1 rfl) hdArr_0 | exact cell_of (hst.get 1 rfl) rfl | exact cell_of (hst.get 2 rfl) hdArr_0 | exact cell_of (hst.get 2 rfl) rfl | exact cell_of (hst.get 3 rfl) hdArr_0 | exact cell_of (hst.get 3 rfl) rfl) ?_)
  | (refine L_load1 (d := some 21) rfl rfl rfl (by rfl) Tryd.underlying3 rfl (by first | assumption | exact cell_of (hst.get 0 rfl) hdArr_0 | exact cell_of (hst.get 0 rfl) rfl | exact cell_of (hst.get 1 rfl) hdArr_0 | exact cell_of (hst.get 1 rfl) rfl | exact cell_of (hst.get 2 rfl) hdArr_0 | exact cell_of (hst.get 2 rfl) rfl | exact cell_of (hst.get 3 rfl) hdArr_0 | exact cell_of (hst.get 3 rfl) rfl) ?_)
  | (refine L_buildS (d := some 24) rfl rfl rfl [_, _, _, _, _] (bs_5 ev_const (ev_tmp rfl) (ev_tmp rfl) (ev_tmp rfl) (ev_tmp rfl)) rfl Tryd.underlying49 el_uint8 rfl (by first | (simp [Value.cells]; done) | (simp [Value.cells, Dig.size]; done)) (by decide) (by decide) ?_; (try clear hnew); intro g24 W24 hnew; replace hst := hst.trans hnew; simp only [List.cons_append, List.nil_append] at hst; simp only [List.flatMap_cons, List.flatMap_nil, List.append_nil, Value.cells, List.toList_toArray] at hst)
  | fail)
 simp only [List.cons_append, List.nil_append] at hst
 rw [mkHi_cells] at hst
 clear hnew
 go_upto_region 3 with (first
  | (go_at_call 51; (try clear hnew); refine (four_any n _).mono ?_; rintro e Wk1 ⟨A28, rfl, hnew⟩; replace hst := hst.trans hnew; simp only [List.cons_append, List.nil_append] at hst)
  | (refine L_load1 (d := some 27) rfl rfl rfl (by rfl) Tryd.underlying3 rfl (by first | assumption | exact cell_of (hst.get 0 rfl) hdArr_0 | exact cell_of (hst.get 0 rfl) rfl | exact cell_of (hst.get 1 rfl) hdArr_0 | exact cell_of (hst.get 1 rfl) rfl | exact cell_of (hst.get 2 rfl) hdArr_0 | exact cell_of (hst.get 2 rfl) rfl | exact cell_of (hst.get 3 rfl) hdArr_0 | exact cell_of (hst.get 3 rfl) rfl) ?_)
  | (refine L_appendO (d := some 29) rfl rfl hst rfl (by rfl) (by rfl) Tryd.underlying49 el_uint8 rfl (by decide) (by decide) 0 rfl (by first | rfl | omega) (by first | exact hst.sl 0 rfl | exact hst.sl 1 rfl | exact hst.sl 2 rfl | exact hst.sl 3 rfl | assumption | exact hst.old (by decide) (by assumption)) (by first | exact oneCell_bytes | (simp [Value.oneCell']; done)) (by omega) ?_; clear hst; intro A29 c29 W29 hst; simp only [List.set_cons_zero, List.set_cons_succ, List.nil_append, Nat.zero_add] at hst)
  | (refine L_appendO (d := some 29) rfl rfl hst rfl (by rfl) (by rfl) Tryd.underlying49 el_uint8 rfl (by decide) (by decide) 1 rfl (by first | rfl | omega) (by first | exact hst.sl 0 rfl | exact hst.sl 1 rfl | exact hst.sl 2 rfl | exact hst.sl 3 rfl | assumption | exact hst.old (by decide) (by assumption)) (by first | exact oneCell_bytes | (simp [Value.oneCell']; done)) (by omega) ?_; clear hst; intro A29 c29 W29 hst; simp only [List.set_cons_zero, List.set_cons_succ, List.nil_append, Nat.zero_add] at hst)
  | (refine L_appendO (d := some 29) rfl rfl hst rfl (by rfl) (by rfl) Tryd.underlying49 el_uint8 rfl (by decide) (by decide) 2 rfl (by first | rfl | omega) (by first | exact hst.sl 0 rfl | exact hst.sl 1 rfl | exact hst.sl 2 rfl | exact hst.sl 3 rfl | assumption | exact hst.old (by decide) (by assumption)) (by first | exact oneCell_bytes | (simp [Value.oneCell']; done)) (by omega) ?_; clear hst; intro A29 c29 W29 hst; simp only [List.set_cons_zero, List.set_cons_succ, List.nil_append, Nat.zero_add] at hst)
  | (refine L_appendO (d := some 29) rfl rfl hst rfl (by rfl) (by rfl) Tryd.underlying49 el_uint8 rfl (by decide) (by decide) 3 rfl (by first | rfl | omega) (by first | exact hst.sl 0 rfl | exact hst.sl 1 rfl | exact hst.sl 2 rfl | exact hst.sl 3 rfl | assumption | exact hst.old (by decide) (by assumption)) (by first | exact oneCell_bytes | (simp [Value.oneCell']; done)) (by omega) ?_; clear hst; intro A29 c29 W29 hst; simp only [List.set_cons_zero, List.set_cons_succ, List.nil_append, Nat.zero_add] at hst)
  | (refine L_appendF (d := some 29) rfl rfl rfl (by rfl) (by rfl) Tryd.underlying49 el_uint8 rfl (by decide) (by assumption) (by first | assumption | exact hst.sl 0 rfl | exact hst.sl 1 rfl | exact hst.sl 2 rfl | exact hst.sl 3 rfl | assumption | exact hst.old (by decide) (by assumption)) (by omega) (by omega) (by omega) ?_; (try clear hnew); intro A29 c29 W29 hnew; replace hst := hst.trans hnew; simp only [List.cons_append, List.nil_append] at hst)
  | fail)
 (try clear hnew)
 replace hst := hst.tail
 rw [← bytesL_append, show mkHi n ++ sz4 n = List.cons 13 (sz8 n) from rfl] at hst
 have HB := Lib.hid (show bytesL (List.cons 13 (sz8 n)) ++ x.arr.toList ++ y.arr.toList = bytesL (List.cons 13 (sz8 n ++ (x.l ++ y.l))) by
  rw [Dig.toList, Dig.toList, ← bytesL_append, ← bytesL_append, List.cons_append, List.cons_append, List.append_assoc])
 generalize bytesL (List.cons 13 (sz8 n)) = hd at *
 go_upto_region 4 with (first
  | (first | (refine L_loadA (d := some 31) rfl rfl rfl (by rfl) Tryd.underlying23 rfl el_api_Digest (by first | exact hst.get 0 rfl | exact hst.get 1 rfl | exact hst.get 2 rfl | exact hst.get 3 rfl | exact hst.get 4 rfl) (by first | rfl | exact Dig.size _ | (simp; done)) ?_) | (refine L_loadM (d := some 31) rfl rfl rfl (by rfl) Tryd.underlying23 rfl el_api_Digest (by first | assumption | exact hdArr_root (hst.get 2 rfl) | exact hdArr_map (hst.get 3 rfl)) (by first | rfl | exact Dig.size _ | (simp; done)) ?_))
  | (refine L_allocA (d := some 6) rfl rfl rfl el_api_Digest ?_; (try clear hnew); intro g6 W6 hnew; replace hst := hst.trans hnew; simp only [List.cons_append, List.nil_append] at hst)
  | (refine wpl_at (.store 23 (.tmp 6) (.tmp 31)) rfl ?_; first | (refine L_storeA rfl rfl hst rfl (by rfl) (ev_tmp rfl) (by first | rfl | exact Dig.one _ | (simp; done)) el_api_Digest (by first | rfl | exact Dig.size _ | (simp; done)) 0 rfl (by first | rfl | exact Dig.size _ | (simp; done)) ?_; clear hst; intro WS3 hst; simp only [List.set_cons_zero, List.set_cons_succ] at hst) | (refine L_storeA rfl rfl hst rfl (by rfl) (ev_tmp rfl) (by first | rfl | exact Dig.one _ | (simp; done)) el_api_Digest (by first | rfl | exact Dig.size _ | (simp; done)) 1 rfl (by first | rfl | exact Dig.size _ | (simp; done)) ?_; clear hst; intro WS3 hst; simp only [List.set_cons_zero, List.set_cons_succ] at hst) | (refine L_storeA rfl rfl hst rfl (by rfl) (ev_tmp rfl) (by first | rfl | exact Dig.one _ | (simp; done)) el_api_Digest (by first | rfl | exact Dig.size _ | (simp; done)) 2 rfl (by first | rfl | exact Dig.size _ | (simp; done)) ?_; clear hst; intro WS3 hst; simp only [List.set_cons_zero, List.set_cons_succ] at hst) | (refine L_storeA rfl rfl hst rfl (by rfl) (ev_tmp rfl) (by first | rfl | exact Dig.one _ | (simp; done)) el_api_Digest (by first | rfl | exact Dig.size _ | (simp; done)) 3 rfl (by first | rfl | exact Dig.size _ | (simp; done)) ?_; clear hst; intro WS3 hst; simp only [List.set_cons_zero, List.set_cons_succ] at hst) | (refine L_storeA rfl rfl hst rfl (by rfl) (ev_tmp rfl) (by first | rfl | exact Dig.one _ | (simp; done)) el_api_Digest (by first | rfl | exact Dig.size _ | (simp; done)) 4 rfl (by first | rfl | exact Dig.size _ | (simp; done)) ?_; clear hst; intro WS3 hst; simp only [List.set_cons_zero, List.set_cons_succ] at hst) | (refine L_storeM rfl rfl hst rfl (by rfl) (ev_tmp rfl) (by first | rfl | exact Dig.one _ | (simp; done)) el_api_Digest (by first | rfl | exact Dig.size _ | (simp; done)) 0 rfl (by first | exact of_decide_eq_true rfl | (simp; done)) ?_; clear hst; intro WS3 hst; simp only [List.set_cons_zero, List.set_cons_succ] at hst)  | (refine L_storeM rfl rfl hst rfl (by rfl) (ev_tmp rfl) (by first | rfl | exact Dig.one _ | (simp; done)) el_api_Digest (by first | rfl | exact Dig.size _ | (simp; done)) 1 rfl (by first | exact of_decide_eq_true rfl | (simp; done)) ?_; clear hst; intro WS3 hst; simp only [List.set_cons_zero, List.set_cons_succ] at hst)  | (refine L_storeM rfl rfl hst rfl (by rfl) (ev_tmp rfl) (by first | rfl | exact Dig.one _ | (simp; done)) el_api_Digest (by first | rfl | exact Dig.size _ | (simp; done)) 2 rfl (by first | exact of_decide_eq_true rfl | (simp; done)) ?_; clear hst; intro WS3 hst; simp only [List.set_cons_zero, List.set_cons_succ] at hst)  | (refine L_storeM rfl rfl hst rfl (by rfl) (ev_tmp rfl) (by first | rfl | exact Dig.one _ | (simp; done)) el_api_Digest (by first | rfl | exact Dig.size _ | (simp; done)) 3 rfl (by first | exact of_decide_eq_true rfl | (simp; done)) ?_; clear hst; intro WS3 hst; simp only [List.set_cons_zero, List.set_cons_succ] at hst)  | (refine L_storeM rfl rfl hst rfl (by rfl) (ev_tmp rfl) (by first | rfl | exact Dig.one _ | (simp; done)) el_api_Digest (by first | rfl | exact Dig.size _ | (simp; done)) 4 rfl (by first | exact of_decide_eq_true rfl | (simp; done)) ?_; clear hst; intro WS3 hst; simp only [List.set_cons_zero, List.set_cons_succ] at hst))
  | fail)
 go_upto_region 5 with (first
  | (first | (refine L_loadA (d := some 33) rfl rfl rfl (by rfl) Tryd.underlying23 rfl el_api_Digest (by first | exact hst.get 0 rfl | exact hst.get 1 rfl | exact hst.get 2 rfl | exact hst.get 3 rfl | exact hst.get 4 rfl) (by first | rfl | exact Dig.size _ | (simp; done)) ?_) | (refine L_loadM (d := some 33) rfl rfl rfl (by rfl) Tryd.underlying23 rfl el_api_Digest (by first | assumption | exact hdArr_root (hst.get 2 rfl) | exact hdArr_map (hst.get 3 rfl)) (by first | rfl | exact Dig.size _ | (simp; done)) ?_))
  | (refine L_allocA (d := some 7) rfl rfl rfl el_api_Digest ?_; (try clear hnew); intro g7 W7 hnew; replace hst := hst.trans hnew; simp only [List.cons_append, List.nil_append] at hst)
  | (refine wpl_at (.store 23 (.tmp 7) (.tmp 33)) rfl ?_; first | (refine L_storeA rfl rfl hst rfl (by rfl) (ev_tmp rfl) (by first | rfl | exact Dig.one _ | (simp; done)) el_api_Digest (by first | rfl | exact Dig.size _ | (simp; done)) 0 rfl (by first | rfl | exact Dig.size _ | (simp; done)) ?_; clear hst; intro WS3 hst; simp only [List.set_cons_zero, List.set_cons_succ] at hst) | (refine L_storeA rfl rfl hst rfl (by rfl) (ev_tmp rfl) (by first | rfl | exact Dig.one _ | (simp; done)) el_api_Digest (by first | rfl | exact Dig.size _ | (simp; done)) 1 rfl (by first | rfl | exact Dig.size _ | (simp; done)) ?_; clear hst; intro WS3 hst; simp only [List.set_cons_zero, List.set_cons_succ] at hst) | (refine L_storeA rfl rfl hst rfl (by rfl) (ev_tmp rfl) (by first | rfl | exact Dig.one _ | (simp; done)) el_api_Digest (by first | rfl | exact Dig.size _ | (simp; done)) 2 rfl (by first | rfl | exact Dig.size _ | (simp; done)) ?_; clear hst; intro WS3 hst; simp only [List.set_cons_zero, List.set_cons_succ] at hst) | (refine L_storeA rfl rfl hst rfl (by rfl) (ev_tmp rfl) (by first | rfl | exact Dig.one _ | (simp; done)) el_api_Digest (by first | rfl | exact Dig.size _ | (simp; done)) 3 rfl (by first | rfl | exact Dig.size _ | (simp; done)) ?_; clear hst; intro WS3 hst; simp only [List.set_cons_zero, List.set_cons_succ] at hst) | (refine L_storeA rfl rfl hst rfl (by rfl) (ev_tmp rfl) (by first | rfl | exact Dig.one _ | (simp; done)) el_api_Digest (by first | rfl | exact Dig.size _ | (simp; done)) 4 rfl (by first | rfl | exact Dig.size _ | (simp; done)) ?_; clear hst; intro WS3 hst; simp only [List.set_cons_zero, List.set_cons_succ] at hst) | (refine L_storeM rfl rfl hst rfl (by rfl) (ev_tmp rfl) (by first | rfl | exact Dig.one _ | (simp; done)) el_api_Digest (by first | rfl | exact Dig.size _ | (simp; done)) 0 rfl (by first | exact of_decide_eq_true rfl | (simp; done)) ?_; clear hst; intro WS3 hst; simp only [List.set_cons_zero, List.set_cons_succ] at hst)  | (refine L_storeM rfl rfl hst rfl (by rfl) (ev_tmp rfl) (by first | rfl | exact Dig.one _ | (simp; done)) el_api_Digest (by first | rfl | exact Dig.size _ | (simp; done)) 1 rfl (by first | exact of_decide_eq_true rfl | (simp; done)) ?_; clear hst; intro WS3 hst; simp only [List.set_cons_zero, List.set_cons_succ] at hst)  | (refine L_storeM rfl rfl hst rfl (by rfl) (ev_tmp rfl) (by first | rfl | exact Dig.one _ | (simp; done)) el_api_Digest (by first | rfl | exact Dig.size _ | (simp; done)) 2 rfl (by first | exact of_decide_eq_true rfl | (simp; done)) ?_; clear hst; intro WS3 hst; simp only [List.set_cons_zero, List.set_cons_succ] at hst)  | (refine L_storeM rfl rfl hst rfl (by rfl) (ev_tmp rfl) (by first | rfl | exact Dig.one _ | (simp; done)) el_api_Digest (by first | rfl | exact Dig.size _ | (simp; done)) 3 rfl (by first | exact of_decide_eq_true rfl | (simp; done)) ?_; clear hst; intro WS3 hst; simp only [List.set_cons_zero, List.set_cons_succ] at hst)  | (refine L_storeM rfl rfl hst rfl (by rfl) (ev_tmp rfl) (by first | rfl | exact Dig.one _ | (simp; done)) el_api_Digest (by first | rfl | exact Dig.size _ | (simp; done)) 4 rfl (by first | exact of_decide_eq_true rfl | (simp; done)) ?_; clear hst; intro WS3 hst; simp only [List.set_cons_zero, List.set_cons_succ] at hst))
  | fail)
 go_upto_region 6 with (first
  | (refine L_sliceAll (d := some 35) rfl rfl rfl (by rfl) Tryd.underlying23 el_uint8 (by first | exact hst.get 0 rfl | exact hst.get 1 rfl | exact hst.get 2 rfl | exact hst.get 3 rfl | exact hst.get 4 rfl) (by first | rfl | exact Dig.size _ | (simp; done)) (by decide) ?_; intro hs35)
  | (refine L_appendO (d := some 36) rfl rfl hst rfl (by rfl) (by rfl) Tryd.underlying49 el_uint8 rfl (by decide) (by decide) 0 rfl (by first | rfl | omega) (by first | exact hst.sl 0 rfl | exact hst.sl 1 rfl | exact hst.sl 2 rfl | exact hst.sl 3 rfl | exact hst.sl 4 rfl | assumption | exact hst.old (by decide) (by assumption)) (by first | exact oneCell_bytes | (simp [Value.oneCell']; done) | exact Dig.oneR _) (by omega) ?_; clear hst; intro A36 c36 W36 hst; simp only [List.set_cons_zero, List.set_cons_succ, List.nil_append, Nat.zero_add] at hst)
  | (refine L_appendO (d := some 36) rfl rfl hst rfl (by rfl) (by rfl) Tryd.underlying49 el_uint8 rfl (by decide) (by decide) 1 rfl (by first | rfl | omega) (by first | exact hst.sl 0 rfl | exact hst.sl 1 rfl | exact hst.sl 2 rfl | exact hst.sl 3 rfl | exact hst.sl 4 rfl | assumption | exact hst.old (by decide) (by assumption)) (by first | exact oneCell_bytes | (simp [Value.oneCell']; done) | exact Dig.oneR _) (by omega) ?_; clear hst; intro A36 c36 W36 hst; simp only [List.set_cons_zero, List.set_cons_succ, List.nil_append, Nat.zero_add] at hst)
  | (refine L_appendO (d := some 36) rfl rfl hst rfl (by rfl) (by rfl) Tryd.underlying49 el_uint8 rfl (by decide) (by decide) 2 rfl (by first | rfl | omega) (by first | exact hst.sl 0 rfl | exact hst.sl 1 rfl | exact hst.sl 2 rfl | exact hst.sl 3 rfl | exact hst.sl 4 rfl | assumption | exact hst.old (by decide) (by assumption)) (by first | exact oneCell_bytes | (simp [Value.oneCell']; done) | exact Dig.oneR _) (by omega) ?_; clear hst; intro A36 c36 W36 hst; simp only [List.set_cons_zero, List.set_cons_succ, List.nil_append, Nat.zero_add] at hst)
  | (refine L_appendO (d := some 36) rfl rfl hst rfl (by rfl) (by rfl) Tryd.underlying49 el_uint8 rfl (by decide) (by decide) 3 rfl (by first | rfl | omega) (by first | exact hst.sl 0 rfl | exact hst.sl 1 rfl | exact hst.sl 2 rfl | exact hst.sl 3 rfl | exact hst.sl 4 rfl | assumption | exact hst.old (by decide) (by assumption)) (by first | exact oneCell_bytes | (simp [Value.oneCell']; done) | exact Dig.oneR _) (by omega) ?_; clear hst; intro A36 c36 W36 hst; simp only [List.set_cons_zero, List.set_cons_succ, List.nil_append, Nat.zero_add] at hst)
  | (refine L_appendO (d := some 36) rfl rfl hst rfl (by rfl) (by rfl) Tryd.underlying49 el_uint8 rfl (by decide) (by decide) 4 rfl (by first | rfl | omega) (by first | exact hst.sl 0 rfl | exact hst.sl 1 rfl | exact hst.sl 2 rfl | exact hst.sl 3 rfl | exact hst.sl 4 rfl | assumption | exact hst.old (by decide) (by assumption)) (by first | exact oneCell_bytes | (simp [Value.oneCell']; done) | exact Dig.oneR _) (by omega) ?_; clear hst; intro A36 c36 W36 hst; simp only [List.set_cons_zero, List.set_cons_succ, List.nil_append, Nat.zero_add] at hst)
  | (refine L_appendF (d := some 36) rfl rfl rfl (by rfl) (by rfl) Tryd.underlying49 el_uint8 rfl (by decide) (by assumption) (by first | assumption | exact hst.sl 0 rfl | exact hst.sl 1 rfl | exact hst.sl 2 rfl | exact hst.sl 3 rfl | exact hst.sl 4 rfl | assumption | exact hst.old (by decide) (by assumption)) (by omega) (by omega) (by omega) ?_; (try clear hnew); intro A36 c36 W36 hnew; replace hst := hst.trans hnew; simp only [List.cons_append, List.nil_append] at hst)
  | fail)
 go_wp2_with (first
  | (go_at_call 52; (try clear hnew); with_reducible refine (rmac_any key (List.cons 13 (sz8 n ++ (x.l ++ y.l))) _ _ _ _ _ _ _ (hst.old (by decide) hk) (by rw [← HB.out]; exact hst.sl 2 rfl) hm (by omega)).mono ?_; rintro e Wk2 ⟨rfl, hnew⟩; replace hst := hst.keep hnew)
  | (refine L_sliceAll (d := some 39) rfl rfl rfl (by rfl) Tryd.underlying23 el_uint8 (by first | exact hst.get 0 rfl | exact hst.get 1 rfl | exact hst.get 2 rfl | exact hst.get 3 rfl | exact hst.get 4 rfl) (by first | rfl | exact Dig.size _ | (simp; done)) (by decide) ?_; intro hs39)
  | (refine L_appendO (d := some 40) rfl rfl hst rfl (by rfl) (by rfl) Tryd.underlying49 el_uint8 rfl (by decide) (by decide) 0 rfl (by first | rfl | omega) (by first | exact hst.sl 0 rfl | exact hst.sl 1 rfl | exact hst.sl 2 rfl | exact hst.sl 3 rfl | exact hst.sl 4 rfl | assumption | exact hst.old (by decide) (by assumption)) (by first | exact oneCell_bytes | (simp [Value.oneCell']; done) | exact Dig.oneR _) (by omega) ?_; clear hst; intro A40 c40 W40 hst; simp only [List.set_cons_zero, List.set_cons_succ, List.nil_append, Nat.zero_add] at hst)
  | (refine L_appendO (d := some 40) rfl rfl hst rfl (by rfl) (by rfl) Tryd.underlying49 el_uint8 rfl (by decide) (by decide) 1 rfl (by first | rfl | omega) (by first | exact hst.sl 0 rfl | exact hst.sl 1 rfl | exact hst.sl 2 rfl | exact hst.sl 3 rfl | exact hst.sl 4 rfl | assumption | exact hst.old (by decide) (by assumption)) (by first | exact oneCell_bytes | (simp [Value.oneCell']; done) | exact Dig.oneR _) (by omega) ?_; clear hst; intro A40 c40 W40 hst; simp only [List.set_cons_zero, List.set_cons_succ, List.nil_append, Nat.zero_add] at hst)
  | (refine L_appendO (d := some 40) rfl rfl hst rfl (by rfl) (by rfl) Tryd.underlying49 el_uint8 rfl (by decide) (by decide) 2 rfl (by first | rfl | omega) (by first | exact hst.sl 0 rfl | exact hst.sl 1 rfl | exact hst.sl 2 rfl | exact hst.sl 3 rfl | exact hst.sl 4 rfl | assumption | exact hst.old (by decide) (by assumption)) (by first | exact oneCell_bytes | (simp [Value.oneCell']; done) | exact Dig.oneR _) (by omega) ?_; clear hst; intro A40 c40 W40 hst; simp only [List.set_cons_zero, List.set_cons_succ, List.nil_append, Nat.zero_add] at hst)
  | (refine L_appendO (d := some 40) rfl rfl hst rfl (by rfl) (by rfl) Tryd.underlying49 el_uint8 rfl (by decide) (by decide) 3 rfl (by first | rfl | omega) (by first | exact hst.sl 0 rfl | exact hst.sl 1 rfl | exact hst.sl 2 rfl | exact hst.sl 3 rfl | exact hst.sl 4 rfl | assumption | exact hst.old (by decide) (by assumption)) (by first | exact oneCell_bytes | (simp [Value.oneCell']; done) | exact Dig.oneR _) (by omega) ?_; clear hst; intro A40 c40 W40 hst; simp only [List.set_cons_zero, List.set_cons_succ, List.nil_append, Nat.zero_add] at hst)
  | (refine L_appendO (d := some 40) rfl rfl hst rfl (by rfl) (by rfl) Tryd.underlying49 el_uint8 rfl (by decide) (by decide) 4 rfl (by first | rfl | omega) (by first | exact hst.sl 0 rfl | exact hst.sl 1 rfl | exact hst.sl 2 rfl | exact hst.sl 3 rfl | exact hst.sl 4 rfl | assumption | exact hst.old (by decide) (by assumption)) (by first | exact oneCell_bytes | (simp [Value.oneCell']; done) | exact Dig.oneR _) (by omega) ?_; clear hst; intro A40 c40 W40 hst; simp only [List.set_cons_zero, List.set_cons_succ, List.nil_append, Nat.zero_add] at hst)
  | (refine L_appendF (d := some 40) rfl rfl rfl (by rfl) (by rfl) Tryd.underlying49 el_uint8 rfl (by decide) (by assumption) (by first | assumption | exact hst.sl 0 rfl | exact hst.sl 1 rfl | exact hst.sl 2 rfl | exact hst.sl 3 rfl | exact hst.sl 4 rfl | assumption | exact hst.old (by decide) (by assumption)) (by omega) (by omega) (by omega) ?_; (try clear hnew); intro A40 c40 W40 hnew; replace hst := hst.trans hnew; simp only [List.cons_append, List.nil_append] at hst)
  | (refine wpl_at (.store 23 (.tmp 4) (.tmp 41)) rfl ?_; first | (refine L_storeA rfl rfl hst rfl (by rfl) (ev_tmp rfl) (by first | rfl | exact Dig.one _ | exact Dig.oneR _ | (simp; done)) el_api_Digest (by first | rfl | exact Dig.size _ | (simp; done)) 0 rfl (by first | rfl | exact Dig.size _ | (simp; done)) ?_; clear hst; intro WS5 hst; simp only [List.set_cons_zero, List.set_cons_succ] at hst) | (refine L_storeA rfl rfl hst rfl (by rfl) (ev_tmp rfl) (by first | rfl | exact Dig.one _ | exact Dig.oneR _ | (simp; done)) el_api_Digest (by first | rfl | exact Dig.size _ | (simp; done)) 1 rfl (by first | rfl | exact Dig.size _ | (simp; done)) ?_; clear hst; intro WS5 hst; simp only [List.set_cons_zero, List.set_cons_succ] at hst) | (refine L_storeA rfl rfl hst rfl (by rfl) (ev_tmp rfl) (by first | rfl | exact Dig.one _ | exact Dig.oneR _ | (simp; done)) el_api_Digest (by first | rfl | exact Dig.size _ | (simp; done)) 2 rfl (by first | rfl | exact Dig.size _ | (simp; done)) ?_; clear hst; intro WS5 hst; simp only [List.set_cons_zero, List.set_cons_succ] at hst) | (refine L_storeA rfl rfl hst rfl (by rfl) (ev_tmp rfl) (by first | rfl | exact Dig.one _ | exact Dig.oneR _ | (simp; done)) el_api_Digest (by first | rfl | exact Dig.size _ | (simp; done)) 3 rfl (by first | rfl | exact Dig.size _ | (simp; done)) ?_; clear hst; intro WS5 hst; simp only [List.set_cons_zero, List.set_cons_succ] at hst) | (refine L_storeA rfl rfl hst rfl (by rfl) (ev_tmp rfl) (by first | rfl | exact Dig.one _ | exact Dig.oneR _ | (simp; done)) el_api_Digest (by first | rfl | exact Dig.size _ | (simp; done)) 4 rfl (by first | rfl | exact Dig.size _ | (simp; done)) ?_; clear hst; intro WS5 hst; simp only [List.set_cons_zero, List.set_cons_succ] at hst) | (refine L_storeM rfl rfl hst rfl (by rfl) (ev_tmp rfl) (by first | rfl | exact Dig.one _ | exact Dig.oneR _ | (simp; done)) el_api_Digest (by first | rfl | exact Dig.size _ | (simp; done)) 0 rfl (by first | exact of_decide_eq_true rfl | (simp; done)) ?_; clear hst; intro WS5 hst; simp only [List.set_cons_zero, List.set_cons_succ] at hst)  | (refine L_storeM rfl rfl hst rfl (by rfl) (ev_tmp rfl) (by first | rfl | exact Dig.one _ | exact Dig.oneR _ | (simp; done)) el_api_Digest (by first | rfl | exact Dig.size _ | (simp; done)) 1 rfl (by first | exact of_decide_eq_true rfl | (simp; done)) ?_; clear hst; intro WS5 hst; simp only [List.set_cons_zero, List.set_cons_succ] at hst)  | (refine L_storeM rfl rfl hst rfl (by rfl) (ev_tmp rfl) (by first | rfl | exact Dig.one _ | exact Dig.oneR _ | (simp; done)) el_api_Digest (by first | rfl | exact Dig.size _ | (simp; done)) 2 rfl (by first | exact of_decide_eq_true rfl | (simp; done)) ?_; clear hst; intro WS5 hst; simp only [List.set_cons_zero, List.set_cons_succ] at hst)  | (refine L_storeM rfl rfl hst rfl (by rfl) (ev_tmp rfl) (by first | rfl | exact Dig.one _ | exact Dig.oneR _ | (simp; done)) el_api_Digest (by first | rfl | exact Dig.size _ | (simp; done)) 3 rfl (by first | exact of_decide_eq_true rfl | (simp; done)) ?_; clear hst; intro WS5 hst; simp only [List.set_cons_zero, List.set_cons_succ] at hst)  | (refine L_storeM rfl rfl hst rfl (by rfl) (ev_tmp rfl) (by first | rfl | exact Dig.one _ | exact Dig.oneR _ | (simp; done)) el_api_Digest (by first | rfl | exact Dig.size _ | (simp; done)) 4 rfl (by first | exact of_decide_eq_true rfl | (simp; done)) ?_; clear hst; intro WS5 hst; simp only [List.set_cons_zero, List.set_cons_succ] at hst))
  | fail)
 refine bp_cell rfl rfl rfl (hst.get 3 rfl) Tryd.underlying23 rfl el_api_Digest (by first | rfl | exact Dig.size _ | (simp; done)) ?_
 exact ⟨rfl, hst.forget⟩
end Go.Proofs.YtkbleigmfcleaaaDoor

set_option maxRecDepth 20000
set_option linter.unusedSimpArgs false
set_option linter.unusedVariables false
namespace Go.Proofs.YtkbleigmfcleaaaDoor
open Go.RowKit
def allPc (ps : List Piece) : List UInt8 := ps.flatMap fun p => p.2.2.2
theorem allPc_nil : allPc [] = [] := rfl
theorem allPc_cons (p : Piece) (ps : List Piece) : allPc (p :: ps) = p.2.2.2 ++ allPc ps := rfl
theorem allPc_take (ps : List Piece) (i : Nat) (h : i < ps.length) : allPc (ps.take (i + 1)) = allPc (ps.take i) ++ (ps[i]).2.2.2 := by
 unfold allPc
 rw [List.take_succ_eq_append_getElem h, List.flatMap_append, List.flatMap_cons, List.flatMap_nil, List.append_nil]
theorem allPc_take_le (ps : List Piece) (i : Nat) : (allPc (ps.take i)).length ≤ (allPc ps).length := by
 have : allPc ps = allPc (ps.take i) ++ allPc (ps.drop i) := by
  rw [allPc, allPc, allPc, ← List.flatMap_append, List.take_append_drop]
 rw [this, List.length_append]
 omega
def piecesL (ps : List Piece) : List Value := ps.map Piece.v
theorem piece_at {W : World} {g off i : Nat} {ps : List Piece} (h : W.rangeAt g (off + (i : Int).toNat * 1) (((piecesL ps).drop ((i : Int).toNat * 1)).take 1)) (hi : i < ps.length) : W.cell? ⟨g, off + (i : Int).toNat * 1, none⟩ = some (.slice ps[i].1 ps[i].2.1 ps[i].2.2.1) := by
 have := h 0 ps[i].v (by simp [piecesL, hi])
 simpa [Piece.v] using this
set_option maxHeartbeats 2000000 in
theorem growB_any (n : Nat) (w : World) (hn : n ≤ 140737488355328) :
  Calls Tryd.prog 74 #[.slice none 0 0, .int .i64 (n : Int)] w fun e w' => ∃ O c, e = .returned (.slice O 0 c) ∧ St w w' [.row O 0 c 5 1 []] := by
 by_cases h0 : n = 0
 ·subst h0
  have hst := St.refl w
  go_enter Tryd.func74, Tryd.ntmps74
  go_wp2_with (first
   | fail)
  go_ret
  exact ⟨none, 0, rfl, hst.nilRow _ 1⟩
 ·obtain ⟨i, hi, hiz, his, hib⟩ := el_uint8.parts
  have hrz : ∀ ty, (Builtin.append_ #[49, 3] ty #[.slice none 0 0, .int .i64 (n : Int)]).run Tryd.prog w =
    .ok (.slice (some ⟨w.heap.size, 0, none⟩) n (grownCap w n 0 5)) (w.drew.alloc (.cells (Builtin.zeroCells (Value.int .u8 0).cells n ++ Builtin.zeroCells (Value.int .u8 0).cells (grownCap w n 0 5 - n)) 5)) := fun ty => by
   have h := Lib.run_append_grow_zeros w 49 3 ty 5 i _ .i64 .i64 Tryd.underlying49 Tryd.underlying3 hi hiz none 0 0 [] (run_firstCells_none w.drew i.size 0 0 0) n (by omega) (by rw [his]; decide) (by omega) (by omega) (by rw [hib]; omega) (growslice_fits (by omega) (by rw [hib]; omega))
   simpa using h
  have hge : n ≤ grownCap w n 0 5 := grownCap_ge w _ _ _
  have hcm := grownCap_le_maxLen w n 0 5 (by unfold maxLen; omega)
  have hst : St w (w.drew.alloc (.cells (Builtin.zeroCells (Value.int .u8 0).cells n ++ Builtin.zeroCells (Value.int .u8 0).cells (grownCap w n 0 5 - n)) 5)) [.row (some ⟨w.heap.size, 0, none⟩) 0 (grownCap w n 0 5) 5 1 []] :=
   ((St.refl w).drew).allocRow 5 ⟨by simp, by omega, hcm, by simp [size_zeroCells, Value.cells]; omega, fun j v hv => by simp at hv⟩
  obtain ⟨G, hG⟩ : ∃ G, G = grownCap w n 0 5 := ⟨_, rfl⟩
  rw [← hG] at hrz hge hcm hst
  simp only [maxLen] at hcm
  clear hG
  have h1 : ¬ (n : Int) < 0 := by omega
  have h3 : wrap64 ((n : Int) - 0) = (n : Int) := by unfold wrap64; omega
  have h4 : (0 : Int) < (n : Int) := by omega
  go_enter Tryd.func74, Tryd.ntmps74
  go_wp2_with (at_builtin; refine Lib.wpList_append_run _ rfl _ _ _ _ rfl _ _ rfl rfl _ _ (hrz _) ?_)
  all_goals
   go_ret
   exact ⟨_, _, rfl, hst⟩
set_option maxHeartbeats 2000000 in
set_option maxRecDepth 100000 in
theorem concat_any (ps : List Piece) (A : Option Addr) (n c : Nat) (w : World) (hs : SlR w A n c 1 (piecesL ps)) (hp : ∀ p ∈ ps, SlR w p.1 p.2.1 p.2.2.1 1 (bytesL p.2.2.2)) (hb : (allPc ps).length ≤ 140737488355328) :
  Calls Tryd.prog 50 #[.slice A n c] w fun e w' => ∃ O oc, e = .returned (.slice O (allPc ps).length oc) ∧ St w w' [.row O (allPc ps).length oc 5 1 (bytesL (allPc ps))] := by
 have hst := St.refl w
 have hnl := hs.1
 rw [piecesL, List.length_map, Nat.mul_one] at hnl
 have Hnl := Lib.hid hnl
 have Hp := Lib.hid hp
 have Hb := Lib.hid hb
 have hcm := hs.2.2.1
 have hnc := hs.2.1
 simp only [maxLen] at hcm
 clear hnl hp hb
 go_enter Tryd.func50, Tryd.ntmps50
 go_wp2_with (first
  | fail)
 go_loopg [3, 11] n (fun gk s3 s11 wr => ∃ (i m : Nat), Hid (i + gk = n) ∧ Hid ((allPc (ps.take i)).length = m) ∧ m ≤ 140737488355328 ∧ s3 = .int .i64 (m : Int) ∧ s11 = .int .i64 (i : Int) ∧ St w wr [])
 case atStart => exact ⟨0, 0, Lib.hid (by omega), Lib.hid rfl, by omega, rfl, rfl, hst⟩
 case round =>
  clear hst
  obtain ⟨i, m, HI, HM, hm, rfl, rfl, hst⟩ := hrel
  have hi := HI.out
  by_cases hin : i < n
  ·clear hi
   have hil := Lib.hid (show i < ps.length by rw [Hnl.out]; exact hin)
   have HC := Lib.hid (fun (W : World) (g off : Nat) h => piece_at (W := W) (g := g) (off := off) (i := i) (ps := ps) h hil.out)
   have HA := Lib.hid (allPc_take ps i hil.out)
   have hle := allPc_take_le ps (i + 1)
   have hbb := Hb.out
   have hpl := (Hp.out ps[i] (List.getElem_mem hil.out)).1
   rw [HA.out, List.length_append, HM.out] at hle
   generalize ps[i]'hil.out = q at HC HA hle hpl
   obtain ⟨PA, pn, pc, pl⟩ := q
   dsimp only at HC HA hle hpl
   simp only [length_bytesL, Nat.mul_one] at hle hpl
   have hmp : m + pn ≤ 140737488355328 := by omega
   have Hpl := Lib.hid hpl
   clear hle hbb hpl
   go_wp2_with (first
    | (refine L_load1 (d := some 14) rfl rfl rfl (by rfl) Tryd.underlying49 rfl (HC.out _ _ _ hr13) ?_)
    | (refine L_idxS (d := some 13) rfl rfl rfl (by rfl) (by rfl) Tryd.underlying37 el_S_uint8 (by first | exact hst.old (by decide) hs | assumption | exact hst.sl 0 rfl | exact hst.old (by decide) (by assumption)) (by omega) (by omega) ?_; intro o13 p13 ha13 hr13; (first | subst ha13 | (obtain ⟨h1, h2⟩ := some_addr ha13; subst h1; subst h2; clear ha13) | skip))
    | (refine L_load1 (d := some 14) rfl rfl rfl (by rfl) Tryd.underlying49 rfl (by first | assumption | exact cell_of (hst.get 0 rfl) rfl) ?_)
    | fail)
   all_goals
    go_roundg (gk - 1)
    case measure => have hi := HI.out; omega
    case rel =>
     have hi := HI.out
     exact ⟨i + 1, m + pn, Lib.hid (by omega), Lib.hid (by rw [HA.out, List.length_append, HM.out, Hpl.out]), hmp, by go_num, by go_num, hst⟩
  ·obtain rfl : i = n := by omega
   clear hi HI
   have HL := Lib.hid (show (allPc ps).length = m by rw [← HM.out, List.take_of_length_le (by rw [Hnl.out]; exact Nat.le_refl _)])
   clear HM
   go_wp2_with (first
    | (go_at_call 74; (try clear hnew); refine (growB_any m _ hm).mono ?_; rintro e Wk1 ⟨O24, c24, rfl, hnew⟩; replace hst := hst.trans hnew; simp only [List.cons_append, List.nil_append] at hst)
    | fail)
   (try clear hnew)
   go_loopg [6, 27] i (fun gk s6 s27 wr => ∃ (j q oc : Nat) (O : Option Addr), Hid (j + gk = i) ∧ Hid ((allPc (ps.take j)).length = q) ∧ s6 = .slice O q oc ∧ s27 = .int .i64 (j : Int) ∧ St w wr [.row O q oc 5 1 (bytesL (allPc (ps.take j)))])
   case atStart => exact ⟨0, 0, _, _, Lib.hid (by omega), Lib.hid rfl, rfl, rfl, hst⟩
   case round =>
    clear hst
    obtain ⟨j, q, oc, O, HJ, HQ, rfl, rfl, hst⟩ := hrel
    have hj := HJ.out
    by_cases hjn : j < i
    ·clear hj
     have hil := Lib.hid (show j < ps.length by rw [Hnl.out]; exact hjn)
     have HC := Lib.hid (fun (W : World) (g off : Nat) h => piece_at (W := W) (g := g) (off := off) (i := j) (ps := ps) h hil.out)
     have HP := Hp.out (ps[j]'hil.out) (List.getElem_mem hil.out)
     have HA := Lib.hid (allPc_take ps j hil.out)
     have hle := allPc_take_le ps (j + 1)
     have hbb := Hb.out
     have hpl := HP.1
     rw [HA.out, List.length_append, HQ.out] at hle
     generalize ps[j]'hil.out = r at HC HP HA hle hpl
     obtain ⟨PA, pn, pc, pl⟩ := r
     dsimp only at HC HP HA hle hpl
     simp only [length_bytesL, Nat.mul_one] at hle hpl
     have hmp : q + pn ≤ 140737488355328 := by omega
     have Hpl := Lib.hid hpl
     clear hle hbb hpl
     generalize hal : allPc (ps.take j) = al at hst
     go_wp2_with (first
      | (refine L_load1 (d := some 30) rfl rfl rfl (by rfl) Tryd.underlying49 rfl (HC.out _ _ _ hr29) ?_)
      | (refine L_idxS (d := some 29) rfl rfl rfl (by rfl) (by rfl) Tryd.underlying37 el_S_uint8 (by first | exact hst.old (by decide) hs | exact hst.old (by decide) HP | assumption | exact hst.sl 0 rfl | exact hst.old (by decide) (by assumption)) (by omega) (by omega) ?_; intro o29 p29 ha29 hr29; (first | subst ha29 | (obtain ⟨h1, h2⟩ := some_addr ha29; subst h1; subst h2; clear ha29) | skip))
      | (refine L_load1 (d := some 30) rfl rfl rfl (by rfl) Tryd.underlying49 rfl (by first | assumption | exact cell_of (hst.get 0 rfl) rfl) ?_)
      | (refine L_appendO (d := some 33) rfl rfl hst rfl (by rfl) (by rfl) Tryd.underlying49 el_uint8 rfl (by decide) (by decide) 0 rfl (by first | rfl | omega) (by first | exact hst.old (by decide) hs | exact hst.old (by decide) HP | exact hst.sl 0 rfl | assumption | exact hst.old (by decide) (by assumption)) (by first | exact oneCell_bytes | (simp [Value.oneCell']; done)) (by omega) ?_; clear hst; intro A33 c33 W33 hst; simp only [List.set_cons_zero, List.set_cons_succ, List.nil_append, Nat.zero_add] at hst)
      | (refine L_appendF (d := some 33) rfl rfl rfl (by rfl) (by rfl) Tryd.underlying49 el_uint8 rfl (by decide) (by assumption) (by first | assumption | exact hst.old (by decide) hs | exact hst.old (by decide) HP | exact hst.sl 0 rfl | assumption | exact hst.old (by decide) (by assumption)) (by omega) (by omega) (by omega) ?_; (try clear hnew); intro A33 c33 W33 hnew; replace hst := hst.trans hnew; simp only [List.cons_append, List.nil_append] at hst)
      | fail)
     go_roundg (gk - 1)
     case measure => have hj := HJ.out; omega
     case rel =>
      have hj := HJ.out
      refine ⟨j + 1, q + pn, _, _, Lib.hid (by omega), Lib.hid (by rw [HA.out, List.length_append, HQ.out, Hpl.out]), rfl, by go_num, ?_⟩
      rw [HA.out, bytesL_append, hal]
      exact hst
    ·obtain rfl : j = i := by omega
     clear hj HJ
     have hall : allPc (ps.take j) = allPc ps := by rw [List.take_of_length_le (by rw [Hnl.out]; exact Nat.le_refl _)]
     rw [hall] at hst
     obtain rfl : (allPc ps).length = q := by rw [← HQ.out, hall]
     clear hall HQ
     go_wp2_with (first
      | fail)
     go_ret
     exact ⟨_, _, rfl, hst⟩
theorem concat3_any (l1 l2 l3 : List UInt8) (B1 B2 B3 : Option Addr) (n1 c1 n2 c2 n3 c3 : Nat) (A : Option Addr) (c : Nat) (w : World) (hs : SlR w A 3 c 1 [.slice B1 n1 c1, .slice B2 n2 c2, .slice B3 n3 c3])
  (h1 : SlR w B1 n1 c1 1 (bytesL l1)) (h2 : SlR w B2 n2 c2 1 (bytesL l2)) (h3 : SlR w B3 n3 c3 1 (bytesL l3)) (hb : n1 + n2 + n3 ≤ 140737488355328) :
  Calls Tryd.prog 50 #[.slice A 3 c] w fun e w' => ∃ O oc, e = .returned (.slice O (n1 + n2 + n3) oc) ∧ St w w' [.row O (n1 + n2 + n3) oc 5 1 (bytesL (l1 ++ (l2 ++ l3)))] := by
 have e1 := h1.1
 have e2 := h2.1
 have e3 := h3.1
 rw [length_bytesL, Nat.mul_one] at e1 e2 e3
 have hl : allPc [((B1, n1, c1, l1) : Piece), (B2, n2, c2, l2), (B3, n3, c3, l3)] = l1 ++ (l2 ++ l3) := by simp [allPc]
 have hn : (l1 ++ (l2 ++ l3)).length = n1 + n2 + n3 := by rw [List.length_append, List.length_append]; omega
 have := concat_any [((B1, n1, c1, l1) : Piece), (B2, n2, c2, l2), (B3, n3, c3, l3)] A 3 c w hs (by
  intro p hp
  simp only [List.mem_cons, List.not_mem_nil, or_false] at hp
  rcases hp with rfl | rfl | rfl
  ·exact h1
  ·exact h2
  ·exact h3) (by rw [hl, hn]; exact hb)
 rw [hl, hn] at this
 exact this
theorem concat4_any (l1 l2 l3 l4 : List UInt8) (B1 B2 B3 B4 : Option Addr) (n1 c1 n2 c2 n3 c3 n4 c4 : Nat) (A : Option Addr) (c : Nat) (w : World) (hs : SlR w A 4 c 1 [.slice B1 n1 c1, .slice B2 n2 c2, .slice B3 n3 c3, .slice B4 n4 c4])
  (h1 : SlR w B1 n1 c1 1 (bytesL l1)) (h2 : SlR w B2 n2 c2 1 (bytesL l2)) (h3 : SlR w B3 n3 c3 1 (bytesL l3)) (h4 : SlR w B4 n4 c4 1 (bytesL l4)) (hb : n1 + n2 + n3 + n4 ≤ 140737488355328) :
  Calls Tryd.prog 50 #[.slice A 4 c] w fun e w' => ∃ O oc, e = .returned (.slice O (n1 + n2 + n3 + n4) oc) ∧ St w w' [.row O (n1 + n2 + n3 + n4) oc 5 1 (bytesL (l1 ++ (l2 ++ (l3 ++ l4))))] := by
 have e1 := h1.1
 have e2 := h2.1
 have e3 := h3.1
 have e4 := h4.1
 rw [length_bytesL, Nat.mul_one] at e1 e2 e3 e4
 have hl : allPc [((B1, n1, c1, l1) : Piece), (B2, n2, c2, l2), (B3, n3, c3, l3), (B4, n4, c4, l4)] = l1 ++ (l2 ++ (l3 ++ l4)) := by simp [allPc]
 have hn : (l1 ++ (l2 ++ (l3 ++ l4))).length = n1 + n2 + n3 + n4 := by rw [List.length_append, List.length_append, List.length_append]; omega
 have := concat_any [((B1, n1, c1, l1) : Piece), (B2, n2, c2, l2), (B3, n3, c3, l3), (B4, n4, c4, l4)] A 4 c w hs (by
  intro p hp
  simp only [List.mem_cons, List.not_mem_nil, or_false] at hp
  rcases hp with rfl | rfl | rfl | rfl
  ·exact h1
  ·exact h2
  ·exact h3
  ·exact h4) (by rw [hl, hn]; exact hb)
 rw [hl, hn] at this
 exact this
end Go.Proofs.YtkbleigmfcleaaaDoor

set_option maxRecDepth 20000
set_option linter.unusedSimpArgs false
set_option linter.unusedVariables false
namespace Go.Proofs.YtkbleigmfcleaaaDoor
open Go.RowKit
theorem sz4_big (n : Nat) (h : n < 4294967296) : sz4 (n : Int) = bigE 4 n := by
 have hu : unsN (n : Int) = n := by unfold unsN; omega
 simp [sz4, byteS, hu, bigE, List.range_succ, Nat.shiftRight_eq_div_pow]
set_option maxHeartbeats 2000000 in
set_option maxRecDepth 100000 in
theorem tag_any (key : List UInt8) (K : Option Addr) (m mc : Nat) (n : Int) (x y z : Dig) (w : World) (hn1 : -9223372036854775808 ≤ n) (hn2 : n ≤ 9223372036854775807) (hT : Tb w) (hk : SlR w K m mc 1 (bytesL key)) (hm : m ≤ 140737488355000) :
  Calls Tryd.prog 39 #[.slice K m mc, .agg (hdArr n x y z)] w fun e w' => e = .returned (tagN key n x y).v ∧ St w w' [] := by
 have hst := St.refl w
 have HT := Lib.hid hT
 clear hT
 by_cases hp : putNo n 4
 ·have HP := Lib.hid (fun w => oput_no n 4 w hn1 hn2 (by decide) (by decide) hp)
  clear hp hn1 hn2
  go_enter Tryd.func39, Tryd.ntmps39
  go_upto_region 1 with (first
   | (refine L_boxA (d := some 3) rfl rfl rfl (ev_tmp rfl) ?_; (try clear hnew); intro g3 W3 hnew; replace hst := hst.trans hnew; simp only [List.cons_append, List.nil_append] at hst)
   | (refine L_allocA (d := some 4) rfl rfl rfl el_api_Digest ?_; (try clear hnew); intro g4 W4 hnew; replace hst := hst.trans hnew; simp only [List.cons_append, List.nil_append] at hst)
   | fail)
  go_upto_region 2 with (first
   | (go_at_call 65; refine (HP.out _).mono ?_; unfold errV; rintro e Wp ⟨rfl, hnew⟩; replace hst := hst.keep hnew; clear hnew)
   | (refine L_load1 (d := some 9) rfl rfl rfl (by rfl) Tryd.underlying3 rfl (by first | assumption | exact cell_of (hst.get 0 rfl) hdArr_0 | exact cell_of (hst.get 0 rfl) rfl | exact cell_of (hst.get 1 rfl) hdArr_0 | exact cell_of (hst.get 1 rfl) rfl | exact cell_of (hst.get 2 rfl) hdArr_0 | exact cell_of (hst.get 2 rfl) rfl | exact cell_of (hst.get 3 rfl) hdArr_0 | exact cell_of (hst.get 3 rfl) rfl) ?_)
   | fail)
  go_upto_region 3 with (first
   | fail)
  go_upto_region 4 with (first
   | (refine L_load1 (d := some 16) rfl rfl rfl (by rfl) Tryd.underlying3 rfl (by first | assumption | exact cell_of (hst.get 0 rfl) hdArr_0 | exact cell_of (hst.get 0 rfl) rfl | exact cell_of (hst.get 1 rfl) hdArr_0 | exact cell_of (hst.get 1 rfl) rfl | exact cell_of (hst.get 2 rfl) hdArr_0 | exact cell_of (hst.get 2 rfl) rfl | exact cell_of (hst.get 3 rfl) hdArr_0 | exact cell_of (hst.get 3 rfl) rfl) ?_)
   | (refine L_load1 (d := some 20) rfl rfl rfl (by rfl) Tryd.underlying3 rfl (by first | assumption | exact cell_of (hst.get 0 rfl) hdArr_0 | exact cell_of (hst.get 0 rfl) rfl | exact cell_of (hst.get 1 rfl) hdArr_0 | exact cell_of (hst.get 1 rfl) rfl | exact cell_of (hst.get 2 rfl) hdArr_0 | exact cell_of (hst.get 2 rfl) rfl | exact cell_of (hst.get 3 rfl) hdArr_0 | exact cell_of (hst.get 3 rfl) rfl) ?_)
   | (refine L_load1 (d := some 24) rfl rfl rfl (by rfl) Tryd.underlying3 rfl (by first | assumption | exact cell_of (hst.get 0 rfl) hdArr_0 | exact cell_of (hst.get 0 rfl) rfl | exact cell_of (hst.get 1 rfl) hdArr_0 | exact cell_of (hst.get 1 rfl) rfl | exact cell_of (hst.get 2 rfl) hdArr_0 | exact cell_of (hst.get 2 rfl) rfl | exact cell_of (hst.get 3 rfl) hdArr_0 | exact cell_of (hst.get 3 rfl) rfl) ?_)
   | (refine L_load1 (d := some 28) rfl rfl rfl (by rfl) Tryd.underlying3 rfl (by first | assumption | exact cell_of (hst.get 0 rfl) hdArr_0 | exact cell_of (hst.get 0 rfl) rfl | exact cell_of (hst.get 1 rfl) hdArr_0 | exact cell_of (hst.get 1 rfl) rfl | exact cell_of (hst.get 2 rfl) hdArr_0 | exact cell_of (hst.get 2 rfl) rfl | exact cell_of (hst.get 3 rfl) hdArr_0 | exact cell_of (hst.get 3 rfl) rfl) ?_)
   | (refine L_buildS (d := some 30) rfl rfl rfl [_, _, _, _] (bs_4 (ev_tmp rfl) (ev_tmp rfl) (ev_tmp rfl) (ev_tmp rfl)) rfl Tryd.underlying49 el_uint8 rfl (by first | (simp [Value.cells]; done) | (simp [Value.cells, Dig.size]; done)) (by decide) (by decide) ?_; (try clear hnew); intro g30 W30 hnew; replace hst := hst.trans hnew; simp only [List.cons_append, List.nil_append] at hst; simp only [List.flatMap_cons, List.flatMap_nil, List.append_nil, Value.cells, List.toList_toArray] at hst)
   | fail)
  simp only [List.cons_append, List.nil_append] at hst
  rw [sz4_cells] at hst
  clear hnew HP
  refine wp_region_idx [(0, 0), (1, 0), (2, 0), (3, 0), (4, 2), (5, 2), (6, 2), (7, 2), (8, 2), (9, 1)] (by kernel_rfl) (by kernel_rfl) ?_
  replace hst := hst.drew
  refine idx_q rfl rfl ?_; go_wp2_with fail
  refine idx_q rfl rfl ?_; go_wp2_with fail
  refine idx_qf rfl rfl (by kernel_rfl) ?_; go_wp2_with fail
  refine idx_q rfl rfl ?_; go_wp2_with (first | (refine L_sliceMid (d := some 34) rfl rfl rfl (by rfl) Tryd.underlying23 el_uint8 (hdArr_root (hst.get 2 rfl)) (Dig.size _) (by decide) ?_; intro hs34) | (refine L_sliceAll (d := some 34) rfl rfl rfl (by rfl) Tryd.underlying23 el_uint8 (by first | exact hst.get 0 rfl | exact hst.get 1 rfl | exact hst.get 2 rfl | exact hst.get 3 rfl | exact hst.get 4 rfl) (by first | rfl | exact Dig.size _ | (simp; done)) (by decide) ?_; intro hs34) | fail)
  refine idx_g rfl ?_; go_wp2_with fail; refine ⟨by first | exact Below.refl _ _ | exact hnew.below, ?_⟩
  refine idx_g rfl ?_; go_wp2_with (first | (refine L_sliceMid (d := some 36) rfl rfl rfl (by rfl) Tryd.underlying23 el_uint8 (hdArr_map (hst.get 2 rfl)) (Dig.size _) (by decide) ?_; intro hs36) | (refine L_sliceAll (d := some 36) rfl rfl rfl (by rfl) Tryd.underlying23 el_uint8 (by first | exact hst.get 0 rfl | exact hst.get 1 rfl | exact hst.get 2 rfl | exact hst.get 3 rfl | exact hst.get 4 rfl) (by first | rfl | exact Dig.size _ | (simp; done)) (by decide) ?_; intro hs36) | fail); refine ⟨by first | exact Below.refl _ _ | exact hnew.below, ?_⟩
  refine idx_g rfl ?_; go_wp2_with (first | (refine L_buildS (d := some 37) rfl rfl rfl [_, _, _] (bs_3 (ev_tmp rfl) (ev_tmp rfl) (ev_tmp rfl)) rfl Tryd.underlying37 el_S_uint8 rfl (by first | (simp [Value.cells]; done) | (simp [Value.cells, Dig.size]; done)) (by decide) (by decide) ?_; (try clear hnew); intro g37 W37 hnew; replace hst := hst.trans hnew; simp only [List.cons_append, List.nil_append] at hst; simp only [List.flatMap_cons, List.flatMap_nil, List.append_nil, Value.cells, List.toList_toArray] at hst) | fail); refine ⟨by first | exact Below.refl _ _ | exact hnew.below, ?_⟩
  refine idx_g rfl ?_; go_wp2_with (first | (refine L_sliceMid (d := some 34) rfl rfl rfl (by rfl) Tryd.underlying23 el_uint8 (hdArr_root (hst.get 2 rfl)) (Dig.size _) (by decide) ?_; intro hs34) | (refine L_sliceMid (d := some 36) rfl rfl rfl (by rfl) Tryd.underlying23 el_uint8 (hdArr_map (hst.get 2 rfl)) (Dig.size _) (by decide) ?_; intro hs36) | (go_at_call 50; have h34 := hnew.old (by decide) hs34; have h36 := hnew.old (by decide) hs36; clear hnew; refine (concat3_any (sz4 n) x.l y.l _ _ _ _ _ _ _ _ _ _ _ _ (hst.sl 0 rfl) (hst.sl 1 rfl) (by rw [← Dig.toList]; exact h34) (by rw [← Dig.toList]; exact h36) (by omega)).mono ?_; rintro e W29 ⟨O29, c29, rfl, hnew⟩; replace hst := hst.trans hnew; simp only [List.cons_append, List.nil_append] at hst) | (go_at_call 49; (try clear hnew); refine (mac_any key (sz4 n ++ (x.l ++ y.l)) _ _ _ _ _ _ _ (HT.out.of hst) (hst.old (by decide) hk) (hst.sl 0 rfl) hm (by decide)).mono ?_; rintro e Wk1 ⟨rfl, hnew⟩; replace hst := hst.keep hnew) | fail); refine ⟨by first | exact Below.refl _ _ | exact hnew.below, ?_⟩
  refine idx_g rfl ?_; go_wp2_with (first | (refine L_sliceMid (d := some 34) rfl rfl rfl (by rfl) Tryd.underlying23 el_uint8 (hdArr_root (hst.get 2 rfl)) (Dig.size _) (by decide) ?_; intro hs34) | (refine L_sliceMid (d := some 36) rfl rfl rfl (by rfl) Tryd.underlying23 el_uint8 (hdArr_map (hst.get 2 rfl)) (Dig.size _) (by decide) ?_; intro hs36) | (go_at_call 50; have h34 := hnew.old (by decide) hs34; have h36 := hnew.old (by decide) hs36; clear hnew; refine (concat3_any (sz4 n) x.l y.l _ _ _ _ _ _ _ _ _ _ _ _ (hst.sl 0 rfl) (hst.sl 1 rfl) (by rw [← Dig.toList]; exact h34) (by rw [← Dig.toList]; exact h36) (by omega)).mono ?_; rintro e W29 ⟨O29, c29, rfl, hnew⟩; replace hst := hst.trans hnew; simp only [List.cons_append, List.nil_append] at hst) | (go_at_call 49; (try clear hnew); refine (mac_any key (sz4 n ++ (x.l ++ y.l)) _ _ _ _ _ _ _ (HT.out.of hst) (hst.old (by decide) hk) (hst.sl 0 rfl) hm (by decide)).mono ?_; rintro e Wk1 ⟨rfl, hnew⟩; replace hst := hst.keep hnew) | fail); refine ⟨by first | exact Below.refl _ _ | exact hnew.below, ?_⟩
  refine idx_e rfl ?_; go_wp2_with (first | (refine wpl_at (.store 23 (.tmp 4) (.tmp 39)) rfl ?_; first | (refine L_storeA rfl rfl hst rfl (by rfl) (ev_tmp rfl) (by first | rfl | exact Dig.one _ | (simp; done)) el_api_Digest (by first | rfl | exact Dig.size _ | (simp; done)) 0 rfl (by first | rfl | exact Dig.size _ | (simp; done)) ?_; clear hst; intro WS9 hst; simp only [List.set_cons_zero, List.set_cons_succ] at hst) | (refine L_storeA rfl rfl hst rfl (by rfl) (ev_tmp rfl) (by first | rfl | exact Dig.one _ | (simp; done)) el_api_Digest (by first | rfl | exact Dig.size _ | (simp; done)) 1 rfl (by first | rfl | exact Dig.size _ | (simp; done)) ?_; clear hst; intro WS9 hst; simp only [List.set_cons_zero, List.set_cons_succ] at hst) | (refine L_storeA rfl rfl hst rfl (by rfl) (ev_tmp rfl) (by first | rfl | exact Dig.one _ | (simp; done)) el_api_Digest (by first | rfl | exact Dig.size _ | (simp; done)) 2 rfl (by first | rfl | exact Dig.size _ | (simp; done)) ?_; clear hst; intro WS9 hst; simp only [List.set_cons_zero, List.set_cons_succ] at hst) | (refine L_storeA rfl rfl hst rfl (by rfl) (ev_tmp rfl) (by first | rfl | exact Dig.one _ | (simp; done)) el_api_Digest (by first | rfl | exact Dig.size _ | (simp; done)) 3 rfl (by first | rfl | exact Dig.size _ | (simp; done)) ?_; clear hst; intro WS9 hst; simp only [List.set_cons_zero, List.set_cons_succ] at hst) | (refine L_storeA rfl rfl hst rfl (by rfl) (ev_tmp rfl) (by first | rfl | exact Dig.one _ | (simp; done)) el_api_Digest (by first | rfl | exact Dig.size _ | (simp; done)) 4 rfl (by first | rfl | exact Dig.size _ | (simp; done)) ?_; clear hst; intro WS9 hst; simp only [List.set_cons_zero, List.set_cons_succ] at hst) | (refine L_storeM rfl rfl hst rfl (by rfl) (ev_tmp rfl) (by first | rfl | exact Dig.one _ | (simp; done)) el_api_Digest (by first | rfl | exact Dig.size _ | (simp; done)) 0 rfl (by first | exact of_decide_eq_true rfl | (simp; done)) ?_; clear hst; intro WS9 hst; simp only [List.set_cons_zero, List.set_cons_succ] at hst)  | (refine L_storeM rfl rfl hst rfl (by rfl) (ev_tmp rfl) (by first | rfl | exact Dig.one _ | (simp; done)) el_api_Digest (by first | rfl | exact Dig.size _ | (simp; done)) 1 rfl (by first | exact of_decide_eq_true rfl | (simp; done)) ?_; clear hst; intro WS9 hst; simp only [List.set_cons_zero, List.set_cons_succ] at hst)  | (refine L_storeM rfl rfl hst rfl (by rfl) (ev_tmp rfl) (by first | rfl | exact Dig.one _ | (simp; done)) el_api_Digest (by first | rfl | exact Dig.size _ | (simp; done)) 2 rfl (by first | exact of_decide_eq_true rfl | (simp; done)) ?_; clear hst; intro WS9 hst; simp only [List.set_cons_zero, List.set_cons_succ] at hst)  | (refine L_storeM rfl rfl hst rfl (by rfl) (ev_tmp rfl) (by first | rfl | exact Dig.one _ | (simp; done)) el_api_Digest (by first | rfl | exact Dig.size _ | (simp; done)) 3 rfl (by first | exact of_decide_eq_true rfl | (simp; done)) ?_; clear hst; intro WS9 hst; simp only [List.set_cons_zero, List.set_cons_succ] at hst)  | (refine L_storeM rfl rfl hst rfl (by rfl) (ev_tmp rfl) (by first | rfl | exact Dig.one _ | (simp; done)) el_api_Digest (by first | rfl | exact Dig.size _ | (simp; done)) 4 rfl (by first | exact of_decide_eq_true rfl | (simp; done)) ?_; clear hst; intro WS9 hst; simp only [List.set_cons_zero, List.set_cons_succ] at hst)) | fail)
  refine idx_nil ?_
  go_wp2_with fail
  refine bp_cell rfl rfl rfl (hst.get 3 rfl) Tryd.underlying23 rfl el_api_Digest (by first | rfl | exact Dig.size _ | (simp; done)) ?_
  exact ⟨rfl, hst.forget⟩
 ·obtain ⟨h0, h1⟩ : 0 ≤ n ∧ n < 4294967296 := by
   have hp' : ¬ (n < 0) ∧ ¬ (0 < n / 4294967296) := ⟨fun h => hp (.inr (.inr (.inl h))), fun h => hp (.inr (.inr (.inr ⟨by decide, h⟩)))⟩
   omega
  have HP := Lib.hid (fun w : World => show Calls Tryd.prog 65 #[.int .i64 n, .int .i64 4] w fun e w' => ∃ A, e = .returned (.tuple #[.slice A 4 4, .nilIface]) ∧ St w w' [.row A 4 4 5 1 (bytesL (sz4 n))] from by
   obtain ⟨k, rfl⟩ := Int.eq_ofNat_of_zero_le h0
   have hk : k < 4294967296 := by omega
   rw [sz4_big k hk]
   exact oput_any k 4 w (by decide) (by decide) (by omega) (fun _ => by rw [Nat.shiftRight_eq_div_pow]; omega))
  clear hp hn1 hn2 h0 h1
  go_enter Tryd.func39, Tryd.ntmps39
  go_upto_region 1 with (first
   | (refine L_boxA (d := some 3) rfl rfl rfl (ev_tmp rfl) ?_; (try clear hnew); intro g3 W3 hnew; replace hst := hst.trans hnew; simp only [List.cons_append, List.nil_append] at hst)
   | (refine L_allocA (d := some 4) rfl rfl rfl el_api_Digest ?_; (try clear hnew); intro g4 W4 hnew; replace hst := hst.trans hnew; simp only [List.cons_append, List.nil_append] at hst)
   | fail)
  go_upto_region 2 with (first
   | (go_at_call 65; refine (HP.out _).mono ?_; rintro e Wp ⟨Op, rfl, hnew⟩; replace hst := hst.trans hnew; simp only [List.cons_append, List.nil_append] at hst; clear hnew)
   | (refine L_load1 (d := some 9) rfl rfl rfl (by rfl) Tryd.underlying3 rfl (by first | assumption | exact cell_of (hst.get 0 rfl) hdArr_0 | exact cell_of (hst.get 0 rfl) rfl | exact cell_of (hst.get 1 rfl) hdArr_0 | exact cell_of (hst.get 1 rfl) rfl | exact cell_of (hst.get 2 rfl) hdArr_0 | exact cell_of (hst.get 2 rfl) rfl | exact cell_of (hst.get 3 rfl) hdArr_0 | exact cell_of (hst.get 3 rfl) rfl) ?_)
   | fail)
  go_upto_region 4 with (first
   | fail)
  clear HP
  refine wp_region_idx [(0, 0), (1, 0), (2, 0), (3, 0), (4, 2), (5, 2), (6, 2), (7, 2), (8, 2), (9, 1)] (by kernel_rfl) (by kernel_rfl) ?_
  replace hst := hst.drew
  refine idx_q rfl rfl ?_; go_wp2_with fail
  refine idx_q rfl rfl ?_; go_wp2_with fail
  refine idx_qf rfl rfl (by kernel_rfl) ?_; go_wp2_with fail
  refine idx_q rfl rfl ?_; go_wp2_with (first | (refine L_sliceMid (d := some 34) rfl rfl rfl (by rfl) Tryd.underlying23 el_uint8 (hdArr_root (hst.get 2 rfl)) (Dig.size _) (by decide) ?_; intro hs34) | (refine L_sliceAll (d := some 34) rfl rfl rfl (by rfl) Tryd.underlying23 el_uint8 (by first | exact hst.get 0 rfl | exact hst.get 1 rfl | exact hst.get 2 rfl | exact hst.get 3 rfl | exact hst.get 4 rfl) (by first | rfl | exact Dig.size _ | (simp; done)) (by decide) ?_; intro hs34) | fail)
  refine idx_g rfl ?_; go_wp2_with fail; refine ⟨by first | exact Below.refl _ _ | exact hnew.below, ?_⟩
  refine idx_g rfl ?_; go_wp2_with (first | (refine L_sliceMid (d := some 36) rfl rfl rfl (by rfl) Tryd.underlying23 el_uint8 (hdArr_map (hst.get 2 rfl)) (Dig.size _) (by decide) ?_; intro hs36) | (refine L_sliceAll (d := some 36) rfl rfl rfl (by rfl) Tryd.underlying23 el_uint8 (by first | exact hst.get 0 rfl | exact hst.get 1 rfl | exact hst.get 2 rfl | exact hst.get 3 rfl | exact hst.get 4 rfl) (by first | rfl | exact Dig.size _ | (simp; done)) (by decide) ?_; intro hs36) | fail); refine ⟨by first | exact Below.refl _ _ | exact hnew.below, ?_⟩
  refine idx_g rfl ?_; go_wp2_with (first | (refine L_buildS (d := some 37) rfl rfl rfl [_, _, _] (bs_3 (ev_tmp rfl) (ev_tmp rfl) (ev_tmp rfl)) rfl Tryd.underlying37 el_S_uint8 rfl (by first | (simp [Value.cells]; done) | (simp [Value.cells, Dig.size]; done)) (by decide) (by decide) ?_; (try clear hnew); intro g37 W37 hnew; replace hst := hst.trans hnew; simp only [List.cons_append, List.nil_append] at hst; simp only [List.flatMap_cons, List.flatMap_nil, List.append_nil, Value.cells, List.toList_toArray] at hst) | fail); refine ⟨by first | exact Below.refl _ _ | exact hnew.below, ?_⟩
  refine idx_g rfl ?_; go_wp2_with (first | (refine L_sliceMid (d := some 34) rfl rfl rfl (by rfl) Tryd.underlying23 el_uint8 (hdArr_root (hst.get 2 rfl)) (Dig.size _) (by decide) ?_; intro hs34) | (refine L_sliceMid (d := some 36) rfl rfl rfl (by rfl) Tryd.underlying23 el_uint8 (hdArr_map (hst.get 2 rfl)) (Dig.size _) (by decide) ?_; intro hs36) | (go_at_call 50; have h34 := hnew.old (by decide) hs34; have h36 := hnew.old (by decide) hs36; clear hnew; refine (concat3_any (sz4 n) x.l y.l _ _ _ _ _ _ _ _ _ _ _ _ (hst.sl 0 rfl) (hst.sl 1 rfl) (by rw [← Dig.toList]; exact h34) (by rw [← Dig.toList]; exact h36) (by omega)).mono ?_; rintro e W29 ⟨O29, c29, rfl, hnew⟩; replace hst := hst.trans hnew; simp only [List.cons_append, List.nil_append] at hst) | (go_at_call 49; (try clear hnew); refine (mac_any key (sz4 n ++ (x.l ++ y.l)) _ _ _ _ _ _ _ (HT.out.of hst) (hst.old (by decide) hk) (hst.sl 0 rfl) hm (by decide)).mono ?_; rintro e Wk2 ⟨rfl, hnew⟩; replace hst := hst.keep hnew) | fail); refine ⟨by first | exact Below.refl _ _ | exact hnew.below, ?_⟩
  refine idx_g rfl ?_; go_wp2_with (first | (refine L_sliceMid (d := some 34) rfl rfl rfl (by rfl) Tryd.underlying23 el_uint8 (hdArr_root (hst.get 2 rfl)) (Dig.size _) (by decide) ?_; intro hs34) | (refine L_sliceMid (d := some 36) rfl rfl rfl (by rfl) Tryd.underlying23 el_uint8 (hdArr_map (hst.get 2 rfl)) (Dig.size _) (by decide) ?_; intro hs36) | (go_at_call 50; have h34 := hnew.old (by decide) hs34; have h36 := hnew.old (by decide) hs36; clear hnew; refine (concat3_any (sz4 n) x.l y.l _ _ _ _ _ _ _ _ _ _ _ _ (hst.sl 0 rfl) (hst.sl 1 rfl) (by rw [← Dig.toList]; exact h34) (by rw [← Dig.toList]; exact h36) (by omega)).mono ?_; rintro e W29 ⟨O29, c29, rfl, hnew⟩; replace hst := hst.trans hnew; simp only [List.cons_append, List.nil_append] at hst) | (go_at_call 49; (try clear hnew); refine (mac_any key (sz4 n ++ (x.l ++ y.l)) _ _ _ _ _ _ _ (HT.out.of hst) (hst.old (by decide) hk) (hst.sl 0 rfl) hm (by decide)).mono ?_; rintro e Wk2 ⟨rfl, hnew⟩; replace hst := hst.keep hnew) | fail); refine ⟨by first | exact Below.refl _ _ | exact hnew.below, ?_⟩
  refine idx_e rfl ?_; go_wp2_with (first | (refine wpl_at (.store 23 (.tmp 4) (.tmp 39)) rfl ?_; first | (refine L_storeA rfl rfl hst rfl (by rfl) (ev_tmp rfl) (by first | rfl | exact Dig.one _ | (simp; done)) el_api_Digest (by first | rfl | exact Dig.size _ | (simp; done)) 0 rfl (by first | rfl | exact Dig.size _ | (simp; done)) ?_; clear hst; intro WS9 hst; simp only [List.set_cons_zero, List.set_cons_succ] at hst) | (refine L_storeA rfl rfl hst rfl (by rfl) (ev_tmp rfl) (by first | rfl | exact Dig.one _ | (simp; done)) el_api_Digest (by first | rfl | exact Dig.size _ | (simp; done)) 1 rfl (by first | rfl | exact Dig.size _ | (simp; done)) ?_; clear hst; intro WS9 hst; simp only [List.set_cons_zero, List.set_cons_succ] at hst) | (refine L_storeA rfl rfl hst rfl (by rfl) (ev_tmp rfl) (by first | rfl | exact Dig.one _ | (simp; done)) el_api_Digest (by first | rfl | exact Dig.size _ | (simp; done)) 2 rfl (by first | rfl | exact Dig.size _ | (simp; done)) ?_; clear hst; intro WS9 hst; simp only [List.set_cons_zero, List.set_cons_succ] at hst) | (refine L_storeA rfl rfl hst rfl (by rfl) (ev_tmp rfl) (by first | rfl | exact Dig.one _ | (simp; done)) el_api_Digest (by first | rfl | exact Dig.size _ | (simp; done)) 3 rfl (by first | rfl | exact Dig.size _ | (simp; done)) ?_; clear hst; intro WS9 hst; simp only [List.set_cons_zero, List.set_cons_succ] at hst) | (refine L_storeA rfl rfl hst rfl (by rfl) (ev_tmp rfl) (by first | rfl | exact Dig.one _ | (simp; done)) el_api_Digest (by first | rfl | exact Dig.size _ | (simp; done)) 4 rfl (by first | rfl | exact Dig.size _ | (simp; done)) ?_; clear hst; intro WS9 hst; simp only [List.set_cons_zero, List.set_cons_succ] at hst) | (refine L_storeM rfl rfl hst rfl (by rfl) (ev_tmp rfl) (by first | rfl | exact Dig.one _ | (simp; done)) el_api_Digest (by first | rfl | exact Dig.size _ | (simp; done)) 0 rfl (by first | exact of_decide_eq_true rfl | (simp; done)) ?_; clear hst; intro WS9 hst; simp only [List.set_cons_zero, List.set_cons_succ] at hst)  | (refine L_storeM rfl rfl hst rfl (by rfl) (ev_tmp rfl) (by first | rfl | exact Dig.one _ | (simp; done)) el_api_Digest (by first | rfl | exact Dig.size _ | (simp; done)) 1 rfl (by first | exact of_decide_eq_true rfl | (simp; done)) ?_; clear hst; intro WS9 hst; simp only [List.set_cons_zero, List.set_cons_succ] at hst)  | (refine L_storeM rfl rfl hst rfl (by rfl) (ev_tmp rfl) (by first | rfl | exact Dig.one _ | (simp; done)) el_api_Digest (by first | rfl | exact Dig.size _ | (simp; done)) 2 rfl (by first | exact of_decide_eq_true rfl | (simp; done)) ?_; clear hst; intro WS9 hst; simp only [List.set_cons_zero, List.set_cons_succ] at hst)  | (refine L_storeM rfl rfl hst rfl (by rfl) (ev_tmp rfl) (by first | rfl | exact Dig.one _ | (simp; done)) el_api_Digest (by first | rfl | exact Dig.size _ | (simp; done)) 3 rfl (by first | exact of_decide_eq_true rfl | (simp; done)) ?_; clear hst; intro WS9 hst; simp only [List.set_cons_zero, List.set_cons_succ] at hst)  | (refine L_storeM rfl rfl hst rfl (by rfl) (ev_tmp rfl) (by first | rfl | exact Dig.one _ | (simp; done)) el_api_Digest (by first | rfl | exact Dig.size _ | (simp; done)) 4 rfl (by first | exact of_decide_eq_true rfl | (simp; done)) ?_; clear hst; intro WS9 hst; simp only [List.set_cons_zero, List.set_cons_succ] at hst)) | fail)
  refine idx_nil ?_
  go_wp2_with fail
  refine bp_cell rfl rfl rfl (hst.get 3 rfl) Tryd.underlying23 rfl el_api_Digest (by first | rfl | exact Dig.size _ | (simp; done)) ?_
  exact ⟨rfl, hst.forget⟩
end Go.Proofs.YtkbleigmfcleaaaDoor

set_option maxRecDepth 20000
set_option linter.unusedSimpArgs false
set_option linter.unusedVariables false
namespace Go.Proofs.YtkbleigmfcleaaaDoor
open Go.RowKit
section
variable {P : Program}
theorem run_eqDig (dd : Nat) {t e : TypeId} {z : Value} {bb : Nat} (ht : P.underlying t = some (.array 32 e)) (he : P.underlying e = some (.int .u8)) (hi : ElemIs P e z 1 bb) (a b : Dig) (w : World) :
  (Op.equalIn (dd + 2) t (.agg a.arr) (.agg b.arr)).run P w = .ok (decide (a = b)) w := by
 obtain ⟨i, hii, _, hs, _⟩ := hi.parts
 have hc : P.cellsOf e = 1 := by simp [Program.cellsOf, hii, hs]
 rw [run_equalIn_array w (dd + 1) a.arr b.arr ht hii, hc, List.range_eq_range']
 have := run_eqItems_bytes (P := P) dd he a.l b.l w 32 0 (by rw [a.h]) (by rw [a.h, b.h])
 simp only [List.drop_zero] at this
 rw [Dig.arr, Dig.arr, this]
 congr 1
 by_cases h : a = b
 ·subst h; simp
 ·have : a.l ≠ b.l := fun e => h (Dig.ext' e)
  simp [h, this]
theorem run_partD {t e : TypeId} {z : Value} {bb : Nat} (ht : P.underlying t = some (.array 32 e)) (hi : ElemIs P t z 32 bb) {cs : Array Value} {o : Nat} {d : Dig} (hc : (cs.toList.drop o).take 32 = d.arr.toList) (w : World) :
  (part t cs o).run P w = .ok (.agg d.arr) w := by
 obtain ⟨i, hii, _, hs, _⟩ := hi.parts
 have hagg : (isAgg t).run P w = .ok true w := by
  unfold isAgg
  rw [Sem.run_bind, run_underlying ht]
  rfl
 have hx : cs.extract o (o + 32) = d.arr := by
  apply Array.ext'
  rw [Array.toList_extract, List.extract_eq_take_drop, show o + 32 - o = 32 by omega]
  exact hc
 simp [part, hagg, sizeOf, typeInfo, hii, hs, hx]
end
section
variable {P : Program} {t ti td e8 : TypeId} {zd : Value} {bd : Nat} {z8 : Value} {b8 : Nat}
theorem hd_part (n : Int) (x y z : Dig) : ((hdArr n x y z).toList.drop 1).take 32 = x.arr.toList ∧ ((hdArr n x y z).toList.drop 33).take 32 = y.arr.toList ∧ ((hdArr n x y z).toList.drop 65).take 32 = z.arr.toList := by
 have l : ∀ d : Dig, d.arr.toList.length = 32 := fun d => by simp [Dig.size]
 rw [hdArr_list]
 refine ⟨?_, ?_, ?_⟩
 ·rw [List.drop_succ_cons, List.drop_zero, List.take_left' (l x)]
 ·rw [List.drop_succ_cons, List.drop_left' (l x), List.take_left' (l y)]
 ·rw [List.drop_succ_cons, ← List.append_assoc, List.drop_left' (by rw [List.length_append, l, l]), List.take_of_length_le (by rw [l]; exact Nat.le_refl _)]
theorem run_eqHead {f0 f1 f2 f3 : Field} (hS0 : P.underlying t = some (.struct #[f0, f1, f2, f3])) (hp : P.stoodInHeld t = false) (n0 : f0.name ≠ "_") (n1 : f1.name ≠ "_") (n2 : f2.name ≠ "_") (n3 : f3.name ≠ "_")
  (hi : P.underlying f0.type = some (.int .i64)) (h1 : f1.type = td) (h2 : f2.type = td) (h3 : f3.type = td) (o0 : f0.offset = 0) (o1 : f1.offset = 1) (o2 : f2.offset = 33) (o3 : f3.offset = 65)
  (ht : P.underlying td = some (.array 32 e8)) (hd : ElemIs P td zd 32 bd) (he : P.underlying e8 = some (.int .u8)) (h8 : ElemIs P e8 z8 1 b8) (n m : Int) (x y z x' y' z' : Dig) (w : World) :
  (Op.equalIn 10000 t (.agg (hdArr n x y z)) (.agg (hdArr m x' y' z'))).run P w = .ok (decide (n = m ∧ x = x' ∧ y = y' ∧ z = z')) w := by
 have hFo : P.fieldsOf t = #[f0, f1, f2, f3] := by unfold Program.fieldsOf; rw [hS0]
 rw [show (10000 : Nat) = 9999 + 1 from rfl, run_equalIn_agg w 9999 t _ _ (by rw [hFo]; exact hS0) hp, hFo]
 obtain ⟨p1, p2, p3⟩ := hd_part n x y z
 obtain ⟨q1, q2, q3⟩ := hd_part m x' y' z'
 have i0 := run_part1 (P := P) (d := .int .i64) hi rfl (hdArr_0 (n := n) (x := x) (y := y) (z := z)) w
 have j0 := run_part1 (P := P) (d := .int .i64) hi rfl (hdArr_0 (n := m) (x := x') (y := y') (z := z')) w
 have i1 := run_partD ht hd p1 w
 have i2 := run_partD ht hd p2 w
 have i3 := run_partD ht hd p3 w
 have j1 := run_partD ht hd q1 w
 have j2 := run_partD ht hd q2 w
 have j3 := run_partD ht hd q3 w
 have e0 : (Op.equalIn 9999 f0.type (.int .i64 n) (.int .i64 m)).run P w = .ok (n == m) w := run_equalIn_int w 9998 f0.type .i64 .i64 n m hi
 have e1 : (Op.equalIn 9999 td (.agg x.arr) (.agg x'.arr)).run P w = .ok (decide (x = x')) w := run_eqDig (P := P) 9997 ht he h8 x x' w
 have e2 : (Op.equalIn 9999 td (.agg y.arr) (.agg y'.arr)).run P w = .ok (decide (y = y')) w := run_eqDig (P := P) 9997 ht he h8 y y' w
 have e3 : (Op.equalIn 9999 td (.agg z.arr) (.agg z'.arr)).run P w = .ok (decide (z = z')) w := run_eqDig (P := P) 9997 ht he h8 z z' w
 simp only [Op.eqFields, n0, n1, n2, n3, ne_eq, not_false_eq_true, if_true, h1, h2, h3, o0, o1, o2, o3, Sem.run_bind, i0, i1, i2, i3, j0, j1, j2, j3, e0, Result.andThen_ok, e1, e2, e3]
 by_cases a0 : n = m
 ·rw [beq_iff_eq.2 a0]
  simp only [Bool.not_true, Bool.false_eq_true, if_false, Sem.run_bind, i1, j1, i2, j2, i3, j3, Result.andThen_ok, e1, e2, e3]
  by_cases a1 : x = x'
  ·rw [decide_eq_true a1]
   simp only [Bool.not_true, Bool.false_eq_true, if_false, Sem.run_bind, i2, j2, i3, j3, Result.andThen_ok, e2, e3]
   by_cases a2 : y = y'
   ·rw [decide_eq_true a2]
    simp only [Bool.not_true, Bool.false_eq_true, if_false, Sem.run_bind, i3, j3, Result.andThen_ok, e3]
    by_cases a3 : z = z' <;> simp [a0, a1, a2, a3]
   ·rw [decide_eq_false a2]
    simp [a2]
  ·rw [decide_eq_false a1]
   simp [a1]
 ·simp [a0]
theorem run_eqPair {f0 f1 : Field} (hS0 : P.underlying t = some (.struct #[f0, f1])) (hp : P.stoodInHeld t = false) (n0 : f0.name ≠ "_") (n1 : f1.name ≠ "_")
  (hi : P.underlying f0.type = some (.int .i64)) (h1 : f1.type = td) (o0 : f0.offset = 0) (o1 : f1.offset = 1)
  (ht : P.underlying td = some (.array 32 e8)) (hd : ElemIs P td zd 32 bd) (he : P.underlying e8 = some (.int .u8)) (h8 : ElemIs P e8 z8 1 b8) (n m : Int) (x x' : Dig) (w : World) :
  (Op.equalIn 10000 t (.agg (.int .i64 n :: x.arr.toList).toArray) (.agg (.int .i64 m :: x'.arr.toList).toArray)).run P w = .ok (decide (n = m ∧ x = x')) w := by
 have hFo : P.fieldsOf t = #[f0, f1] := by unfold Program.fieldsOf; rw [hS0]
 rw [show (10000 : Nat) = 9999 + 1 from rfl, run_equalIn_agg w 9999 t _ _ (by rw [hFo]; exact hS0) hp, hFo]
 have l : ∀ d : Dig, d.arr.toList.length = 32 := fun d => by simp [Dig.size]
 have p : ∀ (n : Int) (d : Dig), (((Value.int .i64 n :: d.arr.toList).toArray).toList.drop 1).take 32 = d.arr.toList := fun n d => by
  rw [List.toList_toArray, List.drop_succ_cons, List.drop_zero, List.take_of_length_le (by rw [l]; exact Nat.le_refl _)]
 have i0 := run_part1 (P := P) (d := .int .i64) hi rfl (cs := (Value.int .i64 n :: x.arr.toList).toArray) (k := 0) (v := .int .i64 n) rfl w
 have j0 := run_part1 (P := P) (d := .int .i64) hi rfl (cs := (Value.int .i64 m :: x'.arr.toList).toArray) (k := 0) (v := .int .i64 m) rfl w
 have i1 := run_partD ht hd (p n x) w
 have j1 := run_partD ht hd (p m x') w
 have e0 : (Op.equalIn 9999 f0.type (.int .i64 n) (.int .i64 m)).run P w = .ok (n == m) w := run_equalIn_int w 9998 f0.type .i64 .i64 n m hi
 have e1 : (Op.equalIn 9999 td (.agg x.arr) (.agg x'.arr)).run P w = .ok (decide (x = x')) w := run_eqDig (P := P) 9997 ht he h8 x x' w
 simp only [Op.eqFields, n0, n1, ne_eq, not_false_eq_true, if_true, h1, o0, o1, Sem.run_bind, i0, i1, j0, j1, e0, Result.andThen_ok, e1]
 by_cases a0 : n = m
 ·rw [beq_iff_eq.2 a0]
  simp only [Bool.not_true, Bool.false_eq_true, if_false, Sem.run_bind, i1, j1, Result.andThen_ok, e1]
  by_cases a1 : x = x' <;> simp [a0, a1]
 ·simp [a0]
end
section
variable {P : Program} {ops : Array Oper} {rest : List Oper} {o : Oper} {a : Act} {W : World} {Q : Exit → Act → World → Prop} {d : Option Tmp}
theorem L_eqA (hd : o.dst = d) (hw : Region.wanted o (yielded ops a.tmps) = true) {t t' : TypeId} {x y : Operand} (ho : o.op = .binOp .eql t x y t') {cs cs' : Array Value} (hg : P.eqGuardType P.depth t = false) (hx : a.eval x = .agg cs) (hy : a.eval y = .agg cs') {r : Bool}
  (hr : (Op.equalIn 10000 t (.agg cs) (.agg cs')).run P W = .ok r W) (h : wpList P ops Q rest (a.put d (.bool r)) W) : wpList P ops Q (o :: rest) a W := by
 refine L_val hd hw ?_ h
 unfold execOp
 simp only [ho, hx, hy]
 have h1 : (eqGuard .eql t x y (.agg cs) (.agg cs')).run P W = .ok () W := by simp [eqGuard, program, Sem.run, hg]
 have h2 := run_eql_struct (P := P) W t cs cs'
 rw [hr] at h2
 simp [h1, h2]
theorem L_neA (hd : o.dst = d) (hw : Region.wanted o (yielded ops a.tmps) = true) {t t' : TypeId} {x y : Operand} (ho : o.op = .binOp .neq t x y t') {cs cs' : Array Value} (hg : P.eqGuardType P.depth t = false) (hx : a.eval x = .agg cs) (hy : a.eval y = .agg cs') {r : Bool}
  (hr : (Op.equalIn 10000 t (.agg cs) (.agg cs')).run P W = .ok r W) (h : wpList P ops Q rest (a.put d (.bool (!r))) W) : wpList P ops Q (o :: rest) a W := by
 refine L_val hd hw ?_ h
 unfold execOp
 simp only [ho, hx, hy]
 have h1 : (eqGuard .neq t x y (.agg cs) (.agg cs')).run P W = .ok () W := by simp [eqGuard, program, Sem.run, hg]
 have h2 := run_neq_struct (P := P) W t cs cs'
 rw [hr] at h2
 simp [h1, h2]
end
theorem eqG_Head : Tryd.prog.eqGuardType Tryd.prog.depth 39 = false := by kernel_rfl
theorem eqHead (n m : Int) (x y z x' y' z' : Dig) (w : World) : (Op.equalIn 10000 39 (.agg (hdArr n x y z)) (.agg (hdArr m x' y' z'))).run Tryd.prog w = .ok (decide (n = m ∧ x = x' ∧ y = y' ∧ z = z')) w :=
 run_eqHead Tryd.underlying39 (by kernel_rfl) (by decide) (by decide) (by decide) (by decide) Tryd.underlying3 rfl rfl rfl rfl rfl rfl rfl Tryd.underlying23 el_api_Digest Tryd.underlying5 el_uint8 n m x y z x' y' z' w
end Go.Proofs.YtkbleigmfcleaaaDoor

set_option linter.unusedSimpArgs false
set_option linter.unusedVariables false
namespace Go.Proofs.YtkbleigmfcleaaaDoor
open Go.RowKit
set_option maxHeartbeats 2000000 in
set_option maxRecDepth 100000 in
theorem rtag_any (key : List UInt8) (K : Option Addr) (m mc : Nat) (n : Int) (x y z : Dig) (w : World) (hk : SlR w K m mc 1 (bytesL key)) (hm : m ≤ 140737488355000) :
  Calls Tryd.prog 42 #[.slice K m mc, .agg (hdArr n x y z)] w fun e w' => e = .returned (tagN key n x y).v ∧ St w w' [] := by
 have hst := St.refl w
 have HB := Lib.hid (show bytesL (sz4 n) ++ x.arr.toList ++ y.arr.toList = bytesL (sz4 n ++ (x.l ++ y.l)) by
  rw [Dig.toList, Dig.toList, ← bytesL_append, ← bytesL_append, List.append_assoc])
 have HF := Lib.hid (four_any n)
 have HM := Lib.hid (fun (A : Option Addr) (a c : Nat) (w' : World) (h1 : SlR w' K m mc 1 (bytesL key)) (h2 : SlR w' A a c 1 (bytesL (sz4 n ++ (x.l ++ y.l)))) (h3 : a ≤ 1000) => rmac_any key (sz4 n ++ (x.l ++ y.l)) K A m mc a c w' h1 h2 hm (by omega))
 have HR := Lib.hid (show (macN key (sz4 n ++ (x.l ++ y.l))).v = (tagN key n x y).v from rfl)
 generalize (tagN key n x y).v = tg at *
 generalize sz4 n ++ (x.l ++ y.l) = all at *
 generalize sz4 n = hd at *
 go_enter Tryd.func42, Tryd.ntmps42
 go_upto_region 1 with (first
  | (refine L_boxA (d := some 3) rfl rfl rfl (ev_tmp rfl) ?_; (try clear hnew); intro g3 W3 hnew; replace hst := hst.trans hnew; simp only [List.cons_append, List.nil_append] at hst)
  | (refine L_allocA (d := some 4) rfl rfl rfl el_api_Digest ?_; (try clear hnew); intro g4 W4 hnew; replace hst := hst.trans hnew; simp only [List.cons_append, List.nil_append] at hst)
  | fail)
 go_upto_region 2 with (first
  | (first | (refine L_loadA (d := some 9) rfl rfl rfl (by rfl) Tryd.underlying23 rfl el_api_Digest (by first | exact hst.get 0 rfl | exact hst.get 1 rfl | exact hst.get 2 rfl | exact hst.get 3 rfl) (by first | rfl | exact Dig.size _ | (simp; done)) ?_) | (refine L_loadM (d := some 9) rfl rfl rfl (by rfl) Tryd.underlying23 rfl el_api_Digest (by first | assumption | exact hdArr_root (hst.get 1 rfl) | exact hdArr_map (hst.get 2 rfl)) (by first | rfl | exact Dig.size _ | (simp; done)) ?_))
  | (refine L_allocA (d := some 5) rfl rfl rfl el_api_Digest ?_; (try clear hnew); intro g5 W5 hnew; replace hst := hst.trans hnew; simp only [List.cons_append, List.nil_append] at hst)
  | (refine wpl_at (.store 23 (.tmp 5) (.tmp 9)) rfl ?_; first | (refine L_storeA rfl rfl hst rfl (by rfl) (ev_tmp rfl) (by first | rfl | exact Dig.one _ | (simp; done)) el_api_Digest (by first | rfl | exact Dig.size _ | (simp; done)) 0 rfl (by first | rfl | exact Dig.size _ | (simp; done)) ?_; clear hst; intro WS3 hst; simp only [List.set_cons_zero, List.set_cons_succ] at hst) | (refine L_storeA rfl rfl hst rfl (by rfl) (ev_tmp rfl) (by first | rfl | exact Dig.one _ | (simp; done)) el_api_Digest (by first | rfl | exact Dig.size _ | (simp; done)) 1 rfl (by first | rfl | exact Dig.size _ | (simp; done)) ?_; clear hst; intro WS3 hst; simp only [List.set_cons_zero, List.set_cons_succ] at hst) | (refine L_storeA rfl rfl hst rfl (by rfl) (ev_tmp rfl) (by first | rfl | exact Dig.one _ | (simp; done)) el_api_Digest (by first | rfl | exact Dig.size _ | (simp; done)) 2 rfl (by first | rfl | exact Dig.size _ | (simp; done)) ?_; clear hst; intro WS3 hst; simp only [List.set_cons_zero, List.set_cons_succ] at hst) | (refine L_storeA rfl rfl hst rfl (by rfl) (ev_tmp rfl) (by first | rfl | exact Dig.one _ | (simp; done)) el_api_Digest (by first | rfl | exact Dig.size _ | (simp; done)) 3 rfl (by first | rfl | exact Dig.size _ | (simp; done)) ?_; clear hst; intro WS3 hst; simp only [List.set_cons_zero, List.set_cons_succ] at hst) | (refine L_storeM rfl rfl hst rfl (by rfl) (ev_tmp rfl) (by first | rfl | exact Dig.one _ | (simp; done)) el_api_Digest (by first | rfl | exact Dig.size _ | (simp; done)) 0 rfl (by first | exact of_decide_eq_true rfl | (simp; done)) ?_; clear hst; intro WS3 hst; simp only [List.set_cons_zero, List.set_cons_succ] at hst)  | (refine L_storeM rfl rfl hst rfl (by rfl) (ev_tmp rfl) (by first | rfl | exact Dig.one _ | (simp; done)) el_api_Digest (by first | rfl | exact Dig.size _ | (simp; done)) 1 rfl (by first | exact of_decide_eq_true rfl | (simp; done)) ?_; clear hst; intro WS3 hst; simp only [List.set_cons_zero, List.set_cons_succ] at hst)  | (refine L_storeM rfl rfl hst rfl (by rfl) (ev_tmp rfl) (by first | rfl | exact Dig.one _ | (simp; done)) el_api_Digest (by first | rfl | exact Dig.size _ | (simp; done)) 2 rfl (by first | exact of_decide_eq_true rfl | (simp; done)) ?_; clear hst; intro WS3 hst; simp only [List.set_cons_zero, List.set_cons_succ] at hst)  | (refine L_storeM rfl rfl hst rfl (by rfl) (ev_tmp rfl) (by first | rfl | exact Dig.one _ | (simp; done)) el_api_Digest (by first | rfl | exact Dig.size _ | (simp; done)) 3 rfl (by first | exact of_decide_eq_true rfl | (simp; done)) ?_; clear hst; intro WS3 hst; simp only [List.set_cons_zero, List.set_cons_succ] at hst))
  | fail)
 go_upto_region 3 with (first
  | (first | (refine L_loadA (d := some 11) rfl rfl rfl (by rfl) Tryd.underlying23 rfl el_api_Digest (by first | exact hst.get 0 rfl | exact hst.get 1 rfl | exact hst.get 2 rfl | exact hst.get 3 rfl) (by first | rfl | exact Dig.size _ | (simp; done)) ?_) | (refine L_loadM (d := some 11) rfl rfl rfl (by rfl) Tryd.underlying23 rfl el_api_Digest (by first | assumption | exact hdArr_root (hst.get 1 rfl) | exact hdArr_map (hst.get 2 rfl)) (by first | rfl | exact Dig.size _ | (simp; done)) ?_))
  | (refine L_allocA (d := some 6) rfl rfl rfl el_api_Digest ?_; (try clear hnew); intro g6 W6 hnew; replace hst := hst.trans hnew; simp only [List.cons_append, List.nil_append] at hst)
  | (refine wpl_at (.store 23 (.tmp 6) (.tmp 11)) rfl ?_; first | (refine L_storeA rfl rfl hst rfl (by rfl) (ev_tmp rfl) (by first | rfl | exact Dig.one _ | (simp; done)) el_api_Digest (by first | rfl | exact Dig.size _ | (simp; done)) 0 rfl (by first | rfl | exact Dig.size _ | (simp; done)) ?_; clear hst; intro WS3 hst; simp only [List.set_cons_zero, List.set_cons_succ] at hst) | (refine L_storeA rfl rfl hst rfl (by rfl) (ev_tmp rfl) (by first | rfl | exact Dig.one _ | (simp; done)) el_api_Digest (by first | rfl | exact Dig.size _ | (simp; done)) 1 rfl (by first | rfl | exact Dig.size _ | (simp; done)) ?_; clear hst; intro WS3 hst; simp only [List.set_cons_zero, List.set_cons_succ] at hst) | (refine L_storeA rfl rfl hst rfl (by rfl) (ev_tmp rfl) (by first | rfl | exact Dig.one _ | (simp; done)) el_api_Digest (by first | rfl | exact Dig.size _ | (simp; done)) 2 rfl (by first | rfl | exact Dig.size _ | (simp; done)) ?_; clear hst; intro WS3 hst; simp only [List.set_cons_zero, List.set_cons_succ] at hst) | (refine L_storeA rfl rfl hst rfl (by rfl) (ev_tmp rfl) (by first | rfl | exact Dig.one _ | (simp; done)) el_api_Digest (by first | rfl | exact Dig.size _ | (simp; done)) 3 rfl (by first | rfl | exact Dig.size _ | (simp; done)) ?_; clear hst; intro WS3 hst; simp only [List.set_cons_zero, List.set_cons_succ] at hst) | (refine L_storeM rfl rfl hst rfl (by rfl) (ev_tmp rfl) (by first | rfl | exact Dig.one _ | (simp; done)) el_api_Digest (by first | rfl | exact Dig.size _ | (simp; done)) 0 rfl (by first | exact of_decide_eq_true rfl | (simp; done)) ?_; clear hst; intro WS3 hst; simp only [List.set_cons_zero, List.set_cons_succ] at hst)  | (refine L_storeM rfl rfl hst rfl (by rfl) (ev_tmp rfl) (by first | rfl | exact Dig.one _ | (simp; done)) el_api_Digest (by first | rfl | exact Dig.size _ | (simp; done)) 1 rfl (by first | exact of_decide_eq_true rfl | (simp; done)) ?_; clear hst; intro WS3 hst; simp only [List.set_cons_zero, List.set_cons_succ] at hst)  | (refine L_storeM rfl rfl hst rfl (by rfl) (ev_tmp rfl) (by first | rfl | exact Dig.one _ | (simp; done)) el_api_Digest (by first | rfl | exact Dig.size _ | (simp; done)) 2 rfl (by first | exact of_decide_eq_true rfl | (simp; done)) ?_; clear hst; intro WS3 hst; simp only [List.set_cons_zero, List.set_cons_succ] at hst)  | (refine L_storeM rfl rfl hst rfl (by rfl) (ev_tmp rfl) (by first | rfl | exact Dig.one _ | (simp; done)) el_api_Digest (by first | rfl | exact Dig.size _ | (simp; done)) 3 rfl (by first | exact of_decide_eq_true rfl | (simp; done)) ?_; clear hst; intro WS3 hst; simp only [List.set_cons_zero, List.set_cons_succ] at hst))
  | fail)
 refine wp_region_idx [(3, 0), (0, 2), (1, 2), (2, 2), (4, 1), (5, 2)] (by kernel_rfl) (by kernel_rfl) ?_
 replace hst := hst.drew
 refine idx_q rfl rfl ?_; go_wp2_with (first | (refine L_sliceAll (d := some 15) rfl rfl rfl (by rfl) Tryd.underlying23 el_uint8 (by first | exact hst.get 0 rfl | exact hst.get 1 rfl | exact hst.get 2 rfl | exact hst.get 3 rfl | exact hst.get 4 rfl) (by first | rfl | exact Dig.size _ | (simp; done)) (by decide) ?_; intro hs15) | fail)
 refine idx_g rfl ?_; go_wp2_with fail; refine ⟨by first | exact Below.refl _ _ | exact hnew.below, ?_⟩
 refine idx_g rfl ?_; go_wp2_with (first | (refine L_load1 (d := some 13) rfl rfl rfl (by rfl) Tryd.underlying3 rfl (by first | assumption | exact cell_of (hst.get 0 rfl) hdArr_0 | exact cell_of (hst.get 0 rfl) rfl | exact cell_of (hst.get 1 rfl) hdArr_0 | exact cell_of (hst.get 1 rfl) rfl | exact cell_of (hst.get 2 rfl) hdArr_0 | exact cell_of (hst.get 2 rfl) rfl | exact cell_of (hst.get 3 rfl) hdArr_0 | exact cell_of (hst.get 3 rfl) rfl | exact cell_of (hst.get 4 rfl) hdArr_0 | exact cell_of (hst.get 4 rfl) rfl) ?_) | fail); refine ⟨by first | exact Below.refl _ _ | exact hnew.below, ?_⟩
 refine idx_g rfl ?_; go_wp2_with (first | (go_at_call 51; refine (HF.out _).mono ?_; rintro e W14 ⟨A14, rfl, hnew⟩; replace hst := hst.trans hnew; simp only [List.cons_append, List.nil_append] at hst) | fail); refine ⟨by first | exact Below.refl _ _ | exact hnew.below, ?_⟩
 refine idx_e rfl ?_; go_wp2_with (first | (go_at_call 51; refine (HF.out _).mono ?_; rintro e W14 ⟨A14, rfl, hnew⟩; replace hst := hst.trans hnew; simp only [List.cons_append, List.nil_append] at hst) | (refine L_appendO (d := some 16) rfl rfl hst rfl (by rfl) (by rfl) Tryd.underlying49 el_uint8 rfl (by decide) (by decide) 0 rfl (by first | rfl | omega) (by first | exact hnew.old (by decide) hs15 | exact hst.sl 0 rfl | exact hst.sl 1 rfl | exact hst.sl 2 rfl | exact hst.sl 3 rfl | exact hst.sl 4 rfl | assumption | exact hst.old (by decide) (by assumption)) (by first | exact oneCell_bytes | (simp [Value.oneCell']; done)) (by omega) ?_; clear hst; intro A16 c16 W16 hst; simp only [List.set_cons_zero, List.set_cons_succ, List.nil_append, Nat.zero_add] at hst) | (refine L_appendO (d := some 16) rfl rfl hst rfl (by rfl) (by rfl) Tryd.underlying49 el_uint8 rfl (by decide) (by decide) 1 rfl (by first | rfl | omega) (by first | exact hnew.old (by decide) hs15 | exact hst.sl 0 rfl | exact hst.sl 1 rfl | exact hst.sl 2 rfl | exact hst.sl 3 rfl | exact hst.sl 4 rfl | assumption | exact hst.old (by decide) (by assumption)) (by first | exact oneCell_bytes | (simp [Value.oneCell']; done)) (by omega) ?_; clear hst; intro A16 c16 W16 hst; simp only [List.set_cons_zero, List.set_cons_succ, List.nil_append, Nat.zero_add] at hst) | (refine L_appendO (d := some 16) rfl rfl hst rfl (by rfl) (by rfl) Tryd.underlying49 el_uint8 rfl (by decide) (by decide) 2 rfl (by first | rfl | omega) (by first | exact hnew.old (by decide) hs15 | exact hst.sl 0 rfl | exact hst.sl 1 rfl | exact hst.sl 2 rfl | exact hst.sl 3 rfl | exact hst.sl 4 rfl | assumption | exact hst.old (by decide) (by assumption)) (by first | exact oneCell_bytes | (simp [Value.oneCell']; done)) (by omega) ?_; clear hst; intro A16 c16 W16 hst; simp only [List.set_cons_zero, List.set_cons_succ, List.nil_append, Nat.zero_add] at hst) | (refine L_appendO (d := some 16) rfl rfl hst rfl (by rfl) (by rfl) Tryd.underlying49 el_uint8 rfl (by decide) (by decide) 3 rfl (by first | rfl | omega) (by first | exact hnew.old (by decide) hs15 | exact hst.sl 0 rfl | exact hst.sl 1 rfl | exact hst.sl 2 rfl | exact hst.sl 3 rfl | exact hst.sl 4 rfl | assumption | exact hst.old (by decide) (by assumption)) (by first | exact oneCell_bytes | (simp [Value.oneCell']; done)) (by omega) ?_; clear hst; intro A16 c16 W16 hst; simp only [List.set_cons_zero, List.set_cons_succ, List.nil_append, Nat.zero_add] at hst) | (refine L_appendO (d := some 16) rfl rfl hst rfl (by rfl) (by rfl) Tryd.underlying49 el_uint8 rfl (by decide) (by decide) 4 rfl (by first | rfl | omega) (by first | exact hnew.old (by decide) hs15 | exact hst.sl 0 rfl | exact hst.sl 1 rfl | exact hst.sl 2 rfl | exact hst.sl 3 rfl | exact hst.sl 4 rfl | assumption | exact hst.old (by decide) (by assumption)) (by first | exact oneCell_bytes | (simp [Value.oneCell']; done)) (by omega) ?_; clear hst; intro A16 c16 W16 hst; simp only [List.set_cons_zero, List.set_cons_succ, List.nil_append, Nat.zero_add] at hst) | (refine L_appendF (d := some 16) rfl rfl rfl (by rfl) (by rfl) Tryd.underlying49 el_uint8 rfl (by decide) (by assumption) (by first | assumption | exact hnew.old (by decide) hs15 | exact hst.sl 0 rfl | exact hst.sl 1 rfl | exact hst.sl 2 rfl | exact hst.sl 3 rfl | exact hst.sl 4 rfl | assumption | exact hst.old (by decide) (by assumption)) (by omega) (by omega) (by omega) ?_; (try clear hnew); intro A16 c16 W16 hnew; replace hst := hst.trans hnew; simp only [List.cons_append, List.nil_append] at hst) | fail)
 refine idx_g rfl ?_; go_wp2_with fail; refine ⟨by first | exact Below.refl _ _ | exact hnew.below, ?_⟩
 refine idx_nil ?_
 clear hnew hs15
 go_wp2_with (first
  | (go_at_call 52; refine (HM.out _ _ _ _ (hst.old (by decide) hk) (by rw [← HB.out]; exact hst.sl 0 rfl) (by decide)).mono ?_; rintro e W21 ⟨rfl, hnew⟩; replace hst := hst.keep hnew)
  | (refine L_sliceAll (d := some 19) rfl rfl rfl (by rfl) Tryd.underlying23 el_uint8 (by first | exact hst.get 0 rfl | exact hst.get 1 rfl | exact hst.get 2 rfl | exact hst.get 3 rfl | exact hst.get 4 rfl) (by first | rfl | exact Dig.size _ | (simp; done)) (by decide) ?_; intro hs19)
  | (refine L_appendO (d := some 20) rfl rfl hst rfl (by rfl) (by rfl) Tryd.underlying49 el_uint8 rfl (by decide) (by decide) 0 rfl (by first | rfl | omega) (by first | exact hst.sl 0 rfl | exact hst.sl 1 rfl | exact hst.sl 2 rfl | exact hst.sl 3 rfl | exact hst.sl 4 rfl | assumption | exact hst.old (by decide) (by assumption)) (by first | exact oneCell_bytes | (simp [Value.oneCell']; done) | exact Dig.oneR _) (by omega) ?_; clear hst; intro A20 c20 W20 hst; simp only [List.set_cons_zero, List.set_cons_succ, List.nil_append, Nat.zero_add] at hst)
  | (refine L_appendO (d := some 20) rfl rfl hst rfl (by rfl) (by rfl) Tryd.underlying49 el_uint8 rfl (by decide) (by decide) 1 rfl (by first | rfl | omega) (by first | exact hst.sl 0 rfl | exact hst.sl 1 rfl | exact hst.sl 2 rfl | exact hst.sl 3 rfl | exact hst.sl 4 rfl | assumption | exact hst.old (by decide) (by assumption)) (by first | exact oneCell_bytes | (simp [Value.oneCell']; done) | exact Dig.oneR _) (by omega) ?_; clear hst; intro A20 c20 W20 hst; simp only [List.set_cons_zero, List.set_cons_succ, List.nil_append, Nat.zero_add] at hst)
  | (refine L_appendO (d := some 20) rfl rfl hst rfl (by rfl) (by rfl) Tryd.underlying49 el_uint8 rfl (by decide) (by decide) 2 rfl (by first | rfl | omega) (by first | exact hst.sl 0 rfl | exact hst.sl 1 rfl | exact hst.sl 2 rfl | exact hst.sl 3 rfl | exact hst.sl 4 rfl | assumption | exact hst.old (by decide) (by assumption)) (by first | exact oneCell_bytes | (simp [Value.oneCell']; done) | exact Dig.oneR _) (by omega) ?_; clear hst; intro A20 c20 W20 hst; simp only [List.set_cons_zero, List.set_cons_succ, List.nil_append, Nat.zero_add] at hst)
  | (refine L_appendO (d := some 20) rfl rfl hst rfl (by rfl) (by rfl) Tryd.underlying49 el_uint8 rfl (by decide) (by decide) 3 rfl (by first | rfl | omega) (by first | exact hst.sl 0 rfl | exact hst.sl 1 rfl | exact hst.sl 2 rfl | exact hst.sl 3 rfl | exact hst.sl 4 rfl | assumption | exact hst.old (by decide) (by assumption)) (by first | exact oneCell_bytes | (simp [Value.oneCell']; done) | exact Dig.oneR _) (by omega) ?_; clear hst; intro A20 c20 W20 hst; simp only [List.set_cons_zero, List.set_cons_succ, List.nil_append, Nat.zero_add] at hst)
  | (refine L_appendO (d := some 20) rfl rfl hst rfl (by rfl) (by rfl) Tryd.underlying49 el_uint8 rfl (by decide) (by decide) 4 rfl (by first | rfl | omega) (by first | exact hst.sl 0 rfl | exact hst.sl 1 rfl | exact hst.sl 2 rfl | exact hst.sl 3 rfl | exact hst.sl 4 rfl | assumption | exact hst.old (by decide) (by assumption)) (by first | exact oneCell_bytes | (simp [Value.oneCell']; done) | exact Dig.oneR _) (by omega) ?_; clear hst; intro A20 c20 W20 hst; simp only [List.set_cons_zero, List.set_cons_succ, List.nil_append, Nat.zero_add] at hst)
  | (refine L_appendF (d := some 20) rfl rfl rfl (by rfl) (by rfl) Tryd.underlying49 el_uint8 rfl (by decide) (by assumption) (by first | assumption | exact hst.sl 0 rfl | exact hst.sl 1 rfl | exact hst.sl 2 rfl | exact hst.sl 3 rfl | exact hst.sl 4 rfl | assumption | exact hst.old (by decide) (by assumption)) (by omega) (by omega) (by omega) ?_; (try clear hnew); intro A20 c20 W20 hnew; replace hst := hst.trans hnew; simp only [List.cons_append, List.nil_append] at hst)
  | (refine wpl_at (.store 23 (.tmp 4) (.tmp 21)) rfl ?_; first | (refine L_storeA rfl rfl hst rfl (by rfl) (ev_tmp rfl) (by first | rfl | exact Dig.one _ | exact Dig.oneR _ | (simp; done)) el_api_Digest (by first | rfl | exact Dig.size _ | (simp; done)) 0 rfl (by first | rfl | exact Dig.size _ | (simp; done)) ?_; clear hst; intro WS5 hst; simp only [List.set_cons_zero, List.set_cons_succ] at hst) | (refine L_storeA rfl rfl hst rfl (by rfl) (ev_tmp rfl) (by first | rfl | exact Dig.one _ | exact Dig.oneR _ | (simp; done)) el_api_Digest (by first | rfl | exact Dig.size _ | (simp; done)) 1 rfl (by first | rfl | exact Dig.size _ | (simp; done)) ?_; clear hst; intro WS5 hst; simp only [List.set_cons_zero, List.set_cons_succ] at hst) | (refine L_storeA rfl rfl hst rfl (by rfl) (ev_tmp rfl) (by first | rfl | exact Dig.one _ | exact Dig.oneR _ | (simp; done)) el_api_Digest (by first | rfl | exact Dig.size _ | (simp; done)) 2 rfl (by first | rfl | exact Dig.size _ | (simp; done)) ?_; clear hst; intro WS5 hst; simp only [List.set_cons_zero, List.set_cons_succ] at hst) | (refine L_storeA rfl rfl hst rfl (by rfl) (ev_tmp rfl) (by first | rfl | exact Dig.one _ | exact Dig.oneR _ | (simp; done)) el_api_Digest (by first | rfl | exact Dig.size _ | (simp; done)) 3 rfl (by first | rfl | exact Dig.size _ | (simp; done)) ?_; clear hst; intro WS5 hst; simp only [List.set_cons_zero, List.set_cons_succ] at hst) | (refine L_storeA rfl rfl hst rfl (by rfl) (ev_tmp rfl) (by first | rfl | exact Dig.one _ | exact Dig.oneR _ | (simp; done)) el_api_Digest (by first | rfl | exact Dig.size _ | (simp; done)) 4 rfl (by first | rfl | exact Dig.size _ | (simp; done)) ?_; clear hst; intro WS5 hst; simp only [List.set_cons_zero, List.set_cons_succ] at hst) | (refine L_storeM rfl rfl hst rfl (by rfl) (ev_tmp rfl) (by first | rfl | exact Dig.one _ | exact Dig.oneR _ | (simp; done)) el_api_Digest (by first | rfl | exact Dig.size _ | (simp; done)) 0 rfl (by first | exact of_decide_eq_true rfl | (simp; done)) ?_; clear hst; intro WS5 hst; simp only [List.set_cons_zero, List.set_cons_succ] at hst)  | (refine L_storeM rfl rfl hst rfl (by rfl) (ev_tmp rfl) (by first | rfl | exact Dig.one _ | exact Dig.oneR _ | (simp; done)) el_api_Digest (by first | rfl | exact Dig.size _ | (simp; done)) 1 rfl (by first | exact of_decide_eq_true rfl | (simp; done)) ?_; clear hst; intro WS5 hst; simp only [List.set_cons_zero, List.set_cons_succ] at hst)  | (refine L_storeM rfl rfl hst rfl (by rfl) (ev_tmp rfl) (by first | rfl | exact Dig.one _ | exact Dig.oneR _ | (simp; done)) el_api_Digest (by first | rfl | exact Dig.size _ | (simp; done)) 2 rfl (by first | exact of_decide_eq_true rfl | (simp; done)) ?_; clear hst; intro WS5 hst; simp only [List.set_cons_zero, List.set_cons_succ] at hst)  | (refine L_storeM rfl rfl hst rfl (by rfl) (ev_tmp rfl) (by first | rfl | exact Dig.one _ | exact Dig.oneR _ | (simp; done)) el_api_Digest (by first | rfl | exact Dig.size _ | (simp; done)) 3 rfl (by first | exact of_decide_eq_true rfl | (simp; done)) ?_; clear hst; intro WS5 hst; simp only [List.set_cons_zero, List.set_cons_succ] at hst)  | (refine L_storeM rfl rfl hst rfl (by rfl) (ev_tmp rfl) (by first | rfl | exact Dig.one _ | exact Dig.oneR _ | (simp; done)) el_api_Digest (by first | rfl | exact Dig.size _ | (simp; done)) 4 rfl (by first | exact of_decide_eq_true rfl | (simp; done)) ?_; clear hst; intro WS5 hst; simp only [List.set_cons_zero, List.set_cons_succ] at hst))
  | fail)
 refine bp_cell rfl rfl rfl (hst.get 3 rfl) Tryd.underlying23 rfl el_api_Digest (by first | rfl | exact Dig.size _ | (simp; done)) ?_
 refine ⟨?_, hst.forget⟩
 rw [← HR.out]
set_option maxHeartbeats 1000000 in
theorem told_tag_any (key : List UInt8) (K : Option Addr) (m mc : Nat) (n : Int) (x y z : Dig) (w : World) (hn1 : -9223372036854775808 ≤ n) (hn2 : n ≤ 9223372036854775807) (hT : Tb w) (hk : SlR w K m mc 1 (bytesL key)) (hm : m ≤ 140737488355000) :
  Calls Tryd.prog 66 #[.slice K m mc, .agg (hdArr n x y z)] w fun e w' => e = .returned (.bool (decide (z = tagN key n x y))) ∧ St w w' [] := by
 have hst := St.refl w
 have HC := Lib.hid (fun (w' : World) (ht : Tb w') (h1 : SlR w' K m mc 1 (bytesL key)) => tag_any key K m mc n x y z w' hn1 hn2 ht h1 hm)
 generalize tagN key n x y = tg at *
 have HT := Lib.hid hT
 clear hT hn1 hn2 hm
 go_enter Tryd.func66, Tryd.ntmps66
 go_upto_region 1 with (first
  | (refine L_boxA (d := some 3) rfl rfl rfl (ev_tmp rfl) ?_; (try clear hnew); intro g3 W3 hnew; replace hst := hst.trans hnew; simp only [List.cons_append, List.nil_append] at hst)
  | fail)
 refine wp_region_pm (.one 2 3 (.one 0 0 (.one 1 0 (.one 3 2 (.one 4 2 (.one 5 2 (.one 6 2 .nil))))))) (by kernel_rfl) (by kernel_rfl) ?_
 replace hst := hst.drew
 refine pm_p rfl rfl ?_; go_wp2_with fail
 refine pm_qf rfl rfl (by kernel_rfl) ?_; go_wp2_with fail
 refine pm_q rfl rfl ?_; go_wp2_with (first | (first | (refine L_loadA (d := some 6) rfl rfl rfl (by rfl) Tryd.underlying23 rfl el_api_Digest (by first | exact hst.get 0 rfl) (by first | exact Dig.size _ | exact hdArr_size _ _ _ _ | rfl | (simp; done)) ?_) | (refine L_loadM (d := some 6) rfl rfl rfl (by rfl) Tryd.underlying23 rfl el_api_Digest (by first | assumption | exact hdArr_tag (hst.get 0 rfl)) (by first | exact Dig.size _ | exact hdArr_size _ _ _ _ | rfl | (simp; done)) ?_)) | fail)
 refine pm_g rfl ?_; go_wp2_with (first | (first | (refine L_loadA (d := some 8) rfl rfl rfl (by rfl) Tryd.underlying39 rfl el_api_Head (by first | exact hst.get 0 rfl) (by first | exact Dig.size _ | exact hdArr_size _ _ _ _ | rfl | (simp; done)) ?_) | (refine L_loadM (d := some 8) rfl rfl rfl (by rfl) Tryd.underlying39 rfl el_api_Head (by first | assumption | exact hdArr_tag (hst.get 0 rfl)) (by first | exact Dig.size _ | exact hdArr_size _ _ _ _ | rfl | (simp; done)) ?_)) | fail); refine ⟨by first | exact Below.refl _ _ | exact hnew.below, ?_⟩
 refine pm_g rfl ?_; go_wp2_with (first | (go_at_call 39; refine (HC.out _ (HT.out.of hst) (hst.old (by decide) hk)).mono ?_; rintro e Wt ⟨rfl, hnew⟩; replace hst := hst.keep hnew) | fail); refine ⟨by first | exact Below.refl _ _ | exact hnew.below, ?_⟩
 refine pm_g rfl ?_; go_wp2_with (first | (go_at_call 39; refine (HC.out _ (HT.out.of hst) (hst.old (by decide) hk)).mono ?_; rintro e Wt ⟨rfl, hnew⟩; replace hst := hst.keep hnew) | (refine L_eqD (d := some 10) rfl rfl rfl Tryd.underlying23 Tryd.underlying5 el_uint8 eqG_D (ev_tmp rfl) (ev_tmp rfl) ?_) | fail); refine ⟨by first | exact Below.refl _ _ | exact hnew.below, ?_⟩
 refine pm_g rfl ?_; go_wp2_with fail; refine ⟨by first | exact Below.refl _ _ | exact hnew.below, ?_⟩
 refine pm_nil ?_
 go_wp2_with fail
 go_ret
 exact ⟨rfl, hst.forget⟩
end Go.Proofs.YtkbleigmfcleaaaDoor

set_option maxRecDepth 20000
set_option linter.unusedSimpArgs false
set_option linter.unusedVariables false
namespace Go.Proofs.YtkbleigmfcleaaaDoor
open Go.RowKit
def nodeN (l r : Dig) : Dig := ofN 1 [l, r]
def halfN (n : Nat) : Nat := 2 ^ Nat.log2 (n - 1)
theorem halfN_pos (n : Nat) : 0 < halfN n := Nat.two_pow_pos _
theorem halfN_lt (n : Nat) (h : 2 ≤ n) : halfN n < n := by
 have := Nat.log2_self_le (n := n - 1) (by omega)
 unfold halfN
 omega
theorem halfN_of {k n : Nat} (j : Nat) (hj : k = 2 ^ j) (h1 : k < n) (h2 : n ≤ 2 * k) : halfN n = k := by
 subst hj
 unfold halfN
 have : Nat.log2 (n - 1) = j := by
  have h3 : n - 1 ≠ 0 := by have := Nat.two_pow_pos j; omega
  rw [Nat.log2_eq_iff h3, Nat.pow_succ]
  omega
 rw [this]
def rootN (ls : List Dig) : Dig :=
 if _h : ls.length < 2 then
  match ls with
  | [] => sha []
  | d :: _ => d
 else nodeN (rootN (ls.take (halfN ls.length))) (rootN (ls.drop (halfN ls.length)))
termination_by ls.length
decreasing_by
 ·have := halfN_lt ls.length (by omega)
  rw [List.length_take]
  omega
 ·have := halfN_pos ls.length
  rw [List.length_drop]
  omega
theorem rootN_nil : rootN [] = sha [] := by rw [rootN]; rfl
theorem rootN_one (d : Dig) : rootN [d] = d := by rw [rootN]; rfl
theorem rootN_more (ls : List Dig) (h : 2 ≤ ls.length) : rootN ls = nodeN (rootN (ls.take (halfN ls.length))) (rootN (ls.drop (halfN ls.length))) := by
 rw [rootN, dif_neg (by omega)]
theorem digsL_cut (ls : List Dig) (lo n : Nat) : ((digsL ls).drop (lo * 32)).take (n * 32) = digsL ((ls.drop lo).take n) := by
 have hd : ∀ (l : List Dig) (k : Nat), (digsL l).drop (k * 32) = digsL (l.drop k) := fun l k => by
  induction k generalizing l with
  | zero => simp
  | succ k ih =>
   cases l with
   | nil => simp [digsL]
   | cons d l =>
    have h : digsL (d :: l) = bytesL d.l ++ digsL l := by simp [digsL]
    have e : (k + 1) * 32 = (bytesL d.l).length + k * 32 := by rw [length_bytesL, d.h]; omega
    rw [h, e, ← List.drop_drop, List.drop_left, ih]
    rfl
 have ht : ∀ (l : List Dig) (k : Nat), (digsL l).take (k * 32) = digsL (l.take k) := fun l k => by
  induction k generalizing l with
  | zero => simp [digsL]
  | succ k ih =>
   cases l with
   | nil => simp [digsL]
   | cons d l =>
    have h : ∀ l, digsL (d :: l) = bytesL d.l ++ digsL l := fun l => by simp [digsL]
    have e : (k + 1) * 32 = (bytesL d.l).length + k * 32 := by rw [length_bytesL, d.h]; omega
    rw [h, e, List.take_length_add_append, ih, List.take_succ_cons, h]
 rw [hd, ht]
set_option maxHeartbeats 1000000 in
theorem node_any (l r : Dig) (w : World) (hT : Tb w) : Calls Tryd.prog 100 #[l.v, r.v] w fun e w' => e = .returned (nodeN l r).v ∧ St w w' [] := by
 have hst := St.refl w
 have HT := Lib.hid hT
 have hd : digsL [l, r] = l.arr.toList ++ r.arr.toList := by simp [digsL, Dig.toList]
 have HD := Lib.hid hd
 clear hT hd
 go_enter Tryd.func100, Tryd.ntmps100
 go_wp2_with (first
  | (go_at_call 47; (try clear hnew); refine (of_any 1 [l, r] _ _ _ _ (HT.out.of hst) (by rw [HD.out]; exact hst.sl 0 rfl) (by decide)).mono ?_; rintro e W8 ⟨rfl, hnew⟩; replace hst := hst.keep hnew)
  | (refine L_boxA (d := some 2) rfl rfl rfl (ev_tmp rfl) ?_; (try clear hnew); intro g2 W2 hnew; replace hst := hst.trans hnew; simp only [List.cons_append, List.nil_append] at hst)
  | (refine L_boxA (d := some 3) rfl rfl rfl (ev_tmp rfl) ?_; (try clear hnew); intro g3 W3 hnew; replace hst := hst.trans hnew; simp only [List.cons_append, List.nil_append] at hst)
  | (refine L_allocA (d := some 4) rfl rfl rfl el_api_Digest ?_; (try clear hnew); intro g4 W4 hnew; replace hst := hst.trans hnew; simp only [List.cons_append, List.nil_append] at hst)
  | (first | (refine L_loadA (d := some 5) rfl rfl rfl (by rfl) Tryd.underlying23 rfl el_api_Digest (by first | exact hst.get 0 rfl | exact hst.get 1 rfl | exact hst.get 2 rfl | exact hst.get 3 rfl | exact hst.get 4 rfl | exact hst.get 5 rfl) (by first | rfl | exact Dig.size _ | (simp; done)) ?_) | (refine L_loadM (d := some 5) rfl rfl rfl (by rfl) Tryd.underlying23 rfl el_api_Digest (by first | assumption) (by first | rfl | exact Dig.size _ | (simp; done)) ?_))
  | (first | (refine L_loadA (d := some 6) rfl rfl rfl (by rfl) Tryd.underlying23 rfl el_api_Digest (by first | exact hst.get 0 rfl | exact hst.get 1 rfl | exact hst.get 2 rfl | exact hst.get 3 rfl | exact hst.get 4 rfl | exact hst.get 5 rfl) (by first | rfl | exact Dig.size _ | (simp; done)) ?_) | (refine L_loadM (d := some 6) rfl rfl rfl (by rfl) Tryd.underlying23 rfl el_api_Digest (by first | assumption) (by first | rfl | exact Dig.size _ | (simp; done)) ?_))
  | (refine L_buildS (d := some 7) rfl rfl rfl [_, _] (bs_2 (ev_tmp rfl) (ev_tmp rfl)) rfl Tryd.underlying74 el_api_Digest rfl (by first | (simp [Value.cells]; done) | (simp [Value.cells, Dig.size]; done)) (by decide) (by decide) ?_; (try clear hnew); intro g7 W7 hnew; replace hst := hst.trans hnew; simp only [List.cons_append, List.nil_append] at hst; simp only [List.flatMap_cons, List.flatMap_nil, List.append_nil, Value.cells, List.toList_toArray] at hst)
  | (refine wpl_at (.store 23 (.tmp 4) (.tmp 8)) rfl ?_; first | (refine L_storeA rfl rfl hst rfl (by rfl) (ev_tmp rfl) (by first | rfl | exact Dig.one _ | (simp; done)) el_api_Digest (by first | rfl | exact Dig.size _ | (simp; done)) 0 rfl (by first | rfl | exact Dig.size _ | (simp; done)) ?_; clear hst; intro WS4 hst; simp only [List.set_cons_zero, List.set_cons_succ] at hst) | (refine L_storeA rfl rfl hst rfl (by rfl) (ev_tmp rfl) (by first | rfl | exact Dig.one _ | (simp; done)) el_api_Digest (by first | rfl | exact Dig.size _ | (simp; done)) 1 rfl (by first | rfl | exact Dig.size _ | (simp; done)) ?_; clear hst; intro WS4 hst; simp only [List.set_cons_zero, List.set_cons_succ] at hst) | (refine L_storeA rfl rfl hst rfl (by rfl) (ev_tmp rfl) (by first | rfl | exact Dig.one _ | (simp; done)) el_api_Digest (by first | rfl | exact Dig.size _ | (simp; done)) 2 rfl (by first | rfl | exact Dig.size _ | (simp; done)) ?_; clear hst; intro WS4 hst; simp only [List.set_cons_zero, List.set_cons_succ] at hst) | (refine L_storeA rfl rfl hst rfl (by rfl) (ev_tmp rfl) (by first | rfl | exact Dig.one _ | (simp; done)) el_api_Digest (by first | rfl | exact Dig.size _ | (simp; done)) 3 rfl (by first | rfl | exact Dig.size _ | (simp; done)) ?_; clear hst; intro WS4 hst; simp only [List.set_cons_zero, List.set_cons_succ] at hst) | (refine L_storeA rfl rfl hst rfl (by rfl) (ev_tmp rfl) (by first | rfl | exact Dig.one _ | (simp; done)) el_api_Digest (by first | rfl | exact Dig.size _ | (simp; done)) 4 rfl (by first | rfl | exact Dig.size _ | (simp; done)) ?_; clear hst; intro WS4 hst; simp only [List.set_cons_zero, List.set_cons_succ] at hst) | (refine L_storeA rfl rfl hst rfl (by rfl) (ev_tmp rfl) (by first | rfl | exact Dig.one _ | (simp; done)) el_api_Digest (by first | rfl | exact Dig.size _ | (simp; done)) 5 rfl (by first | rfl | exact Dig.size _ | (simp; done)) ?_; clear hst; intro WS4 hst; simp only [List.set_cons_zero, List.set_cons_succ] at hst) | (refine L_storeM rfl rfl hst rfl (by rfl) (ev_tmp rfl) (by first | rfl | exact Dig.one _ | (simp; done)) el_api_Digest (by first | rfl | exact Dig.size _ | (simp; done)) 0 rfl (by first | exact of_decide_eq_true rfl | (simp; done)) ?_; clear hst; intro WS4 hst; simp only [List.set_cons_zero, List.set_cons_succ] at hst)  | (refine L_storeM rfl rfl hst rfl (by rfl) (ev_tmp rfl) (by first | rfl | exact Dig.one _ | (simp; done)) el_api_Digest (by first | rfl | exact Dig.size _ | (simp; done)) 1 rfl (by first | exact of_decide_eq_true rfl | (simp; done)) ?_; clear hst; intro WS4 hst; simp only [List.set_cons_zero, List.set_cons_succ] at hst)  | (refine L_storeM rfl rfl hst rfl (by rfl) (ev_tmp rfl) (by first | rfl | exact Dig.one _ | (simp; done)) el_api_Digest (by first | rfl | exact Dig.size _ | (simp; done)) 2 rfl (by first | exact of_decide_eq_true rfl | (simp; done)) ?_; clear hst; intro WS4 hst; simp only [List.set_cons_zero, List.set_cons_succ] at hst)  | (refine L_storeM rfl rfl hst rfl (by rfl) (ev_tmp rfl) (by first | rfl | exact Dig.one _ | (simp; done)) el_api_Digest (by first | rfl | exact Dig.size _ | (simp; done)) 3 rfl (by first | exact of_decide_eq_true rfl | (simp; done)) ?_; clear hst; intro WS4 hst; simp only [List.set_cons_zero, List.set_cons_succ] at hst)  | (refine L_storeM rfl rfl hst rfl (by rfl) (ev_tmp rfl) (by first | rfl | exact Dig.one _ | (simp; done)) el_api_Digest (by first | rfl | exact Dig.size _ | (simp; done)) 4 rfl (by first | exact of_decide_eq_true rfl | (simp; done)) ?_; clear hst; intro WS4 hst; simp only [List.set_cons_zero, List.set_cons_succ] at hst)  | (refine L_storeM rfl rfl hst rfl (by rfl) (ev_tmp rfl) (by first | rfl | exact Dig.one _ | (simp; done)) el_api_Digest (by first | rfl | exact Dig.size _ | (simp; done)) 5 rfl (by first | exact of_decide_eq_true rfl | (simp; done)) ?_; clear hst; intro WS4 hst; simp only [List.set_cons_zero, List.set_cons_succ] at hst))
  | fail)
 refine bp_cell rfl rfl rfl (hst.get 1 rfl) Tryd.underlying23 rfl el_api_Digest (by first | rfl | exact Dig.size _ | (simp; done)) ?_
 exact ⟨rfl, hst.forget⟩
theorem bitLen_log : ∀ n : Fin 256, n.val ≠ 0 → Lib.bitLen n.val = Nat.log2 n.val + 1 := by decide +kernel
theorem half_shl : ∀ n : Fin 257, 2 ≤ n.val → 1 ≤ Lib.bitLen (n.val - 1) ∧ Lib.bitLen (n.val - 1) ≤ 8 ∧ wrap64 ((2 : Int) ^ (Lib.bitLen (n.val - 1) - 1)) = (halfN n.val : Int) := by decide +kernel
set_option maxHeartbeats 1000000 in
theorem half_any (n : Nat) (h2 : 2 ≤ n) (hn : n ≤ 256) (w : World) : Calls Tryd.prog 99 #[.int .i64 (n : Int)] w fun e w' => e = .returned (.int .i64 (halfN n : Int)) ∧ St w w' [] := by
 have hst := St.refl w
 obtain ⟨hb1, hb8, hh⟩ := half_shl ⟨n, by omega⟩ h2
 have Hh := Lib.hid hh
 have hx : ((n : Int) - 1).toNat = n - 1 := by omega
 simp only at hb1 hb8 hx
 clear hh
 go_enter Tryd.func99, Tryd.ntmps99
 go_wp2_with (first
  | (go_at_call 102; refine (Tryd.bits_Len _ _ (by omega) (by omega)).mono ?_; rintro e W6 ⟨rfl, rfl⟩; rw [hx])
  | fail)
 rw [Hh.out]
 go_ret
 exact ⟨rfl, hst⟩
end Go.Proofs.YtkbleigmfcleaaaDoor

set_option linter.unusedSimpArgs false
set_option linter.unusedVariables false
namespace Go.Proofs.YtkbleigmfcleaaaDoor
def longN (i n : Nat) : Nat :=
 if _h : n < 2 then 0
 else if i < halfN n then longN i (halfN n) + 1
 else longN (i - halfN n) (n - halfN n) + 1
termination_by n
decreasing_by
 ·exact halfN_lt n (by omega)
 ·have := halfN_pos n
  omega
theorem longN_one (i : Nat) {n : Nat} (h : n < 2) : longN i n = 0 := by rw [longN, dif_pos h]
theorem longN_left {i n : Nat} (h : 2 ≤ n) (hi : i < halfN n) : longN i n = longN i (halfN n) + 1 := by rw [longN, dif_neg (by omega), if_pos hi]
theorem longN_right {i n : Nat} (h : 2 ≤ n) (hi : ¬ i < halfN n) : longN i n = longN (i - halfN n) (n - halfN n) + 1 := by rw [longN, dif_neg (by omega), if_neg hi]
def sidesN (i n : Nat) : List Bool :=
 if _h : n < 2 then []
 else if i < halfN n then true :: sidesN i (halfN n)
 else false :: sidesN (i - halfN n) (n - halfN n)
termination_by n
decreasing_by
 ·exact halfN_lt n (by omega)
 ·have := halfN_pos n
  omega
theorem sidesN_one (i : Nat) {n : Nat} (h : n < 2) : sidesN i n = [] := by rw [sidesN, dif_pos h]
theorem sidesN_left {i n : Nat} (h : 2 ≤ n) (hi : i < halfN n) : sidesN i n = true :: sidesN i (halfN n) := by rw [sidesN, dif_neg (by omega), if_pos hi]
theorem sidesN_right {i n : Nat} (h : 2 ≤ n) (hi : ¬ i < halfN n) : sidesN i n = false :: sidesN (i - halfN n) (n - halfN n) := by rw [sidesN, dif_neg (by omega), if_neg hi]
theorem length_sidesN : ∀ (n i : Nat), (sidesN i n).length = longN i n := by
 intro n
 induction n using Nat.strongRecOn with
 | ind n ih =>
 intro i
 by_cases h : n < 2
 ·rw [sidesN_one i h, longN_one i h]
  rfl
 ·have h1 := halfN_lt n (by omega)
  have h2 := halfN_pos n
  by_cases hi : i < halfN n
  ·rw [sidesN_left (by omega) hi, longN_left (by omega) hi, List.length_cons, ih _ h1]
  ·rw [sidesN_right (by omega) hi, longN_right (by omega) hi, List.length_cons, ih _ (by omega)]
def pathN (ls : List Dig) (i : Nat) : List Dig :=
 if _h : ls.length < 2 then []
 else if i < halfN ls.length then pathN (ls.take (halfN ls.length)) i ++ [rootN (ls.drop (halfN ls.length))]
 else pathN (ls.drop (halfN ls.length)) (i - halfN ls.length) ++ [rootN (ls.take (halfN ls.length))]
termination_by ls.length
decreasing_by
 ·have := halfN_lt ls.length (by omega)
  rw [List.length_take]
  omega
 ·have := halfN_pos ls.length
  rw [List.length_drop]
  omega
theorem pathN_one {ls : List Dig} (i : Nat) (h : ls.length < 2) : pathN ls i = [] := by rw [pathN, dif_pos h]
theorem pathN_left {ls : List Dig} {i : Nat} (h : 2 ≤ ls.length) (hi : i < halfN ls.length) : pathN ls i = pathN (ls.take (halfN ls.length)) i ++ [rootN (ls.drop (halfN ls.length))] := by
 rw [pathN, dif_neg (by omega), if_pos hi]
theorem pathN_right {ls : List Dig} {i : Nat} (h : 2 ≤ ls.length) (hi : ¬ i < halfN ls.length) : pathN ls i = pathN (ls.drop (halfN ls.length)) (i - halfN ls.length) ++ [rootN (ls.take (halfN ls.length))] := by
 rw [pathN, dif_neg (by omega), if_neg hi]
theorem length_pathN : ∀ (n : Nat) (ls : List Dig) (i : Nat), ls.length = n → (pathN ls i).length = longN i n := by
 intro n
 induction n using Nat.strongRecOn with
 | ind n ih =>
 intro ls i hl
 by_cases h : n < 2
 ·rw [pathN_one i (by omega), longN_one i h]
  rfl
 ·have h1 := halfN_lt n (by omega)
  have h2 := halfN_pos n
  by_cases hi : i < halfN n
  ·rw [pathN_left (by omega) (by rw [hl]; exact hi), longN_left (by omega) hi, List.length_append, hl, ih _ h1 (ls.take (halfN n)) i (by rw [List.length_take]; omega), List.length_singleton]
  ·rw [pathN_right (by omega) (by rw [hl]; exact hi), longN_right (by omega) hi, List.length_append, hl, ih (n - halfN n) (by omega) (ls.drop (halfN n)) (i - halfN n) (by rw [List.length_drop]; omega), List.length_singleton]
def foldN (l : Dig) : List (Dig × Bool) → Dig
 | [] => l
 | (p, s) :: r => foldN (if s then nodeN l p else nodeN p l) r
theorem foldN_append (l : Dig) (a b : List (Dig × Bool)) : foldN l (a ++ b) = foldN (foldN l a) b := by
 induction a generalizing l with
 | nil => rfl
 | cons x a ih =>
  obtain ⟨p, s⟩ := x
  exact ih _
def foldedN (l : Dig) (i n : Nat) (path : List Dig) : Dig := foldN l (path.zip (sidesN i n).reverse)
theorem foldedN_one (l : Dig) (i : Nat) {n : Nat} (h : n < 2) (path : List Dig) : foldedN l i n path = l := by
 unfold foldedN
 rw [sidesN_one i h, List.reverse_nil, List.zip_nil_right]
 rfl
theorem foldedN_left (l : Dig) {i n : Nat} (h : 2 ≤ n) (hi : i < halfN n) (path : List Dig) (p : Dig) (hp : path.length = longN i (halfN n)) :
  foldedN l i n (path ++ [p]) = nodeN (foldedN l i (halfN n) path) p := by
 unfold foldedN
 rw [sidesN_left h hi, List.reverse_cons, List.zip_append (by rw [List.length_reverse, length_sidesN, hp]), foldN_append]
 rfl
theorem foldedN_right (l : Dig) {i n : Nat} (h : 2 ≤ n) (hi : ¬ i < halfN n) (path : List Dig) (p : Dig) (hp : path.length = longN (i - halfN n) (n - halfN n)) :
  foldedN l i n (path ++ [p]) = nodeN p (foldedN l (i - halfN n) (n - halfN n) path) := by
 unfold foldedN
 rw [sidesN_right h hi, List.reverse_cons, List.zip_append (by rw [List.length_reverse, length_sidesN, hp]), foldN_append]
 rfl
theorem folded_path : ∀ (n : Nat) (ls : List Dig) (i : Nat) (hl : ls.length = n) (hi : i < n), foldedN (ls[i]'(by omega)) i n (pathN ls i) = rootN ls := by
 intro n
 induction n using Nat.strongRecOn with
 | ind n ih =>
 intro ls i hl hi
 by_cases h : n < 2
 ·obtain rfl : n = 1 := by omega
  obtain rfl : i = 0 := by omega
  obtain ⟨d, rfl⟩ : ∃ d, ls = [d] := by
   match ls, hl with
   | [d], _ => exact ⟨d, rfl⟩
  rw [foldedN_one _ _ (by omega), rootN_one]
  rfl
 ·have h1 := halfN_lt n (by omega)
  have h2 := halfN_pos n
  obtain ⟨x, hx⟩ : ∃ x, x = ls[i]'(by omega) := ⟨_, rfl⟩
  rw [← hx]
  rw [rootN_more ls (by omega), hl]
  by_cases hk : i < halfN n
  ·rw [pathN_left (by omega) (by rw [hl]; exact hk), hl, foldedN_left _ (by omega) hk (pathN (ls.take (halfN n)) i) _ (length_pathN _ (ls.take (halfN n)) _ (by rw [List.length_take]; omega))]
   have := ih _ h1 (ls.take (halfN n)) i (by rw [List.length_take]; omega) hk
   rw [List.getElem_take, ← hx] at this
   rw [this]
  ·rw [pathN_right (by omega) (by rw [hl]; exact hk), hl, foldedN_right _ (by omega) hk (pathN (ls.drop (halfN n)) (i - halfN n)) _ (length_pathN _ (ls.drop (halfN n)) _ (by rw [List.length_drop]; omega))]
   have := ih (n - halfN n) (by omega) (ls.drop (halfN n)) (i - halfN n) (by rw [List.length_drop]; omega) (by omega)
   rw [List.getElem_drop] at this
   simp only [show halfN n + (i - halfN n) = i by omega] at this
   rw [← hx] at this
   rw [this]
def hvN (n : Nat) : Nat := if _h : n = 0 then 0 else hvN (n / 2) + 1
termination_by n
theorem hvN_zero : hvN 0 = 0 := by rw [hvN]; rfl
theorem hvN_pos {n : Nat} (h : n ≠ 0) : hvN n = hvN (n / 2) + 1 := by rw [hvN, dif_neg h]
theorem hvN_mono : ∀ (n m : Nat), m ≤ n → hvN m ≤ hvN n := by
 intro n
 induction n using Nat.strongRecOn with
 | ind n ih =>
 intro m hm
 by_cases h0 : m = 0
 ·subst h0
  rw [hvN_zero]
  exact Nat.zero_le _
 ·rw [hvN_pos h0, hvN_pos (n := n) (by omega)]
  have := ih (n / 2) (by omega) (m / 2) (by omega)
  omega
theorem hvN_pow : ∀ k, hvN (2 ^ k - 1) = k
 | 0 => hvN_zero
 | k + 1 => by
  have hp := Nat.two_pow_pos k
  rw [hvN_pos (by rw [Nat.pow_succ]; omega), show (2 ^ (k + 1) - 1) / 2 = 2 ^ k - 1 by rw [Nat.pow_succ]; omega, hvN_pow k]
theorem hvN_full (k : Nat) : hvN (2 ^ k) = k + 1 := by
 rw [hvN_pos (by have := Nat.two_pow_pos k; omega)]
 cases k with
 | zero => rw [show 2 ^ 0 / 2 = 0 by decide, hvN_zero]
 | succ k => rw [show 2 ^ (k + 1) / 2 = 2 ^ k by rw [Nat.pow_succ]; omega, hvN_full k]
theorem long_le : ∀ (n i : Nat), longN i n ≤ hvN (n - 1) := by
 intro n
 induction n using Nat.strongRecOn with
 | ind n ih =>
 intro i
 by_cases h : n < 2
 ·rw [longN_one i h]
  exact Nat.zero_le _
 ·have h1 := halfN_lt n (by omega)
  have h2 := halfN_pos n
  have hk : halfN n ≤ n - 1 := by omega
  have hb := hvN_mono (n - 1) (halfN n) hk
  have hp : halfN n = 2 ^ Nat.log2 (n - 1) := rfl
  rw [hp, hvN_full] at hb
  have hu : n - 1 < 2 ^ (Nat.log2 (n - 1) + 1) := Nat.lt_log2_self
  by_cases hi : i < halfN n
  ·have := ih _ h1 i
   rw [longN_left (by omega) hi]
   rw [hp, hvN_pow] at this
   rw [hp]
   omega
  ·have := ih (n - halfN n) (by omega) (i - halfN n)
   rw [longN_right (by omega) hi]
   have hm := hvN_mono (2 ^ Nat.log2 (n - 1) - 1) (n - halfN n - 1) (by rw [Nat.pow_succ] at hu; omega)
   rw [hvN_pow] at hm
   omega
end Go.Proofs.YtkbleigmfcleaaaDoor

set_option maxRecDepth 20000
set_option linter.unusedSimpArgs false
set_option linter.unusedVariables false
namespace Go.Proofs.YtkbleigmfcleaaaDoor
def plN (n m : Nat) (own : Bool) : Nat :=
 if m = n then (if own then 0 else 1)
 else if _h : n < 2 then 0
 else if m ≤ halfN n then plN (halfN n) m own + 1
 else plN (n - halfN n) (m - halfN n) false + 1
termination_by n
decreasing_by
 ·exact halfN_lt n (by omega)
 ·have := halfN_pos n
  omega
theorem plN_all (n : Nat) (own : Bool) : plN n n own = if own then 0 else 1 := by rw [plN, if_pos rfl]
theorem plN_left {n m : Nat} {own : Bool} (h : m ≠ n) (h2 : 2 ≤ n) (hk : m ≤ halfN n) : plN n m own = plN (halfN n) m own + 1 := by rw [plN, if_neg h, dif_neg (by omega), if_pos hk]
theorem plN_right {n m : Nat} {own : Bool} (h : m ≠ n) (h2 : 2 ≤ n) (hk : ¬ m ≤ halfN n) : plN n m own = plN (n - halfN n) (m - halfN n) false + 1 := by rw [plN, if_neg h, dif_neg (by omega), if_neg hk]
theorem plN_le : ∀ (n m : Nat) (own : Bool), plN n m own ≤ n + 1 := by
 intro n
 induction n using Nat.strongRecOn with
 | ind n ih =>
 intro m own
 by_cases h : m = n
 ·subst h
  rw [plN_all]
  split <;> omega
 ·by_cases h2 : n < 2
  ·rw [plN, if_neg h, dif_pos h2]
   omega
  ·have h1 := halfN_lt n (by omega)
   have h3 := halfN_pos n
   by_cases hk : m ≤ halfN n
   ·have := ih _ h1 m own
    rw [plN_left h (by omega) hk]
    omega
   ·have := ih (n - halfN n) (by omega) (m - halfN n) false
    rw [plN_right h (by omega) hk]
    omega
def gpN (ls : List Dig) (m : Nat) (own : Bool) : List Dig :=
 if m = ls.length then (if own then [] else [rootN ls])
 else if _h : ls.length < 2 then []
 else if m ≤ halfN ls.length then gpN (ls.take (halfN ls.length)) m own ++ [rootN (ls.drop (halfN ls.length))]
 else gpN (ls.drop (halfN ls.length)) (m - halfN ls.length) false ++ [rootN (ls.take (halfN ls.length))]
termination_by ls.length
decreasing_by
 ·have := halfN_lt ls.length (by omega)
  rw [List.length_take]
  omega
 ·have := halfN_pos ls.length
  rw [List.length_drop]
  omega
theorem gpN_all (ls : List Dig) {m : Nat} (own : Bool) (h : m = ls.length) : gpN ls m own = if own then [] else [rootN ls] := by rw [gpN, if_pos h]
theorem gpN_left {ls : List Dig} {m : Nat} {own : Bool} (h : m ≠ ls.length) (h2 : 2 ≤ ls.length) (hk : m ≤ halfN ls.length) : gpN ls m own = gpN (ls.take (halfN ls.length)) m own ++ [rootN (ls.drop (halfN ls.length))] := by
 rw [gpN, if_neg h, dif_neg (by omega), if_pos hk]
theorem gpN_right {ls : List Dig} {m : Nat} {own : Bool} (h : m ≠ ls.length) (h2 : 2 ≤ ls.length) (hk : ¬ m ≤ halfN ls.length) : gpN ls m own = gpN (ls.drop (halfN ls.length)) (m - halfN ls.length) false ++ [rootN (ls.take (halfN ls.length))] := by
 rw [gpN, if_neg h, dif_neg (by omega), if_neg hk]
theorem length_gpN : ∀ (n : Nat) (ls : List Dig) (m : Nat) (own : Bool), ls.length = n → (gpN ls m own).length = plN n m own := by
 intro n
 induction n using Nat.strongRecOn with
 | ind n ih =>
 intro ls m own hl
 by_cases h : m = n
 ·subst h
  rw [gpN_all ls own hl.symm, plN_all]
  split <;> rfl
 ·by_cases h2 : n < 2
  ·rw [gpN, if_neg (by omega), dif_pos (by omega), plN, if_neg h, dif_pos h2]
   rfl
  ·have h1 := halfN_lt n (by omega)
   have h3 := halfN_pos n
   by_cases hk : m ≤ halfN n
   ·rw [gpN_left (by omega) (by omega) (by rw [hl]; exact hk), plN_left h (by omega) hk, List.length_append, hl, ih _ h1 (ls.take (halfN n)) m own (by rw [List.length_take]; omega), List.length_singleton]
   ·rw [gpN_right (by omega) (by omega) (by rw [hl]; exact hk), plN_right h (by omega) hk, List.length_append, hl, ih (n - halfN n) (by omega) (ls.drop (halfN n)) (m - halfN n) false (by rw [List.length_drop]; omega), List.length_singleton]
def grN (n m : Nat) (own : Bool) (old : Dig) (p : List Dig) : Dig × Dig :=
 if m = n then (if own then (old, old) else (p.getLastD zeroD, p.getLastD zeroD))
 else if _h : n < 2 then (old, old)
 else if m ≤ halfN n then
  ((grN (halfN n) m own old p.dropLast).1, nodeN (grN (halfN n) m own old p.dropLast).2 (p.getLastD zeroD))
 else
  (nodeN (p.getLastD zeroD) (grN (n - halfN n) (m - halfN n) false old p.dropLast).1, nodeN (p.getLastD zeroD) (grN (n - halfN n) (m - halfN n) false old p.dropLast).2)
termination_by n
decreasing_by
 all_goals first
  | exact halfN_lt n (by omega)
  | (have := halfN_pos n; omega)
theorem grN_all (n : Nat) (own : Bool) (old : Dig) (p : List Dig) : grN n n own old p = if own then (old, old) else (p.getLastD zeroD, p.getLastD zeroD) := by rw [grN, if_pos rfl]
theorem grN_left {n m : Nat} {own : Bool} {old : Dig} (h : m ≠ n) (h2 : 2 ≤ n) (hk : m ≤ halfN n) (q : List Dig) (d : Dig) : grN n m own old (q ++ [d]) = ((grN (halfN n) m own old q).1, nodeN (grN (halfN n) m own old q).2 d) := by
 rw [grN, if_neg h, dif_neg (by omega), if_pos hk]
 simp
theorem grN_right {n m : Nat} {own : Bool} {old : Dig} (h : m ≠ n) (h2 : 2 ≤ n) (hk : ¬ m ≤ halfN n) (q : List Dig) (d : Dig) : grN n m own old (q ++ [d]) = (nodeN d (grN (n - halfN n) (m - halfN n) false old q).1, nodeN d (grN (n - halfN n) (m - halfN n) false old q).2) := by
 rw [grN, if_neg h, dif_neg (by omega), if_neg hk]
 simp
theorem root_take {ls : List Dig} {m : Nat} (h2 : 2 ≤ ls.length) (hk : ¬ m ≤ halfN ls.length) (hm : m ≤ ls.length) :
  rootN (ls.take m) = nodeN (rootN (ls.take (halfN ls.length))) (rootN ((ls.drop (halfN ls.length)).take (m - halfN ls.length))) := by
 have h3 := halfN_pos ls.length
 have hl : (ls.take m).length = m := by rw [List.length_take]; omega
 have hh : halfN m = halfN ls.length := by
  have hu : ls.length - 1 < 2 ^ (Nat.log2 (ls.length - 1) + 1) := Nat.lt_log2_self
  refine halfN_of (Nat.log2 (ls.length - 1)) rfl (by omega) ?_
  unfold halfN
  rw [Nat.pow_succ] at hu
  omega
 rw [rootN_more (ls.take m) (by omega), hl, hh, List.take_take, Nat.min_eq_left (by omega), List.drop_take]
theorem grow_proves : ∀ (n : Nat) (ls : List Dig) (m : Nat) (own : Bool) (old : Dig), ls.length = n → 1 ≤ m → m ≤ n → (own = true → old = rootN (ls.take m)) → grN n m own old (gpN ls m own) = (rootN (ls.take m), rootN ls) := by
 intro n
 induction n using Nat.strongRecOn with
 | ind n ih =>
 intro ls m own old hl h1 hm ho
 by_cases h : m = n
 ·subst h
  rw [gpN_all ls own hl.symm, grN_all, List.take_of_length_le (by omega)]
  cases own with
  | true =>
   have := ho rfl
   rw [List.take_of_length_le (by omega)] at this
   simp [this]
  | false => simp
 ·have h2 : 2 ≤ n := by omega
  have hlt := halfN_lt n h2
  have hps := halfN_pos n
  by_cases hk : m ≤ halfN n
  ·have hl' : (ls.take (halfN n)).length = halfN n := by rw [List.length_take]; omega
   have ht : (ls.take (halfN n)).take m = ls.take m := by rw [List.take_take, Nat.min_eq_left hk]
   have := ih _ hlt (ls.take (halfN n)) m own old hl' h1 hk (fun e => by rw [ht]; exact ho e)
   rw [gpN_left (by omega) (by omega) (by rw [hl]; exact hk), hl, grN_left h h2 hk, this, ht, rootN_more ls (by omega), hl]
  ·have hl' : (ls.drop (halfN n)).length = n - halfN n := by rw [List.length_drop, hl]
   have := ih (n - halfN n) (by omega) (ls.drop (halfN n)) (m - halfN n) false old hl' (by omega) (by omega) (fun e => by cases e)
   rw [gpN_right (by omega) (by omega) (by rw [hl]; exact hk), hl, grN_right h h2 hk, this, root_take (m := m) (by omega) (by rw [hl]; exact hk) (by omega), rootN_more ls (by omega), hl]
end Go.Proofs.YtkbleigmfcleaaaDoor

set_option linter.unusedSimpArgs false
set_option linter.unusedVariables false
namespace Go.Proofs.YtkbleigmfcleaaaDoor
structure SwapAt {α : Type} (l l' : List α) (i : Nat) : Prop where
 len : l'.length = l.length
 at_ : ∀ k, k < l.length → l'[k]? = if k < i ∨ l.length ≤ k + i then l[l.length - 1 - k]? else l[k]?
theorem SwapAt.start {α : Type} (l : List α) : SwapAt l l 0 := ⟨rfl, fun k hk => by rw [if_neg (by omega)]⟩
theorem SwapAt.step {α : Type} {l l' : List α} {i : Nat} (h : SwapAt l l' i) (hi : 2 * i + 1 < l.length) {x y : α} (hx : l'[i]? = some x) (hy : l'[l.length - 1 - i]? = some y) : SwapAt l ((l'.set i y).set (l.length - 1 - i) x) (i + 1) := by
 refine ⟨by rw [List.length_set, List.length_set, h.len], fun k hk => ?_⟩
 have h1 := h.at_ i (by omega)
 have h2 := h.at_ (l.length - 1 - i) (by omega)
 rw [if_neg (by omega), hx] at h1
 rw [if_neg (by omega), hy] at h2
 rw [List.getElem?_set, List.getElem?_set, List.length_set, h.len]
 by_cases hkj : l.length - 1 - i = k
 ·rw [if_pos hkj, if_pos (by omega), if_pos (by omega), h1]
  congr 1
  omega
 ·rw [if_neg hkj]
  by_cases hki : i = k
  ·subst hki
   rw [if_pos rfl, if_pos (by omega), if_pos (by omega), h2]
  ·rw [if_neg hki, h.at_ k hk]
   by_cases hc : k < i ∨ l.length ≤ k + i
   ·rw [if_pos hc, if_pos (by omega)]
   ·rw [if_neg hc, if_neg (by omega)]
theorem SwapAt.done {α : Type} {l l' : List α} {i : Nat} (h : SwapAt l l' i) (hi : l.length ≤ 2 * i + 1) : l' = l.reverse := by
 apply List.ext_getElem?
 intro k
 by_cases hk : k < l.length
 ·rw [h.at_ k hk, List.getElem?_reverse hk]
  by_cases hc : k < i ∨ l.length ≤ k + i
  ·rw [if_pos hc]
  ·rw [if_neg hc]
   congr 1
   omega
 ·rw [List.getElem?_eq_none (by rw [h.len]; omega), List.getElem?_eq_none (by rw [List.length_reverse]; omega)]
theorem digsL_cons (d : Dig) (l : List Dig) : digsL (d :: l) = d.arr.toList ++ digsL l := by simp [digsL, Dig.toList]
theorem digsL_set : ∀ (l : List Dig) (i : Nat) (d : Dig), i < l.length → (digsL l).take (i * 32) ++ d.arr.toList ++ (digsL l).drop (i * 32 + 32) = digsL (l.set i d)
 | [], i, d, h => by simp at h
 | x :: l, 0, d, _ => by
  rw [digsL_cons, List.set_cons_zero, digsL_cons, Nat.zero_mul, Nat.zero_add, List.take_zero, List.nil_append, List.drop_append_of_le_length (by rw [Array.length_toList, Dig.size]; exact Nat.le_refl _)]
  rw [List.drop_eq_nil_of_le (by rw [Array.length_toList, Dig.size]; exact Nat.le_refl _), List.nil_append]
 | x :: l, i + 1, d, h => by
  have hs : x.arr.toList.length = 32 := by rw [Array.length_toList, Dig.size]
  have ih := digsL_set l i d (by simpa using h)
  rw [digsL_cons, List.set_cons_succ, digsL_cons, ← ih, List.take_append, List.drop_append, hs]
  have e1 : x.arr.toList.take ((i + 1) * 32) = x.arr.toList := List.take_of_length_le (by omega)
  have e2 : x.arr.toList.drop ((i + 1) * 32 + 32) = [] := List.drop_eq_nil_of_le (by omega)
  rw [e1, e2, show (i + 1) * 32 - 32 = i * 32 by omega, show (i + 1) * 32 + 32 - 32 = i * 32 + 32 by omega, List.nil_append]
  simp only [List.append_assoc]
def boolsL (l : List Bool) : List Value := l.map fun b => .bool b
theorem length_boolsL (l : List Bool) : (boolsL l).length = l.length := by simp [boolsL]
theorem boolsL_append (a b : List Bool) : boolsL (a ++ b) = boolsL a ++ boolsL b := by simp [boolsL]
theorem boolsL_set (l : List Bool) (i : Nat) (b : Bool) : (boolsL l).set i (.bool b) = boolsL (l.set i b) := by simp [boolsL, List.map_set]
theorem boolsL_at (l : List Bool) (i : Nat) (h : i < l.length) : (boolsL l)[i]? = some (.bool l[i]) := by simp [boolsL, h]
theorem oneCell_bools {l : List Bool} : ∀ v ∈ boolsL l, v.oneCell' = true := fun v hv => by
 obtain ⟨b, _, rfl⟩ := List.mem_map.1 hv
 rfl
end Go.Proofs.YtkbleigmfcleaaaDoor

set_option maxRecDepth 20000
set_option linter.unusedSimpArgs false
set_option linter.unusedVariables false
namespace Go.Proofs.YtkbleigmfcleaaaDoor
open Go.RowKit
theorem el_bool : ElemIs Tryd.prog 4 (.bool false) 1 1 := by unfold ElemIs; kernel_rfl
end Go.Proofs.YtkbleigmfcleaaaDoor

set_option maxRecDepth 20000
set_option linter.unusedSimpArgs false
set_option linter.unusedVariables false
namespace Go.Proofs.YtkbleigmfcleaaaDoor
open Go.RowKit
end Go.Proofs.YtkbleigmfcleaaaDoor

set_option maxRecDepth 20000
set_option linter.unusedSimpArgs false
set_option linter.unusedVariables false
namespace Go.Proofs.YtkbleigmfcleaaaDoor
open Go.RowKit
theorem dig_oneL (d : Dig) : ∀ u ∈ d.arr.toList, u.oneCell' = true := by
 rw [Dig.toList]
 exact oneCell_bytes
theorem foldN_step (l : Dig) (zs : List (Dig × Bool)) (j : Nat) (hj : j < zs.length) : foldN l (zs.take (j + 1)) = if (zs[j]).2 then nodeN (foldN l (zs.take j)) (zs[j]).1 else nodeN (zs[j]).1 (foldN l (zs.take j)) := by
 rw [List.take_succ_eq_append_getElem hj, foldN_append]
 rfl
end Go.Proofs.YtkbleigmfcleaaaDoor

set_option maxRecDepth 20000
set_option linter.unusedSimpArgs false
set_option linter.unusedVariables false
namespace Go.Proofs.YtkbleigmfcleaaaDoor
open Go.RowKit
end Go.Proofs.YtkbleigmfcleaaaDoor
