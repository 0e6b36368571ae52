/-
  Proved here: DeskKeeps: the law returns true for every input, and leaves its arguments as they were.
-/
import Derived.Test.YtaebeemnipafbaaGreatDoorPkDeskTakesB
import Derived.Test.YtaebeemnipafbaaGreatDoorForkM
import Derived.Test.YtaebeemnipafbaaGreatDoorSkip
import Derived.Test.YtaebeemnipafbaaGreatDoorLaw
import Derived.Test.YtaebeemnipafbaaGreatDoorPkDeskTakesA
import Derived.Laws.CopyOwn
import Derived.Laws.IdiomStrings
import Derived.Test.YtaebeemnipafbaaGreatDoorTold
import Derived.Test.YtaebeemnipafbaaGreatDoorBuildT
import Derived.Deep.LoopGhost
import Derived.Test.YtaebeemnipafbaaGreatDoorRows
import Derived.LaidLaws
import Derived.Lib.LaidTab
import Derived.Lib.TrailingZeros
import Derived.ChangeVars
import Derived.JoinedOf
import Derived.RowKit
import Derived.Stop.Joined
import Derived.Stop.LaidErr
import Derived.SizedLaws
import Derived.LaidHandle
import Derived.ChangeSame
import Derived.RowKitTokens
import Derived.Test.YtaebeemnipafbaaGreatDoorCards
import Derived.Test.YtaebeemnipafbaaGreatDoorTie
import Derived.Deep.DeepHandedRow
import Derived.ProofKit
import Derived.OpenShut
set_option maxRecDepth 20000
set_option linter.unusedSimpArgs false
set_option linter.unusedVariables false
namespace Go.Proofs.YtaebeemnipafbaaGreatDoor
open Go.RowKit
section
variable {P : Program} {a : Act} {W : World}
theorem bp_cell_tmp2 {fn : Func} {R : Ending → World → Prop} {p q q' : Tmp} {ty : TypeId} (hr : fn.results = #[.cell p ty, .tmp q, .tmp q']) (hd : a.defers = []) {g : Nat} (hp : a.tmps.toList[p]? = some (.pointer (some ⟨g, 0, none⟩))) {v v' : Value} (hq : a.tmps.toList[q]? = some v) (hq2 : a.tmps.toList[q']? = some v') {t : TypeId} {cs : Array Value} {fr : Nat × Nat} (hg : W.heap[g]? = some (.cells cs t fr))
  {td : TypeDesc} (hu : P.underlying ty = some td) (hrow : td.isRow = true) {z : Value} {s b : Nat} (he : ElemIs P ty z s b) (hs : cs.size = s) (hR : R (.returned (.tuple #[.agg cs, v, v'])) W) : bodyPost P fn R .ret a W := by
 have hp' : a.tmps[p]?.getD undef = .pointer (some ⟨g, 0, none⟩) := by
  have : a.tmps[p]? = some (.pointer (some ⟨g, 0, none⟩)) := by simpa using hp
  simp [this]
 have hq' : a.tmps[q]?.getD undef = v := by
  have : a.tmps[q]? = some v := by simpa using hq
  simp [this]
 have hq3 : a.tmps[q']?.getD undef = v' := by
  have : a.tmps[q']? = some v' := by simpa using hq2
  simp [this]
 refine bodyPost_ret ?_ hd hR
 simp [results, hr, hp', hq', hq3, asAddr, run_loadVar_row W g t ty cs fr td hg hu (by cases td <;> simp_all [TypeDesc.isRow]) (by rw [he.size, hs])]
end
def lookV (r : Nat × Option NoteN) : Value := .tuple #[.agg (r.2.getD zeroNt).arr, .bool r.2.isSome, errO r.1]
def lookZ (a2 : Dig) (a3 at_ : Int) (m r : Nat) (D y : Dig) : Nat := if a2 = zeroD ∧ a3 = 0 ∧ at_ = 0 ∧ m = 0 ∧ r = 0 ∧ D = y then 0 else 9
theorem look_no (n : Int) (x y z : Dig) (s : List UInt8) (a1 : List UInt8) (a2 : Dig) (a3 : Int) (at_ : Int) (A : Option Addr) (m c : Nat) (B : Option Addr) (p q : Nat) (w : World) (hs : isNm s = false) :
  Calls Tryz.prog 22 #[.agg (hdArr n x y z), .string (bsOf s), .agg (fdArr a1 a2 a3 at_ A m c B p q)] w fun e w' => e = .returned (.tuple #[.agg (ntArr [] zeroD 0), .bool false, errV 1]) ∧ St w w' [] := by
 have hst := St.refl w
 have HN := Lib.hid (fun w => by have := named_any s w; rw [hs] at this; exact this)
 clear hs
 go_enter Tryz.func22, Tryz.ntmps22
 go_upto_region 1 with (go_big_may; first | (refine L_boxA (d := some 3) rfl rfl rfl (ev_tmp rfl) ?_; (try clear hnew); intro g3 W3 hnew; replace hst := hst.trans hnew; simp only [List.cons_append, List.nil_append] at hst) | (refine L_boxA (d := some 5) rfl rfl rfl (ev_tmp rfl) ?_; (try clear hnew); intro g5 W5 hnew; replace hst := hst.trans hnew; simp only [List.cons_append, List.nil_append] at hst) | (refine L_allocA (d := some 6) rfl rfl rfl el_api_Note ?_; (try clear hnew); intro g6 W6 hnew; replace hst := hst.trans hnew; simp only [List.cons_append, List.nil_append] at hst))
 go_upto_region 2 with (go_big_may; (go_at_call 34; (try clear hnew); refine (HN.out _).mono ?_; rintro e Wk1 ⟨rfl, hnew⟩; replace hst := hst.keep hnew))
 go_wp2_with (first | (refine L_buildNz (d := some 18) rfl rfl rfl ?_) | (refine wpl_at (.store 34 (.tmp 6) (.tmp 18)) rfl ?_; (refine L_storeA rfl rfl hst rfl (by rfl) (ev_tmp rfl) (by (exact ntArr_all _ _ _)) el_api_Note (by (rfl)) 0 rfl (by (rfl)) ?_; clear hst; intro WS2 hst; simp only [List.set_cons_zero, List.set_cons_succ] at hst)))
 refine bp_cell_tmp2 rfl rfl rfl rfl rfl (hst.get 0 rfl) Tryz.underlying34 rfl el_api_Note (ntArr_size _ _ _) ?_
 exact ⟨rfl, hst.forget⟩
set_option maxHeartbeats 8000000 in
set_option maxRecDepth 100000 in
theorem look_none (n : Int) (x y z : Dig) (s : List UInt8) (a2 : Dig) (a3 : Int) (at_ : Int) (A : Option Addr) (m c : Nat) (B : Option Addr) (ps : List Dig) (p q : Nat) (w : World) (hT : Tb w) (hs : isNm s = true) (hx : SlR w B p q 32 (digsL ps)) :
  Calls Tryz.prog 22 #[.agg (hdArr n x y z), .string (bsOf s), .agg (fdArr [] a2 a3 at_ A m c B p q)] w fun e w' => e = .returned (.tuple #[.agg (ntArr [] zeroD 0), .bool false, errO (lookZ a2 a3 at_ m (mfE ps) (mfD s zeroD ps) y)]) ∧ St w w' [] := by
 have hst := St.refl w
 have HT := Lib.hid hT
 have HX := Lib.hid hx
 have HN := Lib.hid (fun w => by have := named_any s w; rw [hs] at this; exact this)
 have HI := Lib.hid (fun (w' : World) (h : Tb w') => index_any s w' h (by have := isNm_len hs; omega))
 have HF := Lib.hid (fun (w' : World) (ht : Tb w') (h : SlR w' B p q 32 (digsL ps)) => tfoldU_any s zeroD ps B p q w' ht h)
 generalize mfD s zeroD ps = D at *
 obtain ⟨r, hr⟩ : ∃ r, r = mfE ps := ⟨_, rfl⟩
 rw [← hr] at HF ⊢
 have HEE := Lib.hid (show errO r = if r = 0 then .nilIface else errV r by unfold errO; rfl)
 generalize idxN s = ix at *
 have hb := bsOf_nil
 clear hT hs hx hr
 go_enter Tryz.func22, Tryz.ntmps22
 go_upto_region 1 with (go_big_may; first | (refine L_boxA (d := some 3) rfl rfl rfl (ev_tmp rfl) ?_; (try clear hnew); intro g3 W3 hnew; replace hst := hst.trans hnew; simp only [List.cons_append, List.nil_append] at hst) | (refine L_boxA (d := some 5) rfl rfl rfl (ev_tmp rfl) ?_; (try clear hnew); intro g5 W5 hnew; replace hst := hst.trans hnew; simp only [List.cons_append, List.nil_append] at hst) | (refine L_allocA (d := some 6) rfl rfl rfl el_api_Note ?_; (try clear hnew); intro g6 W6 hnew; replace hst := hst.trans hnew; simp only [List.cons_append, List.nil_append] at hst))
 go_upto_region 3 with (go_big_may; (go_at_call 34; (try clear hnew); refine (HN.out _).mono ?_; rintro e Wk2 ⟨rfl, hnew⟩; replace hst := hst.keep hnew))
 go_upto_region 4 with (go_big_may; (refine L_load1 (d := some 22) rfl rfl rfl (by rfl) Tryz.underlying9 rfl (by (exact cell_of (hst.get 1 rfl) fdArr_0)) ?_))
 generalize errO r = E at *
 go_cut [9, 10] (fun s9 s10 wx => ∃ g9, s9 = .pointer (some ⟨g9, 0, none⟩) ∧ s10 = E ∧ St w wx [.blk g9 32 D.arr, .blk g6 34 (ntArr [] zeroD 0), .blk g5 46 (fdArr [] a2 a3 at_ A m c B p q), .blk g3 41 (hdArr n x y z)])
 case first =>
  refine wp_region_pm (.one 0 3 (.one 2 0 (.one 3 0 (.one 4 0 (.two 1 2 (.two 5 2 (.one 6 3 (.one 7 3 (.one 8 3 (.one 9 2 (.one 10 1 (.one 11 2 .nil)))))) 9 2 (.one 5 2 (.one 6 2 (.one 7 3 (.one 8 3 (.one 10 1 (.one 11 2 .nil))))))) 9 2 (.one 1 2 (.one 5 2 (.one 6 2 (.one 7 3 (.one 8 3 (.one 10 1 (.one 11 2 .nil)))))))))))) (by kernel_rfl) (by kernel_rfl) ?_
  replace hst := hst.drew
  refine pm_p rfl rfl ?_; go_wp2_with fail
  refine pm_q rfl rfl ?_; go_wp2_with ((refine L_build0 (d := some 27) rfl rfl rfl Tryz.underlying32 el_uint8 el_api_Digest ?_))
  refine pm_qf rfl rfl (by kernel_rfl) ?_; go_wp2_with fail
  refine pm_q rfl rfl ?_; go_wp2_with ((refine L_load1 (d := some 29) rfl rfl rfl (by rfl) Tryz.underlying44 rfl (by (exact cell_of (hst.get 1 rfl) fdArr_36)) ?_))
  refine pm_two (ki := 2) (kj := 2) rfl rfl ?_ ?_
  ·go_wp2_with ((go_at_call 35; (try clear hnew); refine (HI.out _ (HT.out.of hst)).mono ?_; rintro e Wk3 ⟨rfl, hnew⟩; replace hst := hst.keep hnew)); refine ⟨fun _ => (by (exact hnew.below)), ?_⟩
   refine pm_two (ki := 2) (kj := 2) rfl rfl ?_ ?_
   ·go_wp2_with ((go_at_call 57; (try clear hnew); refine (HF.out _ (HT.out.of hst) (hst.old (by decide) HX.out)).mono ?_; rintro e Wk4 ⟨rfl, hnew⟩; replace hst := hst.keep hnew)); refine ⟨fun _ => (by (exact hnew.below)), ?_⟩
    refine pm_p rfl rfl ?_; go_wp2_with fail
    refine pm_p rfl rfl ?_; go_wp2_with fail
    refine pm_p rfl rfl ?_; go_wp2_with fail
    refine pm_g rfl ?_; go_wp2_with ((refine L_allocA (d := some 9) rfl rfl rfl el_api_Digest ?_; (try clear hnew); intro g9 W9 hnew; replace hst := hst.trans hnew; simp only [List.cons_append, List.nil_append] at hst)); refine ⟨by (exact hnew.below), ?_⟩
    refine pm_e rfl ?_; go_wp2_with ((refine wpl_at (.store 32 (.tmp 9) (.tmp 31)) rfl ?_; (refine L_storeA rfl rfl hst rfl (by rfl) (ev_tmp rfl) (by (exact Dig.one _)) el_api_Digest (by (exact Dig.size _)) 0 rfl (by (rfl)) ?_; clear hst; intro WS10 hst; simp only [List.set_cons_zero, List.set_cons_succ] at hst)))
    refine pm_g rfl ?_; go_wp2_with fail; refine ⟨by (exact Below.refl _ _), ?_⟩
    refine pm_nil ?_
    go_wp2_with fail
    go_meet
    case rel => exact ⟨_, rfl, rfl, hst.pick [0, 1, 2, 3] (by decide)⟩
   ·go_wp2_with ((refine L_allocA (d := some 9) rfl rfl rfl el_api_Digest ?_; (try clear hnew); intro g9 W9 hnew; replace hst := hst.trans hnew; simp only [List.cons_append, List.nil_append] at hst)); refine ⟨fun _ => (by (exact hnew.below)), ?_⟩
    refine pm_g rfl ?_; go_wp2_with ((go_at_call 57; (try clear hnew); refine (HF.out _ (HT.out.of hst) (hst.old (by decide) HX.out)).mono ?_; rintro e Wk4 ⟨rfl, hnew⟩; replace hst := hst.keep hnew)); refine ⟨by (exact hnew.below), ?_⟩
    refine pm_g rfl ?_; go_wp2_with fail; refine ⟨by (exact Below.refl _ _), ?_⟩
    refine pm_p rfl rfl ?_; go_wp2_with fail
    refine pm_p rfl rfl ?_; go_wp2_with fail
    refine pm_e rfl ?_; go_wp2_with ((refine wpl_at (.store 32 (.tmp 9) (.tmp 31)) rfl ?_; (refine L_storeA rfl rfl hst rfl (by rfl) (ev_tmp rfl) (by (exact Dig.one _)) el_api_Digest (by (exact Dig.size _)) 0 rfl (by (rfl)) ?_; clear hst; intro WS10 hst; simp only [List.set_cons_zero, List.set_cons_succ] at hst)))
    refine pm_g rfl ?_; go_wp2_with fail; refine ⟨by (exact Below.refl _ _), ?_⟩
    refine pm_nil ?_
    go_wp2_with fail
    go_meet
    case rel => exact ⟨_, rfl, rfl, hst.pick [0, 1, 2, 3] (by decide)⟩
  ·go_wp2_with ((refine L_allocA (d := some 9) rfl rfl rfl el_api_Digest ?_; (try clear hnew); intro g9 W9 hnew; replace hst := hst.trans hnew; simp only [List.cons_append, List.nil_append] at hst)); refine ⟨fun _ => (by (exact hnew.below)), ?_⟩
   refine pm_g rfl ?_; go_wp2_with ((go_at_call 35; (try clear hnew); refine (HI.out _ (HT.out.of hst)).mono ?_; rintro e Wk3 ⟨rfl, hnew⟩; replace hst := hst.keep hnew)); refine ⟨by (exact hnew.below), ?_⟩
   refine pm_g rfl ?_; go_wp2_with ((go_at_call 57; (try clear hnew); refine (HF.out _ (HT.out.of hst) (hst.old (by decide) HX.out)).mono ?_; rintro e Wk4 ⟨rfl, hnew⟩; replace hst := hst.keep hnew)); refine ⟨by (exact hnew.below), ?_⟩
   refine pm_g rfl ?_; go_wp2_with fail; refine ⟨by (exact Below.refl _ _), ?_⟩
   refine pm_p rfl rfl ?_; go_wp2_with fail
   refine pm_p rfl rfl ?_; go_wp2_with fail
   refine pm_e rfl ?_; go_wp2_with ((refine wpl_at (.store 32 (.tmp 9) (.tmp 31)) rfl ?_; (refine L_storeA rfl rfl hst rfl (by rfl) (ev_tmp rfl) (by (exact Dig.one _)) el_api_Digest (by (exact Dig.size _)) 0 rfl (by (rfl)) ?_; clear hst; intro WS10 hst; simp only [List.set_cons_zero, List.set_cons_succ] at hst)))
   refine pm_g rfl ?_; go_wp2_with fail; refine ⟨by (exact Below.refl _ _), ?_⟩
   refine pm_nil ?_
   go_wp2_with fail
   go_meet
   case rel => exact ⟨_, rfl, rfl, hst.pick [0, 1, 2, 3] (by decide)⟩
 case rest =>
  obtain ⟨g9, rfl, rfl, hst⟩ := hcut
  clear HF HI HN HX HT
  by_cases c1 : a2 = zeroD ∧ a3 = 0
  case neg =>
   have HE := Lib.hid (fun w => show (Op.equalIn 10000 34 (.agg (ntArr [] a2 a3)) (.agg (ntArr [] zeroD 0))).run Tryz.prog w = .ok false w by rw [eqNote]; simp [c1])
   have HR := Lib.hid (show lookZ a2 a3 at_ m r D y = 9 from if_neg (fun h => c1 ⟨h.1, h.2.1⟩))
   clear c1
   go_upto_region 6 with (first | (with_reducible refine L_pass (t := 38) rfl (by kernel_rfl) ?_) | (with_reducible refine L_pass (t := 39) rfl (by kernel_rfl) ?_) | (with_reducible refine L_pass (t := 40) rfl (by kernel_rfl) ?_) | (with_reducible refine L_pass (t := 43) rfl (by kernel_rfl) ?_) | (with_reducible refine L_pass (t := 44) rfl (by kernel_rfl) ?_) | (with_reducible refine L_pass (t := 45) rfl (by kernel_rfl) ?_) | (with_reducible refine L_pass (t := 46) rfl (by kernel_rfl) ?_) | (with_reducible refine L_pass (t := 49) rfl (by kernel_rfl) ?_) | (with_reducible refine L_pass (t := 50) rfl (by kernel_rfl) ?_) | (with_reducible refine L_pass (t := 53) rfl (by kernel_rfl) ?_) | (with_reducible refine L_pass (t := 54) rfl (by kernel_rfl) ?_) | (with_reducible refine L_pass (t := 55) rfl (by kernel_rfl) ?_) | (with_reducible refine L_pass (t := 56) rfl (by kernel_rfl) ?_) | (go_big_may; first | (refine L_buildNz (d := some 35) rfl rfl rfl ?_) | (refine L_neA (d := some 36) rfl rfl rfl eqG_Note (ev_tmp rfl) (ev_tmp rfl) (HE.out _) ?_) | ((refine L_loadM (d := some 34) rfl rfl rfl (by rfl) Tryz.underlying34 rfl el_api_Note (by (exact fdArr_note (hst.get 2 rfl))) (by (exact ntArr_size _ _ _)) ?_))))
   go_wp2_with (first | (refine L_buildNz (d := some 58) rfl rfl rfl ?_) | (refine wpl_at (.store 34 (.tmp 6) (.tmp 58)) rfl ?_; (refine L_storeA rfl rfl hst rfl (by rfl) (ev_tmp rfl) (by (exact ntArr_all _ _ _)) el_api_Note (by (rfl)) 1 rfl (by (rfl)) ?_; clear hst; intro WS2 hst; simp only [List.set_cons_zero, List.set_cons_succ] at hst)))
   refine bp_cell_tmp2 rfl rfl rfl rfl rfl (hst.get 1 rfl) Tryz.underlying34 rfl el_api_Note (ntArr_size _ _ _) ?_
   exact ⟨by rw [HR.out]; rfl, hst.forget⟩
  have HE := Lib.hid (fun w => show (Op.equalIn 10000 34 (.agg (ntArr [] a2 a3)) (.agg (ntArr [] zeroD 0))).run Tryz.prog w = .ok true w by rw [eqNote]; simp [c1])
  obtain ⟨c1, c2⟩ := c1
  by_cases c3 : at_ = 0
  case neg =>
   have HR := Lib.hid (show lookZ a2 a3 at_ m r D y = 9 from if_neg (fun h => c3 h.2.2.1))
   have c3' : (at_ != 0) = true := by simpa using c3
   clear c1 c2
   go_upto_region 6 with (first | (with_reducible refine L_pass (t := 43) rfl (by kernel_rfl) ?_) | (with_reducible refine L_pass (t := 44) rfl (by kernel_rfl) ?_) | (with_reducible refine L_pass (t := 45) rfl (by kernel_rfl) ?_) | (with_reducible refine L_pass (t := 46) rfl (by kernel_rfl) ?_) | (with_reducible refine L_pass (t := 49) rfl (by kernel_rfl) ?_) | (with_reducible refine L_pass (t := 50) rfl (by kernel_rfl) ?_) | (with_reducible refine L_pass (t := 53) rfl (by kernel_rfl) ?_) | (with_reducible refine L_pass (t := 54) rfl (by kernel_rfl) ?_) | (with_reducible refine L_pass (t := 55) rfl (by kernel_rfl) ?_) | (with_reducible refine L_pass (t := 56) rfl (by kernel_rfl) ?_) | (go_big_may; first | (refine L_buildNz (d := some 35) rfl rfl rfl ?_) | (refine L_neA (d := some 36) rfl rfl rfl eqG_Note (ev_tmp rfl) (ev_tmp rfl) (HE.out _) ?_) | ((refine L_loadM (d := some 34) rfl rfl rfl (by rfl) Tryz.underlying34 rfl el_api_Note (by (exact fdArr_note (hst.get 2 rfl))) (by (exact ntArr_size _ _ _)) ?_)) | (refine L_load1 (d := some 39) rfl rfl rfl (by rfl) Tryz.underlying3 rfl (by (exact cell_of (hst.get 2 rfl) fdArr_34)) ?_)))
   go_wp2_with (first | (refine L_buildNz (d := some 58) rfl rfl rfl ?_) | (refine wpl_at (.store 34 (.tmp 6) (.tmp 58)) rfl ?_; (refine L_storeA rfl rfl hst rfl (by rfl) (ev_tmp rfl) (by (exact ntArr_all _ _ _)) el_api_Note (by (rfl)) 1 rfl (by (rfl)) ?_; clear hst; intro WS2 hst; simp only [List.set_cons_zero, List.set_cons_succ] at hst)))
   refine bp_cell_tmp2 rfl rfl rfl rfl rfl (hst.get 1 rfl) Tryz.underlying34 rfl el_api_Note (ntArr_size _ _ _) ?_
   exact ⟨by rw [HR.out]; rfl, hst.forget⟩
  by_cases c4 : m = 0
  case neg =>
   have HR := Lib.hid (show lookZ a2 a3 at_ m r D y = 9 from if_neg (fun h => c4 h.2.2.2.1))
   subst c3
   have c4' : (0 : Int) < (m : Int) := by omega
   have c4'' : 0 < m := by omega
   clear c1 c2 c4
   go_upto_region 6 with (first | (with_reducible refine L_pass (t := 49) rfl (by kernel_rfl) ?_) | (with_reducible refine L_pass (t := 50) rfl (by kernel_rfl) ?_) | (with_reducible refine L_pass (t := 53) rfl (by kernel_rfl) ?_) | (with_reducible refine L_pass (t := 54) rfl (by kernel_rfl) ?_) | (with_reducible refine L_pass (t := 55) rfl (by kernel_rfl) ?_) | (with_reducible refine L_pass (t := 56) rfl (by kernel_rfl) ?_) | (go_big_may; first | (refine L_buildNz (d := some 35) rfl rfl rfl ?_) | (refine L_neA (d := some 36) rfl rfl rfl eqG_Note (ev_tmp rfl) (ev_tmp rfl) (HE.out _) ?_) | ((refine L_loadM (d := some 34) rfl rfl rfl (by rfl) Tryz.underlying34 rfl el_api_Note (by (exact fdArr_note (hst.get 2 rfl))) (by (exact ntArr_size _ _ _)) ?_)) | (refine L_load1 (d := some 39) rfl rfl rfl (by rfl) Tryz.underlying3 rfl (by (exact cell_of (hst.get 2 rfl) fdArr_34)) ?_) | (refine L_load1 (d := some 44) rfl rfl rfl (by rfl) Tryz.underlying44 rfl (by (exact cell_of (hst.get 2 rfl) fdArr_35)) ?_)))
   go_wp2_with (first | (refine L_buildNz (d := some 58) rfl rfl rfl ?_) | (refine wpl_at (.store 34 (.tmp 6) (.tmp 58)) rfl ?_; (refine L_storeA rfl rfl hst rfl (by rfl) (ev_tmp rfl) (by (exact ntArr_all _ _ _)) el_api_Note (by (rfl)) 1 rfl (by (rfl)) ?_; clear hst; intro WS2 hst; simp only [List.set_cons_zero, List.set_cons_succ] at hst)))
   refine bp_cell_tmp2 rfl rfl rfl rfl rfl (hst.get 1 rfl) Tryz.underlying34 rfl el_api_Note (ntArr_size _ _ _) ?_
   exact ⟨by rw [HR.out]; rfl, hst.forget⟩
  by_cases c5 : r = 0
  case neg =>
   have HR := Lib.hid (show lookZ a2 a3 at_ m r D y = 9 from if_neg (fun h => c5 h.2.2.2.2.1))
   have hE := HEE.out
   rw [if_neg c5] at hE
   unfold errV at hE
   subst hE
   subst c3
   subst c4
   clear c1 c2 HEE c5
   go_upto_region 6 with (first | (with_reducible refine L_pass (t := 53) rfl (by kernel_rfl) ?_) | (with_reducible refine L_pass (t := 54) rfl (by kernel_rfl) ?_) | (with_reducible refine L_pass (t := 55) rfl (by kernel_rfl) ?_) | (with_reducible refine L_pass (t := 56) rfl (by kernel_rfl) ?_) | (go_big_may; first | (refine L_buildNz (d := some 35) rfl rfl rfl ?_) | (refine L_neA (d := some 36) rfl rfl rfl eqG_Note (ev_tmp rfl) (ev_tmp rfl) (HE.out _) ?_) | ((refine L_loadM (d := some 34) rfl rfl rfl (by rfl) Tryz.underlying34 rfl el_api_Note (by (exact fdArr_note (hst.get 2 rfl))) (by (exact ntArr_size _ _ _)) ?_)) | (refine L_load1 (d := some 39) rfl rfl rfl (by rfl) Tryz.underlying3 rfl (by (exact cell_of (hst.get 2 rfl) fdArr_34)) ?_) | (refine L_load1 (d := some 44) rfl rfl rfl (by rfl) Tryz.underlying44 rfl (by (exact cell_of (hst.get 2 rfl) fdArr_35)) ?_)))
   go_wp2_with (first | (refine L_buildNz (d := some 58) rfl rfl rfl ?_) | (refine wpl_at (.store 34 (.tmp 6) (.tmp 58)) rfl ?_; (refine L_storeA rfl rfl hst rfl (by rfl) (ev_tmp rfl) (by (exact ntArr_all _ _ _)) el_api_Note (by (rfl)) 1 rfl (by (rfl)) ?_; clear hst; intro WS2 hst; simp only [List.set_cons_zero, List.set_cons_succ] at hst)))
   refine bp_cell_tmp2 rfl rfl rfl rfl rfl (hst.get 1 rfl) Tryz.underlying34 rfl el_api_Note (ntArr_size _ _ _) ?_
   exact ⟨by rw [HR.out]; rfl, hst.forget⟩
  have hE := HEE.out
  rw [if_pos c5] at hE
  subst hE
  by_cases c6 : D = y
  case neg =>
   have HR := Lib.hid (show lookZ a2 a3 at_ m r D y = 9 from if_neg (fun h => c6 h.2.2.2.2.2))
   have HD := Lib.hid (show (!decide (D = y)) = true by simp [c6])
   subst c3
   subst c4
   clear c1 c2 HEE c5 c6
   go_upto_region 6 with (go_big_may; first | (refine L_buildNz (d := some 35) rfl rfl rfl ?_) | (refine L_neA (d := some 36) rfl rfl rfl eqG_Note (ev_tmp rfl) (ev_tmp rfl) (HE.out _) ?_) | ((refine L_loadM (d := some 34) rfl rfl rfl (by rfl) Tryz.underlying34 rfl el_api_Note (by (exact fdArr_note (hst.get 2 rfl))) (by (exact ntArr_size _ _ _)) ?_)) | (refine L_load1 (d := some 39) rfl rfl rfl (by rfl) Tryz.underlying3 rfl (by (exact cell_of (hst.get 2 rfl) fdArr_34)) ?_) | (refine L_load1 (d := some 44) rfl rfl rfl (by rfl) Tryz.underlying44 rfl (by (exact cell_of (hst.get 2 rfl) fdArr_35)) ?_) | ((refine L_loadA (d := some 53) rfl rfl rfl (by rfl) Tryz.underlying32 rfl el_api_Digest (by (exact hst.get 0 rfl)) (by (exact Dig.size _)) ?_)) | ((refine L_loadM (d := some 55) rfl rfl rfl (by rfl) Tryz.underlying32 rfl el_api_Digest (by (exact hdArr_map (hst.get 3 rfl))) (by (exact Dig.size _)) ?_)) | (refine L_neD (d := some 56) rfl rfl rfl Tryz.underlying32 Tryz.underlying5 el_uint8 eqG_D (ev_tmp rfl) (ev_tmp rfl) ?_; (try rw [HD.out])))
   go_wp2_with (first | (refine L_buildNz (d := some 58) rfl rfl rfl ?_) | (refine wpl_at (.store 34 (.tmp 6) (.tmp 58)) rfl ?_; (refine L_storeA rfl rfl hst rfl (by rfl) (ev_tmp rfl) (by (exact ntArr_all _ _ _)) el_api_Note (by (rfl)) 1 rfl (by (rfl)) ?_; clear hst; intro WS2 hst; simp only [List.set_cons_zero, List.set_cons_succ] at hst)))
   refine bp_cell_tmp2 rfl rfl rfl rfl rfl (hst.get 1 rfl) Tryz.underlying34 rfl el_api_Note (ntArr_size _ _ _) ?_
   exact ⟨by rw [HR.out]; rfl, hst.forget⟩
  have HR := Lib.hid (show lookZ a2 a3 at_ m r D y = 0 from if_pos ⟨c1, c2, c3, c4, c5, c6⟩)
  have HD := Lib.hid (show (!decide (D = y)) = false by simp [c6])
  subst c3
  subst c4
  clear c1 c2 HEE c5 c6
  go_upto_region 7 with (go_big_may; first | (refine L_buildNz (d := some 35) rfl rfl rfl ?_) | (refine L_neA (d := some 36) rfl rfl rfl eqG_Note (ev_tmp rfl) (ev_tmp rfl) (HE.out _) ?_) | ((refine L_loadM (d := some 34) rfl rfl rfl (by rfl) Tryz.underlying34 rfl el_api_Note (by (exact fdArr_note (hst.get 2 rfl))) (by (exact ntArr_size _ _ _)) ?_)) | (refine L_load1 (d := some 39) rfl rfl rfl (by rfl) Tryz.underlying3 rfl (by (exact cell_of (hst.get 2 rfl) fdArr_34)) ?_) | (refine L_load1 (d := some 44) rfl rfl rfl (by rfl) Tryz.underlying44 rfl (by (exact cell_of (hst.get 2 rfl) fdArr_35)) ?_) | ((refine L_loadA (d := some 53) rfl rfl rfl (by rfl) Tryz.underlying32 rfl el_api_Digest (by (exact hst.get 0 rfl)) (by (exact Dig.size _)) ?_)) | ((refine L_loadM (d := some 55) rfl rfl rfl (by rfl) Tryz.underlying32 rfl el_api_Digest (by (exact hdArr_map (hst.get 3 rfl))) (by (exact Dig.size _)) ?_)) | (refine L_neD (d := some 56) rfl rfl rfl Tryz.underlying32 Tryz.underlying5 el_uint8 eqG_D (ev_tmp rfl) (ev_tmp rfl) ?_; (try rw [HD.out])))
  go_wp2_with (first | (refine L_buildNz (d := some 60) rfl rfl rfl ?_) | (refine wpl_at (.store 34 (.tmp 6) (.tmp 60)) rfl ?_; (refine L_storeA rfl rfl hst rfl (by rfl) (ev_tmp rfl) (by (exact ntArr_all _ _ _)) el_api_Note (by (rfl)) 1 rfl (by (rfl)) ?_; clear hst; intro WS1 hst; simp only [List.set_cons_zero, List.set_cons_succ] at hst)))
  refine bp_cell_tmp2 rfl rfl rfl rfl rfl (hst.get 1 rfl) Tryz.underlying34 rfl el_api_Note (ntArr_size _ _ _) ?_
  exact ⟨by rw [HR.out]; rfl, hst.forget⟩
end Go.Proofs.YtaebeemnipafbaaGreatDoor

set_option linter.unusedSimpArgs false
set_option linter.unusedVariables false
namespace Go.Proofs.YtaebeemnipafbaaGreatDoor
open Go.RowKit
set_option maxHeartbeats 16000000 in
set_option maxRecDepth 100000 in
theorem look_bad (n : Int) (x y z : Dig) (s : List UInt8) (nt : NoteN) (at_ : Int) (A : Option Addr) (m c : Nat) (B : Option Addr) (p q : Nat) (w : World) (hs : isNm s = true) (h0 : nt.name ≠ []) (hok : noteOk nt = false) (hn1 : -9223372036854775808 ≤ nt.turn) (hn2 : nt.turn ≤ 9223372036854775807) :
  Calls Tryz.prog 22 #[.agg (hdArr n x y z), .string (bsOf s), .agg (fdArr nt.name nt.key nt.turn at_ A m c B p q)] w fun e w' => e = .returned (.tuple #[.agg (ntArr [] zeroD 0), .bool false, errV 9]) ∧ St w w' [] := by
 have hst := St.refl w
 have HN := Lib.hid (fun w => by have := named_any s w; rw [hs] at this; exact this)
 have hb := bsOf_cons h0
 have HL := Lib.hid (fun w => leafOf_no nt w hok hn1 hn2)
 obtain ⟨a1, a2, a3⟩ := nt
 simp only at *
 clear hs h0 hok hn1 hn2
 go_enter Tryz.func22, Tryz.ntmps22
 go_upto_region 1 with (go_big_may; first | (refine L_boxA (d := some 3) rfl rfl rfl (ev_tmp rfl) ?_; (try clear hnew); intro g3 W3 hnew; replace hst := hst.trans hnew; simp only [List.cons_append, List.nil_append] at hst) | (refine L_boxA (d := some 5) rfl rfl rfl (ev_tmp rfl) ?_; (try clear hnew); intro g5 W5 hnew; replace hst := hst.trans hnew; simp only [List.cons_append, List.nil_append] at hst) | (refine L_allocA (d := some 6) rfl rfl rfl el_api_Note ?_; (try clear hnew); intro g6 W6 hnew; replace hst := hst.trans hnew; simp only [List.cons_append, List.nil_append] at hst))
 go_upto_region 3 with (go_big_may; (go_at_call 34; (try clear hnew); refine (HN.out _).mono ?_; rintro e Wk1 ⟨rfl, hnew⟩; replace hst := hst.keep hnew))
 go_upto_region 8 with (go_big_may; (refine L_load1 (d := some 22) rfl rfl rfl (by rfl) Tryz.underlying9 rfl (by (exact cell_of (hst.get 1 rfl) fdArr_0)) ?_))
 go_upto_region 9 with (go_big_may; first | (go_at_call 36; (try clear hnew); refine (HL.out _).mono ?_; unfold errV; rintro e Wf ⟨r, hr, rfl, hnew⟩; replace hst := hst.keep hnew) | ((refine L_loadM (d := some 63) rfl rfl rfl (by rfl) Tryz.underlying34 rfl el_api_Note (by (exact fdArr_note (hst.get 1 rfl))) (by (exact ntArr_size _ _ _)) ?_)) | (refine L_allocA (d := some 11) rfl rfl rfl el_api_Digest ?_; (try clear hnew); intro g11 W11 hnew; replace hst := hst.trans hnew; simp only [List.cons_append, List.nil_append] at hst) | (refine wpl_at (.store 32 (.tmp 11) (.tmp 65)) rfl ?_; (refine L_storeA rfl rfl hst rfl (by rfl) (ev_tmp rfl) (by (exact Dig.one _)) el_api_Digest (by (rfl)) 0 rfl (by (rfl)) ?_; clear hst; intro WS7 hst; simp only [List.set_cons_zero, List.set_cons_succ] at hst)))
 go_upto_region 10 with (first | (with_reducible refine L_pass (t := 70) rfl (by kernel_rfl) ?_) | (with_reducible refine L_pass (t := 71) rfl (by kernel_rfl) ?_) | (with_reducible refine L_pass (t := 72) rfl (by kernel_rfl) ?_) | (with_reducible refine L_pass (t := 73) rfl (by kernel_rfl) ?_) | (with_reducible refine L_pass (t := 74) rfl (by kernel_rfl) ?_))
 go_wp2_with (first | (refine L_buildNz (d := some 76) rfl rfl rfl ?_) | (refine wpl_at (.store 34 (.tmp 6) (.tmp 76)) rfl ?_; (refine L_storeA rfl rfl hst rfl (by rfl) (ev_tmp rfl) (by (exact ntArr_all _ _ _)) el_api_Note (by (rfl)) 1 rfl (by (rfl)) ?_; clear hst; intro WS2 hst; simp only [List.set_cons_zero, List.set_cons_succ] at hst)))
 refine bp_cell_tmp2 rfl rfl rfl rfl rfl (hst.get 1 rfl) Tryz.underlying34 rfl el_api_Note (ntArr_size _ _ _) ?_
 exact ⟨rfl, hst.forget⟩
set_option maxHeartbeats 16000000 in
set_option maxRecDepth 100000 in
theorem look_other (n : Int) (x y z : Dig) (s : List UInt8) (nt : NoteN) (at_ : Int) (A : Option Addr) (m c : Nat) (B : Option Addr) (p q : Nat) (w : World) (hT : Tb w) (hs : isNm s = true) (h0 : nt.name ≠ []) (hok : noteOk nt = true) (hns : ¬ nt.name = s) :
  Calls Tryz.prog 22 #[.agg (hdArr n x y z), .string (bsOf s), .agg (fdArr nt.name nt.key nt.turn at_ A m c B p q)] w fun e w' => e = .returned (.tuple #[.agg (ntArr [] zeroD 0), .bool false, errV 9]) ∧ St w w' [] := by
 have hst := St.refl w
 have HN := Lib.hid (fun w => by have := named_any s w; rw [hs] at this; exact this)
 have hb := bsOf_cons h0
 have HT := Lib.hid hT
 have HL := Lib.hid (fun w hT => leafOf_any nt w hT hok)
 have HS := Lib.hid (show (!decide (nt.name = s)) = true by simp [hns])
 generalize ntLeaf nt = lf at *
 obtain ⟨a1, a2, a3⟩ := nt
 simp only at *
 clear hT hs h0 hok hns
 go_enter Tryz.func22, Tryz.ntmps22
 go_upto_region 1 with (go_big_may; first | (refine L_boxA (d := some 3) rfl rfl rfl (ev_tmp rfl) ?_; (try clear hnew); intro g3 W3 hnew; replace hst := hst.trans hnew; simp only [List.cons_append, List.nil_append] at hst) | (refine L_boxA (d := some 5) rfl rfl rfl (ev_tmp rfl) ?_; (try clear hnew); intro g5 W5 hnew; replace hst := hst.trans hnew; simp only [List.cons_append, List.nil_append] at hst) | (refine L_allocA (d := some 6) rfl rfl rfl el_api_Note ?_; (try clear hnew); intro g6 W6 hnew; replace hst := hst.trans hnew; simp only [List.cons_append, List.nil_append] at hst))
 go_upto_region 3 with (go_big_may; (go_at_call 34; (try clear hnew); refine (HN.out _).mono ?_; rintro e Wk2 ⟨rfl, hnew⟩; replace hst := hst.keep hnew))
 go_upto_region 8 with (go_big_may; (refine L_load1 (d := some 22) rfl rfl rfl (by rfl) Tryz.underlying9 rfl (by (exact cell_of (hst.get 1 rfl) fdArr_0)) ?_))
 go_upto_region 9 with (go_big_may; first | (go_at_call 36; (try clear hnew); refine (HL.out _ (HT.out.of hst)).mono ?_; rintro e Wk3 ⟨rfl, hnew⟩; replace hst := hst.keep hnew) | ((refine L_loadM (d := some 63) rfl rfl rfl (by rfl) Tryz.underlying34 rfl el_api_Note (by (exact fdArr_note (hst.get 1 rfl))) (by (exact ntArr_size _ _ _)) ?_)) | (refine L_allocA (d := some 11) rfl rfl rfl el_api_Digest ?_; (try clear hnew); intro g11 W11 hnew; replace hst := hst.trans hnew; simp only [List.cons_append, List.nil_append] at hst) | (refine wpl_at (.store 32 (.tmp 11) (.tmp 65)) rfl ?_; (refine L_storeA rfl rfl hst rfl (by rfl) (ev_tmp rfl) (by (exact Dig.one _)) el_api_Digest (by (exact Dig.size _)) 0 rfl (by (rfl)) ?_; clear hst; intro WS7 hst; simp only [List.set_cons_zero, List.set_cons_succ] at hst)))
 go_upto_region 10 with (go_big_may; first | (refine L_load1 (d := some 72) rfl rfl rfl (by rfl) Tryz.underlying9 rfl (by (exact cell_of (hst.get 2 rfl) fdArr_0)) ?_) | (refine L_neStr (d := some 74) rfl rfl rfl eqG_str Tryz.underlying9 (ev_tmp rfl) (ev_tmp rfl) ?_; (try rw [HS.out])))
 go_wp2_with (first | (refine L_buildNz (d := some 76) rfl rfl rfl ?_) | (refine wpl_at (.store 34 (.tmp 6) (.tmp 76)) rfl ?_; (refine L_storeA rfl rfl hst rfl (by rfl) (ev_tmp rfl) (by (exact ntArr_all _ _ _)) el_api_Note (by (rfl)) 1 rfl (by (rfl)) ?_; clear hst; intro WS2 hst; simp only [List.set_cons_zero, List.set_cons_succ] at hst)))
 refine bp_cell_tmp2 rfl rfl rfl rfl rfl (hst.get 1 rfl) Tryz.underlying34 rfl el_api_Note (ntArr_size _ _ _) ?_
 exact ⟨rfl, hst.forget⟩
def lookW (r r2 : Nat) (D y R x : Dig) (na : Array Value) : Value := if r = 0 ∧ D = y ∧ r2 = 0 ∧ R = x then .tuple #[.agg na, .bool true, .nilIface] else .tuple #[.agg (ntArr [] zeroD 0), .bool false, errV 9]
set_option maxHeartbeats 16000000 in
set_option maxRecDepth 100000 in
theorem look_has (n : Int) (x y z : Dig) (s : List UInt8) (nt : NoteN) (at_ : Int) (A : Option Addr) (pt : List Dig) (m c : Nat) (B : Option Addr) (ps : List Dig) (p q : Nat) (w : World) (hT : Tb w) (hs : isNm s = true) (hz : SlR w A m c 32 (digsL pt)) (hx : SlR w B p q 32 (digsL ps)) (h0 : nt.name ≠ []) (hok : noteOk nt = true) (hns : nt.name = s) :
  Calls Tryz.prog 22 #[.agg (hdArr n x y z), .string (bsOf s), .agg (fdArr nt.name nt.key nt.turn at_ A m c B p q)] w fun e w' => e = .returned (lookW (mfE ps) (tfE at_ n pt.length) (mfD s (eLeaf (idxN s) (ntLeaf nt)) ps) y (tfD (ntLeaf nt) at_ n pt) x nt.arr) ∧ St w w' [] := by
 have hst := St.refl w
 have HN := Lib.hid (fun w => by have := named_any s w; rw [hs] at this; exact this)
 have hb := bsOf_cons h0
 have HT := Lib.hid hT
 have HX := Lib.hid hx
 have HZ := Lib.hid hz
 have HL := Lib.hid (fun w hT => leafOf_any nt w hT hok)
 have HI := Lib.hid (fun (w' : World) (h : Tb w') => index_any s w' h (by have := isNm_len hs; omega))
 have HEn0 := Lib.hid (fun (d : Dig) (w' : World) (h : Tb w') => entry_any s d w' h (by have := isNm_len hs; omega))
 have HF0 := Lib.hid (fun (l : Dig) (w' : World) (ht : Tb w') (h : SlR w' B p q 32 (digsL ps)) => tfoldU_any s l ps B p q w' ht h)
 have HTF0 := Lib.hid (fun (l : Dig) (w' : World) (ht : Tb w') (h : SlR w' A m c 32 (digsL pt)) => treeFoldU_any l pt A m c at_ n w' ht h)
 have HS := Lib.hid (show (!decide (nt.name = s)) = false by simp [hns])
 have HNT := Lib.hid (show nt.arr = ntArr nt.name nt.key nt.turn from rfl)
 generalize nt.arr = na at *
 generalize ntLeaf nt = lf at *
 obtain ⟨a1, a2, a3⟩ := nt
 simp only at *
 obtain ⟨el, hel⟩ : ∃ el, el = eLeaf (idxN s) lf := ⟨_, rfl⟩
 rw [← hel]
 have HEn := Lib.hid (fun (w' : World) (h : Tb w') => by have := HEn0.out lf w' h; rw [← hel] at this; exact this)
 have HF := Lib.hid (HF0.out el)
 have HTF := Lib.hid (HTF0.out lf)
 clear HEn0 HF0 HTF0
 generalize mfD s el ps = D at *
 generalize tfD lf at_ n pt = R at *
 obtain ⟨r, hr⟩ : ∃ r, r = mfE ps := ⟨_, rfl⟩
 rw [← hr] at HF ⊢
 have HEE := Lib.hid (show errO r = if r = 0 then .nilIface else errV r by unfold errO; rfl)
 obtain ⟨r2, hr2⟩ : ∃ r, r = tfE at_ n pt.length := ⟨_, rfl⟩
 rw [← hr2] at HTF ⊢
 have HEE2 := Lib.hid (show errO r2 = if r2 = 0 then .nilIface else errV r2 by unfold errO; rfl)
 generalize idxN s = ix at *
 clear hT hs hx hz h0 hok hns hr hr2 hel
 go_enter Tryz.func22, Tryz.ntmps22
 go_upto_region 1 with (go_big_may; first | (refine L_boxA (d := some 3) rfl rfl rfl (ev_tmp rfl) ?_; (try clear hnew); intro g3 W3 hnew; replace hst := hst.trans hnew; simp only [List.cons_append, List.nil_append] at hst) | (refine L_boxA (d := some 5) rfl rfl rfl (ev_tmp rfl) ?_; (try clear hnew); intro g5 W5 hnew; replace hst := hst.trans hnew; simp only [List.cons_append, List.nil_append] at hst) | (refine L_allocA (d := some 6) rfl rfl rfl el_api_Note ?_; (try clear hnew); intro g6 W6 hnew; replace hst := hst.trans hnew; simp only [List.cons_append, List.nil_append] at hst))
 go_upto_region 3 with (go_big_may; (go_at_call 34; (try clear hnew); refine (HN.out _).mono ?_; rintro e Wk4 ⟨rfl, hnew⟩; replace hst := hst.keep hnew))
 go_upto_region 8 with (go_big_may; (refine L_load1 (d := some 22) rfl rfl rfl (by rfl) Tryz.underlying9 rfl (by (exact cell_of (hst.get 1 rfl) fdArr_0)) ?_))
 go_upto_region 9 with (go_big_may; first | (go_at_call 36; (try clear hnew); refine (HL.out _ (HT.out.of hst)).mono ?_; rintro e Wk5 ⟨rfl, hnew⟩; replace hst := hst.keep hnew) | ((refine L_loadM (d := some 63) rfl rfl rfl (by rfl) Tryz.underlying34 rfl el_api_Note (by (exact fdArr_note (hst.get 1 rfl))) (by (exact ntArr_size _ _ _)) ?_)) | (refine L_allocA (d := some 11) rfl rfl rfl el_api_Digest ?_; (try clear hnew); intro g11 W11 hnew; replace hst := hst.trans hnew; simp only [List.cons_append, List.nil_append] at hst) | (refine wpl_at (.store 32 (.tmp 11) (.tmp 65)) rfl ?_; (refine L_storeA rfl rfl hst rfl (by rfl) (ev_tmp rfl) (by (exact Dig.one _)) el_api_Digest (by (exact Dig.size _)) 0 rfl (by (rfl)) ?_; clear hst; intro WS7 hst; simp only [List.set_cons_zero, List.set_cons_succ] at hst)))
 go_upto_region 11 with (go_big_may; first | (refine L_load1 (d := some 72) rfl rfl rfl (by rfl) Tryz.underlying9 rfl (by (exact cell_of (hst.get 2 rfl) fdArr_0)) ?_) | (refine L_neStr (d := some 74) rfl rfl rfl eqG_str Tryz.underlying9 (ev_tmp rfl) (ev_tmp rfl) ?_; (try rw [HS.out])))
 generalize errO r = E at *
 generalize errO r2 = E2 at *
 go_cut [13, 12] (fun s13 s12 wx => ∃ g13, s13 = .pointer (some ⟨g13, 0, none⟩) ∧ s12 = E ∧ St w wx [.blk g13 32 D.arr, .blk g11 32 lf.arr, .blk g6 34 (ntArr [] zeroD 0), .blk g5 46 (fdArr a1 a2 a3 at_ A m c B p q), .blk g3 41 (hdArr n x y z)])
 case first =>
  refine wp_region_pm (.one 0 3 (.one 2 3 (.one 3 0 (.one 5 0 (.one 6 0 (.two 1 2 (.two 4 2 (.two 7 2 (.one 8 3 (.one 9 3 (.one 10 3 (.one 11 2 (.one 12 1 (.one 13 2 .nil)))))) 11 2 (.one 7 2 (.one 8 2 (.one 9 3 (.one 10 3 (.one 12 1 (.one 13 2 .nil))))))) 11 2 (.one 4 2 (.one 7 2 (.one 8 2 (.one 9 3 (.one 10 3 (.one 12 1 (.one 13 2 .nil)))))))) 11 2 (.one 1 2 (.one 4 2 (.one 7 2 (.one 8 2 (.one 9 3 (.one 10 3 (.one 12 1 (.one 13 2 .nil)))))))))))))) (by kernel_rfl) (by kernel_rfl) ?_
  replace hst := hst.drew
  refine pm_p rfl rfl ?_; go_wp2_with fail
  refine pm_p rfl rfl ?_; go_wp2_with fail
  refine pm_q rfl rfl ?_; go_wp2_with (((refine L_loadA (d := some 82) rfl rfl rfl (by rfl) Tryz.underlying32 rfl el_api_Digest (by (exact hst.get 0 rfl)) (by (exact Dig.size _)) ?_)))
  refine pm_qf rfl rfl (by kernel_rfl) ?_; go_wp2_with fail
  refine pm_q rfl rfl ?_; go_wp2_with ((refine L_load1 (d := some 85) rfl rfl rfl (by rfl) Tryz.underlying44 rfl (by (exact cell_of (hst.get 2 rfl) fdArr_36)) ?_))
  refine pm_two (ki := 2) (kj := 2) rfl rfl ?_ ?_
  ·go_wp2_with ((go_at_call 35; (try clear hnew); refine (HI.out _ (HT.out.of hst)).mono ?_; rintro e Wk6 ⟨rfl, hnew⟩; replace hst := hst.keep hnew)); refine ⟨fun _ => (by (exact hnew.below)), ?_⟩
   refine pm_two (ki := 2) (kj := 2) rfl rfl ?_ ?_
   ·go_wp2_with ((go_at_call 58; (try clear hnew); refine (HEn.out _ (HT.out.of hst)).mono ?_; rintro e Wk7 ⟨rfl, hnew⟩; replace hst := hst.keep hnew)); refine ⟨fun _ => (by (exact hnew.below)), ?_⟩
    refine pm_two (ki := 2) (kj := 2) rfl rfl ?_ ?_
    ·go_wp2_with ((go_at_call 57; (try clear hnew); refine (HF.out _ (HT.out.of hst) (hst.old (by decide) HX.out)).mono ?_; rintro e Wk8 ⟨rfl, hnew⟩; replace hst := hst.keep hnew)); refine ⟨fun _ => (by (exact hnew.below)), ?_⟩
     refine pm_p rfl rfl ?_; go_wp2_with fail
     refine pm_p rfl rfl ?_; go_wp2_with fail
     refine pm_p rfl rfl ?_; go_wp2_with fail
     refine pm_g rfl ?_; go_wp2_with ((refine L_allocA (d := some 13) rfl rfl rfl el_api_Digest ?_; (try clear hnew); intro g13 W13 hnew; replace hst := hst.trans hnew; simp only [List.cons_append, List.nil_append] at hst)); refine ⟨by (exact hnew.below), ?_⟩
     refine pm_e rfl ?_; go_wp2_with ((refine wpl_at (.store 32 (.tmp 13) (.tmp 87)) rfl ?_; (refine L_storeA rfl rfl hst rfl (by rfl) (ev_tmp rfl) (by (exact Dig.one _)) el_api_Digest (by (exact Dig.size _)) 0 rfl (by (rfl)) ?_; clear hst; intro WS12 hst; simp only [List.set_cons_zero, List.set_cons_succ] at hst)))
     refine pm_g rfl ?_; go_wp2_with fail; refine ⟨by (exact Below.refl _ _), ?_⟩
     refine pm_nil ?_
     go_wp2_with fail
     go_meet
     case rel => exact ⟨_, rfl, rfl, hst.pick [0, 1, 2, 3, 4] (by decide)⟩
    ·go_wp2_with ((refine L_allocA (d := some 13) rfl rfl rfl el_api_Digest ?_; (try clear hnew); intro g13 W13 hnew; replace hst := hst.trans hnew; simp only [List.cons_append, List.nil_append] at hst)); refine ⟨fun _ => (by (exact hnew.below)), ?_⟩
     refine pm_g rfl ?_; go_wp2_with ((go_at_call 57; (try clear hnew); refine (HF.out _ (HT.out.of hst) (hst.old (by decide) HX.out)).mono ?_; rintro e Wk8 ⟨rfl, hnew⟩; replace hst := hst.keep hnew)); refine ⟨by (exact hnew.below), ?_⟩
     refine pm_g rfl ?_; go_wp2_with fail; refine ⟨by (exact Below.refl _ _), ?_⟩
     refine pm_p rfl rfl ?_; go_wp2_with fail
     refine pm_p rfl rfl ?_; go_wp2_with fail
     refine pm_e rfl ?_; go_wp2_with ((refine wpl_at (.store 32 (.tmp 13) (.tmp 87)) rfl ?_; (refine L_storeA rfl rfl hst rfl (by rfl) (ev_tmp rfl) (by (exact Dig.one _)) el_api_Digest (by (exact Dig.size _)) 0 rfl (by (rfl)) ?_; clear hst; intro WS12 hst; simp only [List.set_cons_zero, List.set_cons_succ] at hst)))
     refine pm_g rfl ?_; go_wp2_with fail; refine ⟨by (exact Below.refl _ _), ?_⟩
     refine pm_nil ?_
     go_wp2_with fail
     go_meet
     case rel => exact ⟨_, rfl, rfl, hst.pick [0, 1, 2, 3, 4] (by decide)⟩
   ·go_wp2_with ((refine L_allocA (d := some 13) rfl rfl rfl el_api_Digest ?_; (try clear hnew); intro g13 W13 hnew; replace hst := hst.trans hnew; simp only [List.cons_append, List.nil_append] at hst)); refine ⟨fun _ => (by (exact hnew.below)), ?_⟩
    refine pm_g rfl ?_; go_wp2_with ((go_at_call 58; (try clear hnew); refine (HEn.out _ (HT.out.of hst)).mono ?_; rintro e Wk7 ⟨rfl, hnew⟩; replace hst := hst.keep hnew)); refine ⟨by (exact hnew.below), ?_⟩
    refine pm_g rfl ?_; go_wp2_with ((go_at_call 57; (try clear hnew); refine (HF.out _ (HT.out.of hst) (hst.old (by decide) HX.out)).mono ?_; rintro e Wk8 ⟨rfl, hnew⟩; replace hst := hst.keep hnew)); refine ⟨by (exact hnew.below), ?_⟩
    refine pm_g rfl ?_; go_wp2_with fail; refine ⟨by (exact Below.refl _ _), ?_⟩
    refine pm_p rfl rfl ?_; go_wp2_with fail
    refine pm_p rfl rfl ?_; go_wp2_with fail
    refine pm_e rfl ?_; go_wp2_with ((refine wpl_at (.store 32 (.tmp 13) (.tmp 87)) rfl ?_; (refine L_storeA rfl rfl hst rfl (by rfl) (ev_tmp rfl) (by (exact Dig.one _)) el_api_Digest (by (exact Dig.size _)) 0 rfl (by (rfl)) ?_; clear hst; intro WS12 hst; simp only [List.set_cons_zero, List.set_cons_succ] at hst)))
    refine pm_g rfl ?_; go_wp2_with fail; refine ⟨by (exact Below.refl _ _), ?_⟩
    refine pm_nil ?_
    go_wp2_with fail
    go_meet
    case rel => exact ⟨_, rfl, rfl, hst.pick [0, 1, 2, 3, 4] (by decide)⟩
  ·go_wp2_with ((refine L_allocA (d := some 13) rfl rfl rfl el_api_Digest ?_; (try clear hnew); intro g13 W13 hnew; replace hst := hst.trans hnew; simp only [List.cons_append, List.nil_append] at hst)); refine ⟨fun _ => (by (exact hnew.below)), ?_⟩
   refine pm_g rfl ?_; go_wp2_with ((go_at_call 35; (try clear hnew); refine (HI.out _ (HT.out.of hst)).mono ?_; rintro e Wk6 ⟨rfl, hnew⟩; replace hst := hst.keep hnew)); refine ⟨by (exact hnew.below), ?_⟩
   refine pm_g rfl ?_; go_wp2_with ((go_at_call 58; (try clear hnew); refine (HEn.out _ (HT.out.of hst)).mono ?_; rintro e Wk7 ⟨rfl, hnew⟩; replace hst := hst.keep hnew)); refine ⟨by (exact hnew.below), ?_⟩
   refine pm_g rfl ?_; go_wp2_with ((go_at_call 57; (try clear hnew); refine (HF.out _ (HT.out.of hst) (hst.old (by decide) HX.out)).mono ?_; rintro e Wk8 ⟨rfl, hnew⟩; replace hst := hst.keep hnew)); refine ⟨by (exact hnew.below), ?_⟩
   refine pm_g rfl ?_; go_wp2_with fail; refine ⟨by (exact Below.refl _ _), ?_⟩
   refine pm_p rfl rfl ?_; go_wp2_with fail
   refine pm_p rfl rfl ?_; go_wp2_with fail
   refine pm_e rfl ?_; go_wp2_with ((refine wpl_at (.store 32 (.tmp 13) (.tmp 87)) rfl ?_; (refine L_storeA rfl rfl hst rfl (by rfl) (ev_tmp rfl) (by (exact Dig.one _)) el_api_Digest (by (exact Dig.size _)) 0 rfl (by (rfl)) ?_; clear hst; intro WS12 hst; simp only [List.set_cons_zero, List.set_cons_succ] at hst)))
   refine pm_g rfl ?_; go_wp2_with fail; refine ⟨by (exact Below.refl _ _), ?_⟩
   refine pm_nil ?_
   go_wp2_with fail
   go_meet
   case rel => exact ⟨_, rfl, rfl, hst.pick [0, 1, 2, 3, 4] (by decide)⟩
 case rest =>
  obtain ⟨g13, rfl, rfl, hst⟩ := hcut
  clear HF HI HN HL HEn HS HX
  by_cases c5 : r = 0
  case neg =>
   have HR := Lib.hid (show lookW r r2 D y R x na = .tuple #[.agg (ntArr [] zeroD 0), .bool false, errV 9] from if_neg (fun h => c5 h.1))
   have hE := HEE.out
   rw [if_neg c5] at hE
   unfold errV at hE
   subst hE
   clear HEE c5
   go_upto_region 13 with (first | (with_reducible refine L_pass (t := 92) rfl (by kernel_rfl) ?_) | (with_reducible refine L_pass (t := 93) rfl (by kernel_rfl) ?_) | (with_reducible refine L_pass (t := 94) rfl (by kernel_rfl) ?_) | (with_reducible refine L_pass (t := 95) rfl (by kernel_rfl) ?_))
   go_wp2_with (first | (refine L_buildNz (d := some 97) rfl rfl rfl ?_) | (refine wpl_at (.store 34 (.tmp 6) (.tmp 97)) rfl ?_; (refine L_storeA rfl rfl hst rfl (by rfl) (ev_tmp rfl) (by (exact ntArr_all _ _ _)) el_api_Note (by (rfl)) 2 rfl (by (rfl)) ?_; clear hst; intro WS2 hst; simp only [List.set_cons_zero, List.set_cons_succ] at hst)))
   refine bp_cell_tmp2 rfl rfl rfl rfl rfl (hst.get 2 rfl) Tryz.underlying34 rfl el_api_Note (ntArr_size _ _ _) ?_
   exact ⟨by rw [HR.out]; rfl, hst.forget⟩
  have hE := HEE.out
  rw [if_pos c5] at hE
  subst hE
  by_cases c6 : D = y
  case neg =>
   have HR := Lib.hid (show lookW r r2 D y R x na = .tuple #[.agg (ntArr [] zeroD 0), .bool false, errV 9] from if_neg (fun h => c6 h.2.1))
   have HD := Lib.hid (show (!decide (D = y)) = true by simp [c6])
   clear HEE c5 c6
   go_upto_region 13 with (go_big_may; first | ((refine L_loadA (d := some 92) rfl rfl rfl (by rfl) Tryz.underlying32 rfl el_api_Digest (by (exact hst.get 0 rfl)) (by (exact Dig.size _)) ?_)) | ((refine L_loadM (d := some 94) rfl rfl rfl (by rfl) Tryz.underlying32 rfl el_api_Digest (by (exact hdArr_map (hst.get 4 rfl))) (by (exact Dig.size _)) ?_)) | (refine L_neD (d := some 95) rfl rfl rfl Tryz.underlying32 Tryz.underlying5 el_uint8 eqG_D (ev_tmp rfl) (ev_tmp rfl) ?_; (try rw [HD.out])))
   go_wp2_with (first | (refine L_buildNz (d := some 97) rfl rfl rfl ?_) | (refine wpl_at (.store 34 (.tmp 6) (.tmp 97)) rfl ?_; (refine L_storeA rfl rfl hst rfl (by rfl) (ev_tmp rfl) (by (exact ntArr_all _ _ _)) el_api_Note (by (rfl)) 2 rfl (by (rfl)) ?_; clear hst; intro WS2 hst; simp only [List.set_cons_zero, List.set_cons_succ] at hst)))
   refine bp_cell_tmp2 rfl rfl rfl rfl rfl (hst.get 2 rfl) Tryz.underlying34 rfl el_api_Note (ntArr_size _ _ _) ?_
   exact ⟨by rw [HR.out]; rfl, hst.forget⟩
  have HD := Lib.hid (show (!decide (D = y)) = false by simp [c6])
  by_cases c7 : r2 = 0
  case neg =>
   have HR := Lib.hid (show lookW r r2 D y R x na = .tuple #[.agg (ntArr [] zeroD 0), .bool false, errV 9] from if_neg (fun h => c7 h.2.2.1))
   have hE := HEE2.out
   rw [if_neg c7] at hE
   unfold errV at hE
   subst hE
   clear HEE HEE2 c5 c6 c7
   go_upto_region 14 with (go_big_may; first | ((refine L_loadA (d := some 92) rfl rfl rfl (by rfl) Tryz.underlying32 rfl el_api_Digest (by (exact hst.get 0 rfl)) (by (exact Dig.size _)) ?_)) | ((refine L_loadM (d := some 94) rfl rfl rfl (by rfl) Tryz.underlying32 rfl el_api_Digest (by (exact hdArr_map (hst.get 4 rfl))) (by (exact Dig.size _)) ?_)) | (refine L_neD (d := some 95) rfl rfl rfl Tryz.underlying32 Tryz.underlying5 el_uint8 eqG_D (ev_tmp rfl) (ev_tmp rfl) ?_; (try rw [HD.out])))
   go_upto_region 15 with (go_big_may; first | (go_at_call 59; (try clear hnew); refine (HTF.out _ (HT.out.of hst) (hst.old (by decide) HZ.out)).mono ?_; rintro e Wk9 ⟨rfl, hnew⟩; replace hst := hst.keep hnew) | ((refine L_loadA (d := some 100) rfl rfl rfl (by rfl) Tryz.underlying32 rfl el_api_Digest (by (exact hst.get 1 rfl)) (by (exact Dig.size _)) ?_)) | (refine L_load1 (d := some 102) rfl rfl rfl (by rfl) Tryz.underlying3 rfl (by (exact cell_of (hst.get 3 rfl) fdArr_34)) ?_) | (refine L_load1 (d := some 104) rfl rfl rfl (by rfl) Tryz.underlying3 rfl (by (exact cell_of (hst.get 4 rfl) hdArr_0)) ?_) | (refine L_load1 (d := some 106) rfl rfl rfl (by rfl) Tryz.underlying44 rfl (by (exact cell_of (hst.get 3 rfl) fdArr_35)) ?_) | (refine L_allocA (d := some 14) rfl rfl rfl el_api_Digest ?_; (try clear hnew); intro g14 W14 hnew; replace hst := hst.trans hnew; simp only [List.cons_append, List.nil_append] at hst) | (refine wpl_at (.store 32 (.tmp 14) (.tmp 108)) rfl ?_; (refine L_storeA rfl rfl hst rfl (by rfl) (ev_tmp rfl) (by (exact Dig.one _)) el_api_Digest (by (exact Dig.size _)) 0 rfl (by (rfl)) ?_; clear hst; intro WS12 hst; simp only [List.set_cons_zero, List.set_cons_succ] at hst)))
   go_upto_region 16 with (first | (with_reducible refine L_pass (t := 113) rfl (by kernel_rfl) ?_) | (with_reducible refine L_pass (t := 114) rfl (by kernel_rfl) ?_) | (with_reducible refine L_pass (t := 115) rfl (by kernel_rfl) ?_) | (with_reducible refine L_pass (t := 116) rfl (by kernel_rfl) ?_))
   go_wp2_with (first | (refine L_buildNz (d := some 118) rfl rfl rfl ?_) | (refine wpl_at (.store 34 (.tmp 6) (.tmp 118)) rfl ?_; (refine L_storeA rfl rfl hst rfl (by rfl) (ev_tmp rfl) (by (exact ntArr_all _ _ _)) el_api_Note (by (rfl)) 3 rfl (by (rfl)) ?_; clear hst; intro WS2 hst; simp only [List.set_cons_zero, List.set_cons_succ] at hst)))
   refine bp_cell_tmp2 rfl rfl rfl rfl rfl (hst.get 3 rfl) Tryz.underlying34 rfl el_api_Note (ntArr_size _ _ _) ?_
   exact ⟨by rw [HR.out]; rfl, hst.forget⟩
  have hE := HEE2.out
  rw [if_pos c7] at hE
  subst hE
  by_cases c8 : R = x
  case neg =>
   have HR := Lib.hid (show lookW r r2 D y R x na = .tuple #[.agg (ntArr [] zeroD 0), .bool false, errV 9] from if_neg (fun h => c8 h.2.2.2))
   have HD2 := Lib.hid (show (!decide (R = x)) = true by simp [c8])
   clear HEE HEE2 c5 c6 c7 c8
   go_upto_region 14 with (go_big_may; first | ((refine L_loadA (d := some 92) rfl rfl rfl (by rfl) Tryz.underlying32 rfl el_api_Digest (by (exact hst.get 0 rfl)) (by (exact Dig.size _)) ?_)) | ((refine L_loadM (d := some 94) rfl rfl rfl (by rfl) Tryz.underlying32 rfl el_api_Digest (by (exact hdArr_map (hst.get 4 rfl))) (by (exact Dig.size _)) ?_)) | (refine L_neD (d := some 95) rfl rfl rfl Tryz.underlying32 Tryz.underlying5 el_uint8 eqG_D (ev_tmp rfl) (ev_tmp rfl) ?_; (try rw [HD.out])))
   go_upto_region 15 with (go_big_may; first | (go_at_call 59; (try clear hnew); refine (HTF.out _ (HT.out.of hst) (hst.old (by decide) HZ.out)).mono ?_; rintro e Wk10 ⟨rfl, hnew⟩; replace hst := hst.keep hnew) | ((refine L_loadA (d := some 100) rfl rfl rfl (by rfl) Tryz.underlying32 rfl el_api_Digest (by (exact hst.get 1 rfl)) (by (exact Dig.size _)) ?_)) | (refine L_load1 (d := some 102) rfl rfl rfl (by rfl) Tryz.underlying3 rfl (by (exact cell_of (hst.get 3 rfl) fdArr_34)) ?_) | (refine L_load1 (d := some 104) rfl rfl rfl (by rfl) Tryz.underlying3 rfl (by (exact cell_of (hst.get 4 rfl) hdArr_0)) ?_) | (refine L_load1 (d := some 106) rfl rfl rfl (by rfl) Tryz.underlying44 rfl (by (exact cell_of (hst.get 3 rfl) fdArr_35)) ?_) | (refine L_allocA (d := some 14) rfl rfl rfl el_api_Digest ?_; (try clear hnew); intro g14 W14 hnew; replace hst := hst.trans hnew; simp only [List.cons_append, List.nil_append] at hst) | (refine wpl_at (.store 32 (.tmp 14) (.tmp 108)) rfl ?_; (refine L_storeA rfl rfl hst rfl (by rfl) (ev_tmp rfl) (by (exact Dig.one _)) el_api_Digest (by (exact Dig.size _)) 0 rfl (by (rfl)) ?_; clear hst; intro WS12 hst; simp only [List.set_cons_zero, List.set_cons_succ] at hst)))
   go_upto_region 16 with (go_big_may; first | ((refine L_loadA (d := some 113) rfl rfl rfl (by rfl) Tryz.underlying32 rfl el_api_Digest (by (exact hst.get 0 rfl)) (by (exact Dig.size _)) ?_)) | ((refine L_loadM (d := some 115) rfl rfl rfl (by rfl) Tryz.underlying32 rfl el_api_Digest (by (exact hdArr_root (hst.get 5 rfl))) (by (exact Dig.size _)) ?_)) | (refine L_neD (d := some 116) rfl rfl rfl Tryz.underlying32 Tryz.underlying5 el_uint8 eqG_D (ev_tmp rfl) (ev_tmp rfl) ?_; (try rw [HD2.out])))
   go_wp2_with (first | (refine L_buildNz (d := some 118) rfl rfl rfl ?_) | (refine wpl_at (.store 34 (.tmp 6) (.tmp 118)) rfl ?_; (refine L_storeA rfl rfl hst rfl (by rfl) (ev_tmp rfl) (by (exact ntArr_all _ _ _)) el_api_Note (by (rfl)) 3 rfl (by (rfl)) ?_; clear hst; intro WS2 hst; simp only [List.set_cons_zero, List.set_cons_succ] at hst)))
   refine bp_cell_tmp2 rfl rfl rfl rfl rfl (hst.get 3 rfl) Tryz.underlying34 rfl el_api_Note (ntArr_size _ _ _) ?_
   exact ⟨by rw [HR.out]; rfl, hst.forget⟩
  have HR := Lib.hid (show lookW r r2 D y R x na = .tuple #[.agg na, .bool true, .nilIface] from if_pos ⟨c5, c6, c7, c8⟩)
  have HD2 := Lib.hid (show (!decide (R = x)) = false by simp [c8])
  clear HEE HEE2 c5 c6 c7 c8
  go_upto_region 14 with (go_big_may; first | ((refine L_loadA (d := some 92) rfl rfl rfl (by rfl) Tryz.underlying32 rfl el_api_Digest (by (exact hst.get 0 rfl)) (by (exact Dig.size _)) ?_)) | ((refine L_loadM (d := some 94) rfl rfl rfl (by rfl) Tryz.underlying32 rfl el_api_Digest (by (exact hdArr_map (hst.get 4 rfl))) (by (exact Dig.size _)) ?_)) | (refine L_neD (d := some 95) rfl rfl rfl Tryz.underlying32 Tryz.underlying5 el_uint8 eqG_D (ev_tmp rfl) (ev_tmp rfl) ?_; (try rw [HD.out])))
  go_upto_region 15 with (go_big_may; first | (go_at_call 59; (try clear hnew); refine (HTF.out _ (HT.out.of hst) (hst.old (by decide) HZ.out)).mono ?_; rintro e Wk11 ⟨rfl, hnew⟩; replace hst := hst.keep hnew) | ((refine L_loadA (d := some 100) rfl rfl rfl (by rfl) Tryz.underlying32 rfl el_api_Digest (by (exact hst.get 1 rfl)) (by (exact Dig.size _)) ?_)) | (refine L_load1 (d := some 102) rfl rfl rfl (by rfl) Tryz.underlying3 rfl (by (exact cell_of (hst.get 3 rfl) fdArr_34)) ?_) | (refine L_load1 (d := some 104) rfl rfl rfl (by rfl) Tryz.underlying3 rfl (by (exact cell_of (hst.get 4 rfl) hdArr_0)) ?_) | (refine L_load1 (d := some 106) rfl rfl rfl (by rfl) Tryz.underlying44 rfl (by (exact cell_of (hst.get 3 rfl) fdArr_35)) ?_) | (refine L_allocA (d := some 14) rfl rfl rfl el_api_Digest ?_; (try clear hnew); intro g14 W14 hnew; replace hst := hst.trans hnew; simp only [List.cons_append, List.nil_append] at hst) | (refine wpl_at (.store 32 (.tmp 14) (.tmp 108)) rfl ?_; (refine L_storeA rfl rfl hst rfl (by rfl) (ev_tmp rfl) (by (exact Dig.one _)) el_api_Digest (by (exact Dig.size _)) 0 rfl (by (rfl)) ?_; clear hst; intro WS12 hst; simp only [List.set_cons_zero, List.set_cons_succ] at hst)))
  go_upto_region 17 with (go_big_may; first | ((refine L_loadA (d := some 113) rfl rfl rfl (by rfl) Tryz.underlying32 rfl el_api_Digest (by (exact hst.get 0 rfl)) (by (exact Dig.size _)) ?_)) | ((refine L_loadM (d := some 115) rfl rfl rfl (by rfl) Tryz.underlying32 rfl el_api_Digest (by (exact hdArr_root (hst.get 5 rfl))) (by (exact Dig.size _)) ?_)) | (refine L_neD (d := some 116) rfl rfl rfl Tryz.underlying32 Tryz.underlying5 el_uint8 eqG_D (ev_tmp rfl) (ev_tmp rfl) ?_; (try rw [HD2.out])))
  go_wp2_with (first | ((refine L_loadM (d := some 121) rfl rfl rfl (by rfl) Tryz.underlying34 rfl el_api_Note (by (exact fdArr_note (hst.get 4 rfl))) (by (exact ntArr_size _ _ _)) ?_)) | (refine wpl_at (.store 34 (.tmp 6) (.tmp 121)) rfl ?_; (refine L_storeA rfl rfl hst rfl (by rfl) (ev_tmp rfl) (by (exact ntArr_all _ _ _)) el_api_Note (by (exact ntArr_size _ _ _)) 3 rfl (by (rfl)) ?_; clear hst; intro WS2 hst; simp only [List.set_cons_zero, List.set_cons_succ] at hst)))
  refine bp_cell_tmp2 rfl rfl rfl rfl rfl (hst.get 3 rfl) Tryz.underlying34 rfl el_api_Note (ntArr_size _ _ _) ?_
  exact ⟨by rw [HR.out, HNT.out], hst.forget⟩
theorem look_any (n : Int) (x y z : Dig) (s : List UInt8) (f : FoundN) (A : Option Addr) (m c : Nat) (B : Option Addr) (p q : Nat) (w : World) (hT : Tb w) (hz : SlR w A m c 32 (digsL f.path)) (hx : SlR w B p q 32 (digsL f.mpath)) (hn1 : -9223372036854775808 ≤ f.note.turn) (hn2 : f.note.turn ≤ 9223372036854775807) :
  Calls Tryz.prog 22 #[.agg (hdArr n x y z), .string (bsOf s), .agg (fdArr f.note.name f.note.key f.note.turn f.at_ A m c B p q)] w fun e w' => e = .returned (lookV (lookN n x y s f)) ∧ St w w' [] := by
 obtain ⟨nt, at_, pt, ps⟩ := f
 simp only at *
 have hm : pt.length = m := by have := hz.1; rw [length_digsL] at this; omega
 unfold lookN
 by_cases hs : isNm s = true
 ·rw [if_pos hs]
  by_cases h0 : nt.name = []
  ·rw [if_pos h0]
   obtain ⟨a1, a2, a3⟩ := nt
   simp only at *
   subst h0
   refine (look_none n x y z s a2 a3 at_ A m c B ps p q w hT hs hx).mono ?_
   rintro e w' ⟨rfl, h⟩
   refine ⟨?_, h⟩
   have hp : (pt = []) ↔ m = 0 := by rw [← hm, List.length_eq_zero_iff]
   by_cases hc : a2 = zeroD ∧ a3 = 0 ∧ at_ = 0 ∧ m = 0 ∧ mfE ps = 0 ∧ mfD s zeroD ps = y
   ·have hc' : a2 = zeroD ∧ a3 = 0 ∧ at_ = 0 ∧ pt = [] ∧ mapTold y s zeroD ps := ⟨hc.1, hc.2.1, hc.2.2.1, hp.2 hc.2.2.2.1, (mapTold_iff y s zeroD ps).2 hc.2.2.2.2⟩
    rw [show lookZ a2 a3 at_ m (mfE ps) (mfD s zeroD ps) y = 0 from if_pos hc, if_pos hc']
    rfl
   ·have hc' : ¬ (a2 = zeroD ∧ a3 = 0 ∧ at_ = 0 ∧ pt = [] ∧ mapTold y s zeroD ps) := fun h => hc ⟨h.1, h.2.1, h.2.2.1, hp.1 h.2.2.2.1, (mapTold_iff y s zeroD ps).1 h.2.2.2.2⟩
    rw [show lookZ a2 a3 at_ m (mfE ps) (mfD s zeroD ps) y = 9 from if_neg hc, if_neg hc']
    rfl
  ·rw [if_neg h0]
   by_cases h1 : noteOk nt = true ∧ nt.name = s
   ·rw [if_pos h1]
    refine (look_has n x y z s nt at_ A pt m c B ps p q w hT hs hz hx h0 h1.1 h1.2).mono ?_
    rintro e w' ⟨he, h⟩
    refine ⟨?_, h⟩
    rw [he]
    by_cases hc : mfE ps = 0 ∧ mfD s (eLeaf (idxN s) (ntLeaf nt)) ps = y ∧ tfE at_ n pt.length = 0 ∧ tfD (ntLeaf nt) at_ n pt = x
    ·rw [show lookW (mfE ps) (tfE at_ n pt.length) (mfD s (eLeaf (idxN s) (ntLeaf nt)) ps) y (tfD (ntLeaf nt) at_ n pt) x nt.arr = _ from if_pos hc, if_pos ⟨(mapTold_iff _ _ _ _).2 ⟨hc.1, hc.2.1⟩, (treeTold_iff _ _ _ _ _).2 ⟨hc.2.2.1, hc.2.2.2⟩⟩]
     rfl
    ·rw [show lookW (mfE ps) (tfE at_ n pt.length) (mfD s (eLeaf (idxN s) (ntLeaf nt)) ps) y (tfD (ntLeaf nt) at_ n pt) x nt.arr = _ from if_neg hc, if_neg]
     ·rfl
     ·rintro ⟨h2, h3⟩
      obtain ⟨q1, q2⟩ := (mapTold_iff _ _ _ _).1 h2
      obtain ⟨q3, q4⟩ := (treeTold_iff _ _ _ _ _).1 h3
      exact hc ⟨q1, q2, q3, q4⟩
   ·rw [if_neg h1]
    by_cases hok : noteOk nt = true
    ·refine (look_other n x y z s nt at_ A m c B p q w hT hs h0 hok (fun e => h1 ⟨hok, e⟩)).mono ?_
     rintro e w' ⟨rfl, h⟩
     exact ⟨rfl, h⟩
    ·refine (look_bad n x y z s nt at_ A m c B p q w hs h0 (by simpa using hok) hn1 hn2).mono ?_
     rintro e w' ⟨rfl, h⟩
     exact ⟨rfl, h⟩
 ·rw [if_neg hs]
  refine (look_no n x y z s nt.name nt.key nt.turn at_ A m c B p q w (by simpa using hs)).mono ?_
  rintro e w' ⟨rfl, h⟩
  exact ⟨rfl, h⟩
end Go.Proofs.YtaebeemnipafbaaGreatDoor

set_option maxRecDepth 20000
set_option linter.unusedSimpArgs false
set_option linter.unusedVariables false
namespace Go.Proofs.YtaebeemnipafbaaGreatDoor
open Go.RowKit
attribute [local simp] hdArr_size ntArr_size
def dkArr (gl gp : Nat) : Array Value := #[.pointer (some ⟨gl, 0, none⟩), .pointer (some ⟨gp, 0, none⟩)]
theorem dkArr_0 {gl gp : Nat} : (dkArr gl gp)[0]? = some (.pointer (some ⟨gl, 0, none⟩)) := rfl
theorem dkArr_1 {gl gp : Nat} : (dkArr gl gp)[1]? = some (.pointer (some ⟨gp, 0, none⟩)) := rfl
theorem findN_turn {ns : List NoteN} (h : Logged ns) (s : List UInt8) : 0 ≤ (findN ns s).note.turn ∧ (findN ns s).note.turn < 4294967296 := by
 unfold findN
 split
 ·split
  ·rename_i i hi
   obtain ⟨n, h1, _⟩ := lastI_some hi
   simp only [h1, Option.getD_some]
   have := h.ok n (List.mem_of_getElem? h1)
   unfold noteOk at this
   rw [Bool.and_eq_true] at this
   exact of_decide_eq_true this.2
  ·exact ⟨Int.le_refl _, show (0 : Int) < 4294967296 by decide⟩
 ·exact ⟨Int.le_refl _, show (0 : Int) < 4294967296 by decide⟩
theorem findR_no {ns : List NoteN} {s : List UInt8} (h : isNm s = false) : findR ns s = (1, none) := by
 unfold findR lookN
 rw [if_neg (by rw [h]; decide)]
set_option maxHeartbeats 16000000 in
set_option maxRecDepth 100000 in
theorem dfind_any (key : List UInt8) (ns : List NoteN) (t : List UInt8) (p : LgP) (g gp : Nat) (w0 w : World) (L : List Res) (hT : Tb w0) (hP : Pz w0) (hst : St w0 w (lgL p key ns ++ (.blk g 125 (dkArr p.g gp) :: L))) (hm : MapsOf ns p.nm p.am) (hl : Logged ns) (hpm : p.m ≤ 140737488351232) (ht : t.length ≤ 140737488351232) :
  Calls Tryz.prog 108 #[.pointer (some ⟨g, 0, none⟩), .string (bsOf t)] w fun e w' => e = .returned (.tuple #[.string (bsOf (findT ns t).2), errO (findT ns t).1]) ∧ St w0 w' (lgL p key ns ++ (.blk g 125 (dkArr p.g gp) :: L)) := by
 have HT := Lib.hid hT
 have HP := Lib.hid hP
 have HFd := Lib.hid (fun (w' : World) (X : List Res) h => findV_any key ns t p w0 w' X hT h hm hl)
 have HH := Lib.hid (fun (w' : World) (ht : Tb w') (h : LgAt w' p key ns) => headK_any key ns p w' ht h hm hl (by omega))
 have hft := findN_turn hl t
 have HL := Lib.hid (fun (w' : World) (z : Dig) (A B : Option Addr) (c q : Nat) (ht : Tb w') h1 h2 => look_any (ns.length : Int) (rootN (lvN ns)) (mapN ns) z t (findN ns t) A (findN ns t).path.length c B (findN ns t).mpath.length q w' ht h1 h2 (by omega) (by omega))
 have hr9 := lookN_le (ns.length : Int) (rootN (lvN ns)) (mapN ns) t (findN ns t)
 have hsm := fun nt => lookN_some (n := (ns.length : Int)) (x := rootN (lvN ns)) (y := mapN ns) (s := t) (f := findN ns t) (nt := nt)
 by_cases hs : isNm t = true
 case neg =>
  have hs' : isNm t = false := by simpa using hs
  have hf : findT ns t = (1, []) := by unfold findT; rw [findR_no hs']; rfl
  rw [hf]
  rewrite [findE_no hs', findN_no hs', show errO 1 = errV 1 from rfl] at HFd
  unfold errV at HFd
  clear HL HH hft hr9 hsm hs hs' hf hm hl hT hP
  generalize hgl : p.g = gl at *
  have HGl := Lib.hid hgl
  clear hgl
  go_enter Tryz.func108, Tryz.ntmps108
  go_upto_region 1 with (go_big_may; fail)
  go_upto_region 2 with (go_big_may; first | (go_at_call 15; refine (HFd.out _ _ hst).mono ?_; rintro e Wf ⟨A2, c2, B2, d2, rfl, hst'⟩; clear hst; have hst := hst'; clear hst') | (refine L_load1 (d := some 14) rfl rfl rfl (by rfl) Tryz.underlying24 rfl (by (exact cell_of (hst.get 5 rfl) dkArr_0)) ?_) | (refine L_allocA (d := some 6) rfl rfl rfl el_api_Found ?_; (try clear hnew); intro g6 W6 hnew; replace hst := hst.trans hnew; simp only [List.cons_append, List.nil_append] at hst) | (refine wpl_at (.store 46 (.tmp 6) (.tmp 17)) rfl ?_; (refine L_storeA rfl rfl hst rfl (by rfl) (ev_tmp rfl) (by (exact fdArr_all _ _ _ _ _ _ _ _ _ _)) el_api_Found (by (rfl)) 0 rfl (by (rfl)) ?_; clear hst; intro WS10 hst; simp only [List.set_cons_zero, List.set_cons_succ] at hst)))
  go_upto_region 3 with (go_big_may; fail)
  go_wp2_with (fail)
  go_ret2
  exact ⟨rfl, hst.drop (.cons _ (.cons _ (.cons _ (List.Sublist.refl _))))⟩
 rewrite [findE_yes hs, show errO 0 = .nilIface from rfl] at HFd
 have hfT : findT ns t = (if (findR ns t).1 = 0 then (0, match (findR ns t).2 with | none => tNone | some n => hexL n.key.l ++ [32] ++ Lib.itoa n.turn) else ((findR ns t).1, [])) := rfl
 generalize findT ns t = ft at hfT ⊢
 have hfR : findR ns t = lookN (ns.length : Int) (rootN (lvN ns)) (mapN ns) t (findN ns t) := rfl
 rewrite [hfR] at hfT
 unfold lookV at HL
 generalize lookN (ns.length : Int) (rootN (lvN ns)) (mapN ns) t (findN ns t) = r at *
 obtain ⟨r1, o⟩ := r
 simp only at *
 unfold NoteN.arr at HL
 have HfT := Lib.hid hfT
 clear hfR hfT
 generalize rootN (lvN ns) = rt at *
 generalize mapN ns = mp at *
 generalize headR key ns = hr at *
 generalize findN ns t = fd at *
 obtain ⟨⟨a1, a2, a3⟩, a4, a5, a6⟩ := fd
 simp only at *
 obtain ⟨l5, hl5⟩ : ∃ l, l = a5.length := ⟨_, rfl⟩
 obtain ⟨l6, hl6⟩ : ∃ l, l = a6.length := ⟨_, rfl⟩
 rewrite [← hl5, ← hl6] at HFd HL
 clear hl5 hl6 hs hm hl hT hP
 generalize hgl : p.g = gl at *
 clear hgl
 go_enter Tryz.func108, Tryz.ntmps108
 go_upto_region 1 with (go_big_may; fail)
 go_upto_region 2 with (go_big_may; first | (go_at_call 15; refine (HFd.out _ _ hst).mono ?_; rintro e Wf ⟨A2, c2, B2, d2, rfl, hst'⟩; clear hst; have hst := hst'; clear hst') | (refine L_load1 (d := some 14) rfl rfl rfl (by rfl) Tryz.underlying24 rfl (by (exact cell_of (hst.get 5 rfl) dkArr_0)) ?_) | (refine L_allocA (d := some 6) rfl rfl rfl el_api_Found ?_; (try clear hnew); intro g6 W6 hnew; replace hst := hst.trans hnew; simp only [List.cons_append, List.nil_append] at hst) | (refine wpl_at (.store 46 (.tmp 6) (.tmp 17)) rfl ?_; (refine L_storeA rfl rfl hst rfl (by rfl) (ev_tmp rfl) (by (exact fdArr_all _ _ _ _ _ _ _ _ _ _)) el_api_Found (by (exact fdArr_size _ _ _ _ _ _ _ _ _ _)) 0 rfl (by (rfl)) ?_; clear hst; intro WS10 hst; simp only [List.set_cons_zero, List.set_cons_succ] at hst)))
 go_upto_region 4 with (go_big_may; fail)
 (try clear hnew)
 clear HFd
 go_simp
 go_cut [8, 9, 7] (fun s8 s9 s7 wx => ∃ (g8 : Nat), s8 = .pointer (some ⟨g8, 0, none⟩) ∧ s9 = .bool o.isSome ∧ s7 = errO r1 ∧ St w0 wx (.blk g8 34 (ntArr (o.getD zeroNt).name (o.getD zeroNt).key (o.getD zeroNt).turn) :: (lgL p key ns ++ (.blk g 125 (dkArr gl gp) :: L))))
 case first =>
  refine wp_region_pm (.one 0 3 (.one 5 3 (.one 1 0 (.one 2 0 (.one 3 0 (.one 6 0 (.two 4 2 (.two 7 2 (.one 8 3 (.one 9 3 (.one 10 3 (.one 11 3 (.one 12 2 (.one 13 1 (.one 14 2 (.one 15 2 .nil)))))))) 12 2 (.one 7 2 (.one 8 2 (.one 9 3 (.one 10 3 (.one 11 3 (.one 13 1 (.one 14 2 (.one 15 2 .nil))))))))) 12 2 (.one 4 2 (.one 7 2 (.one 8 2 (.one 9 3 (.one 10 3 (.one 11 3 (.one 13 1 (.one 14 2 (.one 15 2 .nil)))))))))))))))) (by kernel_rfl) (by kernel_rfl) ?_
  replace hst := hst.drew
  refine pm_p rfl rfl ?_; go_wp2_with fail
  refine pm_p rfl rfl ?_; go_wp2_with fail
  refine pm_q rfl rfl ?_; go_wp2_with fail
  refine pm_qf rfl rfl (by kernel_rfl) ?_; go_wp2_with fail
  refine pm_q rfl rfl ?_; go_wp2_with ((refine L_load1 (d := some 26) rfl rfl rfl (by rfl) Tryz.underlying24 rfl (by (exact cell_of (hst.get 8 rfl) dkArr_0)) ?_))
  refine pm_q rfl rfl ?_; go_wp2_with (((refine L_loadA (d := some 29) rfl rfl rfl (by rfl) Tryz.underlying46 rfl el_api_Found (by (exact hst.get 0 rfl)) (by (exact fdArr_size _ _ _ _ _ _ _ _ _ _)) ?_)))
  refine pm_two (ki := 2) (kj := 2) rfl rfl ?_ ?_
  ·go_wp2_with ((go_at_call 12; (try clear hnew); refine (HH.out _ (HT.out.of hst) (by (exact lgAt_of (hst.drop (.cons _ (.cons _ (.cons _ (List.Sublist.refl _)))))))).mono ?_; rintro e Wh ⟨rfl, hnew⟩; replace hst := hst.keep hnew)); refine ⟨fun _ => (by (exact hnew.below)), ?_⟩
   refine pm_two (ki := 2) (kj := 2) rfl rfl ?_ ?_
   ·go_wp2_with ((go_at_call 22; (try clear hnew); refine (HL.out _ _ _ _ _ _ (HT.out.of hst) (by (exact hst.sl 1 rfl)) (by (exact hst.sl 2 rfl))).mono ?_; rintro e Wl ⟨rfl, hnew⟩; replace hst := hst.keep hnew)); refine ⟨fun _ => (by (exact hnew.below)), ?_⟩
    refine pm_p rfl rfl ?_; go_wp2_with fail
    refine pm_p rfl rfl ?_; go_wp2_with fail
    refine pm_p rfl rfl ?_; go_wp2_with fail
    refine pm_p rfl rfl ?_; go_wp2_with fail
    refine pm_g rfl ?_; go_wp2_with ((refine L_allocA (d := some 8) rfl rfl rfl el_api_Note ?_; (try clear hnew); intro g8 W8 hnew; replace hst := hst.trans hnew; simp only [List.cons_append, List.nil_append] at hst)); refine ⟨by (exact hnew.below), ?_⟩
    refine pm_e rfl ?_; go_wp2_with ((refine wpl_at (.store 34 (.tmp 8) (.tmp 31)) rfl ?_; (refine L_storeA rfl rfl hst rfl (by rfl) (ev_tmp rfl) (by (exact ntArr_all _ _ _)) el_api_Note (by (exact ntArr_size _ _ _)) 0 rfl (by (rfl)) ?_; clear hst; intro WS13 hst; simp only [List.set_cons_zero, List.set_cons_succ] at hst)))
    refine pm_g rfl ?_; go_wp2_with fail; refine ⟨by (exact Below.refl _ _), ?_⟩
    refine pm_g rfl ?_; go_wp2_with fail; refine ⟨by (exact Below.refl _ _), ?_⟩
    refine pm_nil ?_
    go_wp2_with fail
    go_meet
    case rel => exact ⟨_, rfl, rfl, rfl, hst.drop (.cons_cons _ (.cons _ (.cons _ (.cons _ (List.Sublist.refl _)))))⟩
   ·go_wp2_with ((refine L_allocA (d := some 8) rfl rfl rfl el_api_Note ?_; (try clear hnew); intro g8 W8 hnew; replace hst := hst.trans hnew; simp only [List.cons_append, List.nil_append] at hst)); refine ⟨fun _ => (by (exact hnew.below)), ?_⟩
    refine pm_g rfl ?_; go_wp2_with ((go_at_call 22; (try clear hnew); refine (HL.out _ _ _ _ _ _ (HT.out.of hst) (by (exact hst.sl 2 rfl)) (by (exact hst.sl 3 rfl))).mono ?_; rintro e Wl ⟨rfl, hnew⟩; replace hst := hst.keep hnew)); refine ⟨by (exact hnew.below), ?_⟩
    refine pm_g rfl ?_; go_wp2_with fail; refine ⟨by (exact Below.refl _ _), ?_⟩
    refine pm_p rfl rfl ?_; go_wp2_with fail
    refine pm_p rfl rfl ?_; go_wp2_with fail
    refine pm_p rfl rfl ?_; go_wp2_with fail
    refine pm_e rfl ?_; go_wp2_with ((refine wpl_at (.store 34 (.tmp 8) (.tmp 31)) rfl ?_; (refine L_storeA rfl rfl hst rfl (by rfl) (ev_tmp rfl) (by (exact ntArr_all _ _ _)) el_api_Note (by (exact ntArr_size _ _ _)) 0 rfl (by (rfl)) ?_; clear hst; intro WS13 hst; simp only [List.set_cons_zero, List.set_cons_succ] at hst)))
    refine pm_g rfl ?_; go_wp2_with fail; refine ⟨by (exact Below.refl _ _), ?_⟩
    refine pm_g rfl ?_; go_wp2_with fail; refine ⟨by (exact Below.refl _ _), ?_⟩
    refine pm_nil ?_
    go_wp2_with fail
    go_meet
    case rel => exact ⟨_, rfl, rfl, rfl, hst.drop (.cons_cons _ (.cons _ (.cons _ (.cons _ (List.Sublist.refl _)))))⟩
  ·go_wp2_with ((refine L_allocA (d := some 8) rfl rfl rfl el_api_Note ?_; (try clear hnew); intro g8 W8 hnew; replace hst := hst.trans hnew; simp only [List.cons_append, List.nil_append] at hst)); refine ⟨fun _ => (by (exact hnew.below)), ?_⟩
   refine pm_g rfl ?_; go_wp2_with ((go_at_call 12; (try clear hnew); refine (HH.out _ (HT.out.of hst) (by (exact lgAt_of (hst.drop (.cons _ (.cons _ (.cons _ (.cons _ (List.Sublist.refl _))))))))).mono ?_; rintro e Wh ⟨rfl, hnew⟩; replace hst := hst.keep hnew)); refine ⟨by (exact hnew.below), ?_⟩
   refine pm_g rfl ?_; go_wp2_with ((go_at_call 22; (try clear hnew); refine (HL.out _ _ _ _ _ _ (HT.out.of hst) (by (exact hst.sl 2 rfl)) (by (exact hst.sl 3 rfl))).mono ?_; rintro e Wl ⟨rfl, hnew⟩; replace hst := hst.keep hnew)); refine ⟨by (exact hnew.below), ?_⟩
   refine pm_g rfl ?_; go_wp2_with fail; refine ⟨by (exact Below.refl _ _), ?_⟩
   refine pm_p rfl rfl ?_; go_wp2_with fail
   refine pm_p rfl rfl ?_; go_wp2_with fail
   refine pm_p rfl rfl ?_; go_wp2_with fail
   refine pm_e rfl ?_; go_wp2_with ((refine wpl_at (.store 34 (.tmp 8) (.tmp 31)) rfl ?_; (refine L_storeA rfl rfl hst rfl (by rfl) (ev_tmp rfl) (by (exact ntArr_all _ _ _)) el_api_Note (by (exact ntArr_size _ _ _)) 0 rfl (by (rfl)) ?_; clear hst; intro WS13 hst; simp only [List.set_cons_zero, List.set_cons_succ] at hst)))
   refine pm_g rfl ?_; go_wp2_with fail; refine ⟨by (exact Below.refl _ _), ?_⟩
   refine pm_g rfl ?_; go_wp2_with fail; refine ⟨by (exact Below.refl _ _), ?_⟩
   refine pm_nil ?_
   go_wp2_with fail
   go_meet
   case rel => exact ⟨_, rfl, rfl, rfl, hst.drop (.cons_cons _ (.cons _ (.cons _ (.cons _ (List.Sublist.refl _)))))⟩
 case rest =>
  obtain ⟨g8, rfl, rfl, rfl, hst2⟩ := hcut
  clear hst
  have hst := hst2
  clear hst2
  clear HH HL
  by_cases hr0 : r1 = 0
  case neg =>
   rewrite [show errO r1 = errV r1 from if_neg hr0]
   have HNe := Lib.hid hr0
   have HEr := Lib.hid (show errO r1 = errV r1 from if_neg hr0)
   clear hr0
   unfold errV
   go_upto_region 6 with (go_big_may; fail)
   go_wp2_with (fail)
   go_ret2
   refine ⟨?_, hst.tail⟩
   rw [HfT.out, if_neg HNe.out]
   simp only
   rw [HEr.out]
   rfl
  subst hr0
  rewrite [show errO 0 = .nilIface from rfl]
  cases o with
  | none =>
   go_upto_region 7 with (go_big_may; fail)
   go_upto_region 8 with (go_big_may; fail)
   go_wp2_with (fail)
   go_ret2
   exact ⟨by rw [HfT.out]; rfl, hst.tail⟩
  | some nt =>
   obtain ⟨h1, h2⟩ := hsm nt rfl
   obtain ⟨b1, b2, b3⟩ := nt
   have hb3 : 0 ≤ b3 ∧ b3 < 4294967296 := by
    unfold noteOk at h2
    rw [Bool.and_eq_true] at h2
    exact of_decide_eq_true h2.2
   simp only [Option.getD_some, Option.isSome_some] at hst ⊢
   clear h1 h2 hsm
   have HX := Lib.hid (fun (A : Option Addr) (w' : World) (h : SlR w' A 32 32 1 (bytesL b2.l)) => show Calls Tryz.prog 134 #[.slice A 32 32] w' fun e w2 => e = .returned (.string (bsOf (hexL b2.l))) ∧ St w' w2 [] from hex_any b2.l A 32 32 w' h (by decide))
   have HI := Lib.hid (fun (w' : World) (h : Pz w') => itoa_any b3 (by omega) (by omega) w' h)
   have hx1 := hexL_dig b2
   have hd1 : (Lib.itoa b3).length ≤ 4294967297 := by
    obtain ⟨q, rfl⟩ := Int.eq_ofNat_of_zero_le hb3.1
    rw [itoa_nat]
    have := decDigits_le q
    omega
   go_upto_region 7 with (go_big_may; fail)
   go_upto_region 9 with (go_big_may; fail)
   refine wp_region_idx [(0, 0), (1, 0), (4, 0), (5, 0), (2, 2), (3, 0), (6, 2), (7, 2), (8, 2), (9, 2)] (by kernel_rfl) (by kernel_rfl) ?_
   replace hst := hst.drew
   refine idx_qf rfl rfl (by kernel_rfl) ?_; go_wp2_with fail
   refine idx_q rfl rfl ?_; go_wp2_with ((refine L_sliceMid (d := some 40) rfl rfl rfl (by rfl) Tryz.underlying32 el_uint8 (ntArr_key (hst.get 0 rfl)) (Dig.size _) (by decide) ?_; intro hs40; clear hs40))
   refine idx_qf rfl rfl (by kernel_rfl) ?_; go_wp2_with fail
   refine idx_q rfl rfl ?_; go_wp2_with ((refine L_load1 (d := some 44) rfl rfl rfl (by rfl) Tryz.underlying3 rfl (by (exact cell_of (hst.get 0 rfl) ntArr_33)) ?_))
   refine idx_g rfl ?_; go_wp2_with ((go_at_call 134; (try clear hnew); have h1 := slr_range (ntArr_key (hst.get 0 rfl)); refine (HX.out _ _ h1).mono ?_; clear h1; rintro e Wx ⟨rfl, hnew⟩; replace hst := hst.keep hnew)); refine ⟨by (exact hnew.below), ?_⟩
   refine idx_sa rfl rfl (ev_tmp rfl) ev_const ?_; go_wp2_with ((refine L_strAdd (d := some 42) rfl rfl rfl (u := bsOf [32]) (ev_tmp rfl) ev_const (by simp only [bsOf_size, List.length_append, List.length_cons, List.length_nil]; omega) (bsOf_app _ _) ?_))
   refine idx_g rfl ?_; go_wp2_with ((go_at_call 133; (try clear hnew); refine (HI.out _ (HP.out.of hst)).mono ?_; rintro e Wk1 ⟨rfl, hnew⟩; replace hst := hst.keep hnew)); refine ⟨by (exact hnew.below), ?_⟩
   refine idx_g rfl ?_; go_wp2_with ((refine L_strAdd (d := some 46) rfl rfl rfl (ev_tmp rfl) (ev_tmp rfl) (by simp only [bsOf_size, List.length_append, List.length_cons, List.length_nil]; omega) (bsOf_app _ _) ?_)); refine ⟨by (exact Below.refl _ _), ?_⟩
   refine idx_g rfl ?_; go_wp2_with fail; refine ⟨by (exact Below.refl _ _), ?_⟩
   refine idx_g rfl ?_; go_wp2_with fail; refine ⟨by (exact Below.refl _ _), ?_⟩
   refine idx_nil ?_
   go_wp2_with fail
   go_ret2
   refine ⟨?_, hst.tail⟩
   rw [HfT.out]
   simp [errO]
end Go.Proofs.YtaebeemnipafbaaGreatDoor

set_option maxRecDepth 20000
set_option linter.unusedSimpArgs false
set_option linter.unusedVariables false
namespace Go.Proofs.YtaebeemnipafbaaGreatDoor
open Go.RowKit
section
variable {P : Program} {w0 W : World} {L : List Res} {ops : Array Oper} {rest : List Oper} {o : Oper} {a : Act} {Q : Exit → Act → World → Prop} {dd : Option Tmp}
theorem L_copyB (hgd : o.guard = none) (hst : St w0 W L) {d s : Operand} {dT sT : TypeId} (ho : o.op = .call { callee := .builtin .copy, args := #[d, s], argTypes := #[dT, sT] }) {elem : TypeId} (hu : P.underlying dT = some (.slice elem)) (hsz : (P.info? elem).map (·.size) = some 1)
  {g off m mc : Nat} (hd : a.eval d = .slice (some ⟨g, off, none⟩) m mc) {A : Option Addr} {n c : Nat} (hs : a.eval s = .slice A n c) {xs : List Value} (hx : SlR W A n c 1 xs) (hm : m ≤ n) (h0 : 0 < m) (k : Nat) {t : TypeId} {cur : Array Value} (hk : L[k]? = some (.blk g t cur)) (hfit : off + m ≤ cur.size) (h1 : ∀ v ∈ xs, v.oneCell' = true)
  (h : ∀ W' : World, St w0 W' (L.set k (.blk g t (putAt cur off (xs.take m)))) → wpList P ops Q rest (a.put o.dst (goInt m)) W') : wpList P ops Q (o :: rest) a W := by
 obtain ⟨hl, _, _, hx'⟩ := hx
 obtain ⟨sb, so, rfl, hr⟩ := hx' (by omega)
 have hlen : (xs.take m).length = m := by rw [List.length_take]; omega
 have hr' := rangeAt_take (k := m) hr
 have hW := h _ (hst.setRow k hk (putAt cur off (xs.take m)))
 refine wpList_copy_own hgd d s dT sT ho elem hu hsz g off m mc ⟨sb, so, none⟩ n c hd hs cur t (hst.get k hk) (xs.take m) (by rw [hlen]; exact (Nat.min_eq_right hm).symm) (fun j v hv => by rw [Addr.add_mid]; exact hr' j v hv) (by rw [hlen]; exact hfit) (fun v hv => h1 v (List.mem_of_mem_take hv)) ?_
 rw [hlen]
 have e : (cur.toList.take off ++ (xs.take m ++ cur.toList.drop (off + m))).toArray = putAt cur off (xs.take m) := by unfold putAt; rw [hlen]; simp
 rw [e]
 exact hW
end
end Go.Proofs.YtaebeemnipafbaaGreatDoor

set_option maxRecDepth 20000
set_option linter.unusedSimpArgs false
set_option linter.unusedVariables false
namespace Go.Proofs.YtaebeemnipafbaaGreatDoor
open Go.RowKit
attribute [local simp] hdArr_size ntArr_size
theorem key_put (l : List UInt8) : putAt zeroD.arr 0 ((bytesL (keyD l).l).take 32) = (keyD l).arr := by
 rw [List.take_of_length_le (by rw [length_bytesL, (keyD l).h]; decide), ← Dig.toList]
 exact put_part (cs := zeroD.arr) (ds := (keyD l).arr) [] zeroD.arr.toList (keyD l).arr.toList [] (by simp) (by simp) (by rw [dig_len, dig_len]) rfl
def DkAdd (key : List UInt8) (s : DkS) (t : List UInt8) (p : LgP) (g gp : Nat) (w0 : World) (L : List Res) : Ending → World → Prop := fun e w' =>
 e = .returned (.tuple #[.string (bsOf (addT s t).2.2), errO (addT s t).2.1]) ∧ ∃ p' : LgP, p'.g = p.g ∧ p'.m = p.m ∧ MapsOf (addT s t).1.ns p'.nm p'.am ∧ St w0 w' (lgL p' key (addT s t).1.ns ++ (.blk g 125 (dkArr p.g gp) :: L))
set_option maxHeartbeats 16000000 in
set_option maxRecDepth 100000 in
theorem dadd_bad (key : List UInt8) (s : DkS) (t : List UInt8) (p : LgP) (g gp : Nat) (w0 w : World) (L : List Res) (hst : St w0 w (lgL p key s.ns ++ (.blk g 125 (dkArr p.g gp) :: L))) (hm : MapsOf s.ns p.nm p.am) (ht : t.length ≤ 140737488351232) (hb : ¬ (spI t < t.length ∧ hx64 (t.drop (spI t + 1)))) :
  Calls Tryz.prog 107 #[.pointer (some ⟨g, 0, none⟩), .string (bsOf t)] w (DkAdd key s t p g gp w0 L) := by
 have HQ := Lib.hid (fun (w' : World) (h : St w0 w' (lgL p key s.ns ++ (.blk g 125 (dkArr p.g gp) :: L))) => show DkAdd key s t p g gp w0 L (.returned (.tuple #[.string (bsOf []), errV 1])) w' by
  unfold DkAdd addT
  rw [if_neg hb]
  exact ⟨rfl, p, rfl, rfl, hm, h⟩)
 have HC := Lib.hid (fun w' => cut_any t w' (by omega))
 generalize DkAdd key s t p g gp w0 L = Q at *
 generalize lgL p key s.ns ++ (.blk g 125 (dkArr p.g gp) :: L) = LL at *
 have hdl : (t.drop (spI t + 1)).length ≤ 140737488355000 := by rw [List.length_drop]; omega
 clear hm
 unfold errV at HQ
 by_cases c1 : spI t < t.length
 ·have hnx : ¬ hx64 (t.drop (spI t + 1)) := fun h => hb ⟨c1, h⟩
  rewrite [decide_eq_true c1] at HC
  generalize t.take (spI t) = ta at *
  generalize t.drop (spI t + 1) = tb at *
  rcases unhexP_no tb hnx hdl with ⟨m, bs, hm, hU⟩ | hU
  ·have HU := Lib.hid hU
   have p1 : ((m : Int) != 32) = true := by rw [bne_iff_ne]; omega
   clear hU hnx hb hm
   go_enter Tryz.func107, Tryz.ntmps107
   go_upto_region 1 with (go_big_may; fail)
   go_upto_region 2 with (go_big_may; (go_at_call 106; (try clear hnew); refine (HC.out _).mono ?_; rintro e Wk1 ⟨rfl, hnew⟩; replace hst := hst.keep hnew))
   go_upto_region 3 with (go_big_may; (go_at_call 132; (try clear hnew); refine (HU.out _).mono ?_; rintro e Wu ⟨Au, cu, rfl, hnew⟩; replace hst := hst.trans hnew; simp only [List.cons_append, List.nil_append] at hst))
   go_upto_region 4 with (go_big_may; fail)
   go_wp2_with (fail)
   exact HQ.out _ hst.tail
  ·have HU := Lib.hid hU
   clear hU hnx hb
   unfold errV at HU
   go_enter Tryz.func107, Tryz.ntmps107
   go_upto_region 1 with (go_big_may; fail)
   go_upto_region 2 with (go_big_may; (go_at_call 106; (try clear hnew); refine (HC.out _).mono ?_; rintro e Wk2 ⟨rfl, hnew⟩; replace hst := hst.keep hnew))
   go_upto_region 3 with (go_big_may; (go_at_call 132; (try clear hnew); refine (HU.out _).mono ?_; rintro e Wk3 ⟨rfl, hnew⟩; replace hst := hst.keep hnew))
   go_upto_region 4 with (first | (with_reducible refine L_pass (t := 31) rfl (by kernel_rfl) ?_) | (with_reducible refine L_pass (t := 32) rfl (by kernel_rfl) ?_) | (with_reducible refine L_pass (t := 33) rfl (by kernel_rfl) ?_))
   go_wp2_with (fail)
   exact HQ.out _ hst
 ·have hnx : ¬ hx64 (t.drop (spI t + 1)) := fun h => by
   have := h.1
   rw [List.length_drop] at this
   omega
  rewrite [decide_eq_false c1] at HC
  generalize t.take (spI t) = ta at *
  generalize t.drop (spI t + 1) = tb at *
  rcases unhexP_no tb hnx hdl with ⟨m, bs, hm, hU⟩ | hU
  ·have HU := Lib.hid hU
   clear hU hnx hb hm
   go_enter Tryz.func107, Tryz.ntmps107
   go_upto_region 1 with (go_big_may; fail)
   go_upto_region 2 with (go_big_may; (go_at_call 106; (try clear hnew); refine (HC.out _).mono ?_; rintro e Wk4 ⟨rfl, hnew⟩; replace hst := hst.keep hnew))
   go_upto_region 3 with (go_big_may; (go_at_call 132; (try clear hnew); refine (HU.out _).mono ?_; rintro e Wu ⟨Au, cu, rfl, hnew⟩; replace hst := hst.trans hnew; simp only [List.cons_append, List.nil_append] at hst))
   go_upto_region 4 with (first | (with_reducible refine L_pass (t := 27) rfl (by kernel_rfl) ?_) | (with_reducible refine L_pass (t := 28) rfl (by kernel_rfl) ?_) | (with_reducible refine L_pass (t := 31) rfl (by kernel_rfl) ?_) | (with_reducible refine L_pass (t := 32) rfl (by kernel_rfl) ?_) | (with_reducible refine L_pass (t := 33) rfl (by kernel_rfl) ?_))
   go_wp2_with (fail)
   exact HQ.out _ hst.tail
  ·have HU := Lib.hid hU
   clear hU hnx hb
   unfold errV at HU
   go_enter Tryz.func107, Tryz.ntmps107
   go_upto_region 1 with (go_big_may; fail)
   go_upto_region 2 with (go_big_may; (go_at_call 106; (try clear hnew); refine (HC.out _).mono ?_; rintro e Wk5 ⟨rfl, hnew⟩; replace hst := hst.keep hnew))
   go_upto_region 3 with (go_big_may; (go_at_call 132; (try clear hnew); refine (HU.out _).mono ?_; rintro e Wk6 ⟨rfl, hnew⟩; replace hst := hst.keep hnew))
   go_upto_region 4 with (first | (with_reducible refine L_pass (t := 27) rfl (by kernel_rfl) ?_) | (with_reducible refine L_pass (t := 28) rfl (by kernel_rfl) ?_) | (with_reducible refine L_pass (t := 31) rfl (by kernel_rfl) ?_) | (with_reducible refine L_pass (t := 32) rfl (by kernel_rfl) ?_) | (with_reducible refine L_pass (t := 33) rfl (by kernel_rfl) ?_))
   go_wp2_with (fail)
   exact HQ.out _ hst
set_option maxHeartbeats 16000000 in
set_option maxRecDepth 100000 in
theorem dadd_good (key : List UInt8) (s : DkS) (t : List UInt8) (p : LgP) (g gp : Nat) (w0 w : World) (L : List Res) (hT : Tb w0) (hP : Pz w0) (hst : St w0 w (lgL p key s.ns ++ (.blk g 125 (dkArr p.g gp) :: L))) (hm : MapsOf s.ns p.nm p.am) (hl : Logged s.ns) (ht : t.length ≤ 140737488351232) (hb : spI t < t.length ∧ hx64 (t.drop (spI t + 1))) :
  Calls Tryz.prog 107 #[.pointer (some ⟨g, 0, none⟩), .string (bsOf t)] w (DkAdd key s t p g gp w0 L) := by
 have HT := Lib.hid hT
 have HP := Lib.hid hP
 have hn := hl.len
 have HC := Lib.hid (fun w' => cut_any t w' (by omega))
 rewrite [decide_eq_true hb.1] at HC
 have HU := Lib.hid (fun w' => unhexP_yes (t.drop (spI t + 1)) hb.2 w')
 have HI := Lib.hid (fun (w' : World) (h : Pz w') => by
  have := itoa_any (s.ns.length : Int) (by omega) (by omega) w' h
  rewrite [itoa_nat] at this
  exact this)
 have HK := Lib.hid (key_put (t.drop (spI t + 1)))
 have HO := Lib.hid (show ∀ u ∈ bytesL (keyD (t.drop (spI t + 1))).l, u.oneCell' = true from oneCell_bytes)
 have HA := Lib.hid (fun (w' : World) (X : List Res) h => addU_any key s.ns (t.take (spI t)) (keyD (t.drop (spI t + 1))) p w0 w' X hT h hm hl)
 by_cases h0 : addE s.ns (t.take (spI t)) = 0
 ·have HQ := Lib.hid (fun (w' : World) (p' : LgP) (h1 : p'.g = p.g) (h2 : p'.m = p.m) (h3 : MapsOf (addL s.ns (t.take (spI t)) (keyD (t.drop (spI t + 1)))) p'.nm p'.am) (h : St w0 w' (lgL p' key (addL s.ns (t.take (spI t)) (keyD (t.drop (spI t + 1)))) ++ (.blk g 125 (dkArr p.g gp) :: L))) => show DkAdd key s t p g gp w0 L (.returned (.tuple #[.string (bsOf (Lib.decDigits s.ns.length)), .nilIface])) w' by
   unfold DkAdd addT
   rw [if_pos hb, if_pos h0]
   exact ⟨rfl, p', h1, h2, h3, h⟩)
  simp only [h0, if_true] at HA
  generalize DkAdd key s t p g gp w0 L = Q at *
  generalize addL s.ns (t.take (spI t)) (keyD (t.drop (spI t + 1))) = ns1 at *
  generalize Lib.decDigits s.ns.length = dn at *
  generalize t.take (spI t) = ta at *
  generalize t.drop (spI t + 1) = tb at *
  generalize keyD tb = kd at *
  generalize p.g = gl at *
  clear hT hP hm hl hb h0
  go_enter Tryz.func107, Tryz.ntmps107
  go_upto_region 1 with (go_big_may; fail)
  go_upto_region 2 with (go_big_may; (go_at_call 106; (try clear hnew); refine (HC.out _).mono ?_; rintro e Wk7 ⟨rfl, hnew⟩; replace hst := hst.keep hnew))
  go_upto_region 3 with (go_big_may; (go_at_call 132; (try clear hnew); refine (HU.out _).mono ?_; rintro e Wu ⟨Au, cu, rfl, hnew⟩; replace hst := hst.trans hnew; simp only [List.cons_append, List.nil_append] at hst))
  go_upto_region 5 with (go_big_may; fail)
  go_upto_region 6 with (go_big_may; (refine L_allocA (d := some 11) rfl rfl rfl el_api_Digest ?_; (try clear hnew); intro g11 W11 hnew; replace hst := hst.trans hnew; simp only [List.cons_append, List.nil_append] at hst))
  go_upto_region 7 with (go_big_may; first | (refine L_copyB rfl hst rfl Tryz.underlying22 (by kernel_rfl) (ev_tmp rfl) (ev_tmp rfl) (hst.sl 1 rfl) (Nat.le_refl _) (by decide) 0 rfl (by decide) HO.out ?_; clear hst; intro Wc hst; simp only [List.set_cons_zero, HK.out] at hst) | (refine L_sliceAll (d := some 36) rfl rfl rfl (by rfl) Tryz.underlying32 el_uint8 (by (exact hst.get 0 rfl)) (by (rfl)) (by decide) ?_; intro hs36))
  (try clear hnew)
  replace hst := St.swap (X := [_, _]) (Y := lgL p key s.ns) (L := .blk g _ _ :: L) hst
  refine wp_region_idx [(4, 0), (5, 0), (0, 2), (1, 2), (2, 2), (3, 2), (6, 1), (7, 2), (8, 0), (9, 0), (10, 2), (11, 2)] (by kernel_rfl) (by kernel_rfl) ?_
  replace hst := hst.drew
  refine idx_q rfl rfl ?_; go_wp2_with fail
  refine idx_q rfl rfl ?_; go_wp2_with (((refine L_loadA (d := some 45) rfl rfl rfl (by rfl) Tryz.underlying32 rfl el_api_Digest (by (exact hst.get 5 rfl)) (by (exact Dig.size _)) ?_)))
  refine idx_g rfl ?_; go_wp2_with fail; refine ⟨by (exact Below.refl _ _), ?_⟩
  refine idx_g rfl ?_; go_wp2_with fail; refine ⟨by (exact Below.refl _ _), ?_⟩
  refine idx_g rfl ?_; go_wp2_with fail; refine ⟨by (exact Below.refl _ _), ?_⟩
  refine idx_g rfl ?_; go_wp2_with ((refine L_load1 (d := some 43) rfl rfl rfl (by rfl) Tryz.underlying24 rfl (by (exact cell_of (hst.get 7 rfl) dkArr_0)) ?_)); refine ⟨by (exact Below.refl _ _), ?_⟩
  refine idx_e rfl ?_; go_wp2_with ((go_at_call 10; refine (HA.out _ _ hst).mono ?_; rintro e Wa ⟨rfl, q1, u1, u2, u3, hst'⟩; clear hst; have hst := hst'; clear hst'))
  refine idx_g rfl ?_; go_wp2_with fail; refine ⟨by (exact Below.refl _ _), ?_⟩
  refine idx_q rfl rfl ?_; go_wp2_with fail
  refine idx_q rfl rfl ?_; go_wp2_with fail
  refine idx_g rfl ?_; go_wp2_with fail; refine ⟨by (exact Below.refl _ _), ?_⟩
  refine idx_g rfl ?_; go_wp2_with fail; refine ⟨by (exact Below.refl _ _), ?_⟩
  refine idx_nil ?_
  replace hst := St.swap (X := lgL q1 key ns1) (Y := [_, _]) (L := .blk g _ _ :: L) hst
  go_upto_region 8 with fail
  go_upto_region 10 with (go_big_may; fail)
  go_wp2_with ((go_at_call 133; (try clear hnew); refine (HI.out _ (HP.out.of hst)).mono ?_; rintro e Wk8 ⟨rfl, hnew⟩; replace hst := hst.keep hnew))
  exact HQ.out _ q1 u1 u2 u3 hst.tail.tail
 ·have hns : addL s.ns (t.take (spI t)) (keyD (t.drop (spI t + 1))) = s.ns := by unfold addL; rw [if_neg h0]
  have HQ := Lib.hid (fun (w' : World) (p' : LgP) (h1 : p'.g = p.g) (h2 : p'.m = p.m) (h3 : MapsOf s.ns p'.nm p'.am) (h : St w0 w' (lgL p' key s.ns ++ (.blk g 125 (dkArr p.g gp) :: L))) => show DkAdd key s t p g gp w0 L (.returned (.tuple #[.string (bsOf []), errV (addE s.ns (t.take (spI t)))])) w' by
   unfold DkAdd addT
   rw [if_pos hb, if_neg h0]
   simp only
   rw [show errO (addE s.ns (t.take (spI t))) = errV (addE s.ns (t.take (spI t))) from if_neg h0]
   exact ⟨rfl, p', h1, h2, h3, h⟩)
  simp only [h0, if_false] at HA
  rewrite [hns] at HA
  unfold errV at HA HQ
  generalize addE s.ns (t.take (spI t)) = rr at *
  generalize DkAdd key s t p g gp w0 L = Q at *
  generalize t.take (spI t) = ta at *
  generalize t.drop (spI t + 1) = tb at *
  generalize keyD tb = kd at *
  generalize p.g = gl at *
  clear hT hP hm hl hb h0 hns HI
  go_enter Tryz.func107, Tryz.ntmps107
  go_upto_region 1 with (go_big_may; fail)
  go_upto_region 2 with (go_big_may; (go_at_call 106; (try clear hnew); refine (HC.out _).mono ?_; rintro e Wk9 ⟨rfl, hnew⟩; replace hst := hst.keep hnew))
  go_upto_region 3 with (go_big_may; (go_at_call 132; (try clear hnew); refine (HU.out _).mono ?_; rintro e Wu ⟨Au, cu, rfl, hnew⟩; replace hst := hst.trans hnew; simp only [List.cons_append, List.nil_append] at hst))
  go_upto_region 5 with (go_big_may; fail)
  go_upto_region 6 with (go_big_may; (refine L_allocA (d := some 11) rfl rfl rfl el_api_Digest ?_; (try clear hnew); intro g11 W11 hnew; replace hst := hst.trans hnew; simp only [List.cons_append, List.nil_append] at hst))
  go_upto_region 7 with (go_big_may; first | (refine L_copyB rfl hst rfl Tryz.underlying22 (by kernel_rfl) (ev_tmp rfl) (ev_tmp rfl) (hst.sl 1 rfl) (Nat.le_refl _) (by decide) 0 rfl (by decide) HO.out ?_; clear hst; intro Wc hst; simp only [List.set_cons_zero, HK.out] at hst) | (refine L_sliceAll (d := some 36) rfl rfl rfl (by rfl) Tryz.underlying32 el_uint8 (by (exact hst.get 0 rfl)) (by (rfl)) (by decide) ?_; intro hs36))
  (try clear hnew)
  replace hst := St.swap (X := [_, _]) (Y := lgL p key s.ns) (L := .blk g _ _ :: L) hst
  refine wp_region_idx [(4, 0), (5, 0), (0, 2), (1, 2), (2, 2), (3, 2), (6, 1), (7, 2), (8, 0), (9, 0), (10, 2), (11, 2)] (by kernel_rfl) (by kernel_rfl) ?_
  replace hst := hst.drew
  refine idx_q rfl rfl ?_; go_wp2_with fail
  refine idx_q rfl rfl ?_; go_wp2_with (((refine L_loadA (d := some 45) rfl rfl rfl (by rfl) Tryz.underlying32 rfl el_api_Digest (by (exact hst.get 5 rfl)) (by (exact Dig.size _)) ?_)))
  refine idx_g rfl ?_; go_wp2_with fail; refine ⟨by (exact Below.refl _ _), ?_⟩
  refine idx_g rfl ?_; go_wp2_with fail; refine ⟨by (exact Below.refl _ _), ?_⟩
  refine idx_g rfl ?_; go_wp2_with fail; refine ⟨by (exact Below.refl _ _), ?_⟩
  refine idx_g rfl ?_; go_wp2_with ((refine L_load1 (d := some 43) rfl rfl rfl (by rfl) Tryz.underlying24 rfl (by (exact cell_of (hst.get 7 rfl) dkArr_0)) ?_)); refine ⟨by (exact Below.refl _ _), ?_⟩
  refine idx_e rfl ?_; go_wp2_with ((go_at_call 10; refine (HA.out _ _ hst).mono ?_; rintro e Wa ⟨rfl, q1, u1, u2, u3, hst'⟩; clear hst; have hst := hst'; clear hst'))
  refine idx_g rfl ?_; go_wp2_with fail; refine ⟨by (exact Below.refl _ _), ?_⟩
  refine idx_q rfl rfl ?_; go_wp2_with fail
  refine idx_q rfl rfl ?_; go_wp2_with fail
  refine idx_g rfl ?_; go_wp2_with fail; refine ⟨by (exact Below.refl _ _), ?_⟩
  refine idx_g rfl ?_; go_wp2_with fail; refine ⟨by (exact Below.refl _ _), ?_⟩
  refine idx_nil ?_
  replace hst := St.swap (X := lgL q1 key s.ns) (Y := [_, _]) (L := .blk g _ _ :: L) hst
  go_upto_region 8 with fail
  go_upto_region 9 with (go_big_may; fail)
  go_wp2_with (fail)
  exact HQ.out _ q1 u1 u2 u3 hst.tail.tail
theorem dadd_any (key : List UInt8) (s : DkS) (t : List UInt8) (p : LgP) (g gp : Nat) (w0 w : World) (L : List Res) (hT : Tb w0) (hP : Pz w0) (hst : St w0 w (lgL p key s.ns ++ (.blk g 125 (dkArr p.g gp) :: L))) (hm : MapsOf s.ns p.nm p.am) (hl : Logged s.ns) (ht : t.length ≤ 140737488351232) :
  Calls Tryz.prog 107 #[.pointer (some ⟨g, 0, none⟩), .string (bsOf t)] w (DkAdd key s t p g gp w0 L) := by
 by_cases hb : spI t < t.length ∧ hx64 (t.drop (spI t + 1))
 ·exact dadd_good key s t p g gp w0 w L hT hP hst hm hl ht hb
 ·exact dadd_bad key s t p g gp w0 w L hst hm ht hb
end Go.Proofs.YtaebeemnipafbaaGreatDoor

set_option linter.unusedSimpArgs false
set_option linter.unusedVariables false
namespace Go.Proofs.YtaebeemnipafbaaGreatDoor
open Go.RowKit
def pinAft (r : Nat) (a b : Array Value) : Array Value := if r = 0 then b else a
attribute [local simp] pinArr_size hdArr_size
set_option maxHeartbeats 40000000 in
set_option maxRecDepth 100000 in
theorem ptake_gen (key : List UInt8) (g : Nat) (O : Option Addr) (m oc : Nat) (n0 : Int) (x0 y0 z0 : Dig) (n : Int) (x y z : Dig) (p : List Dig) (P : Option Addr) (k pc : Nat) (w0 w : World) (L : List Res) (hT : Tb w0) (hl : p.length = k) (hp : ∀ (W' : World) (X : List Res), St w0 W' (X ++ L) → SlR W' P k pc 32 (digsL p))
  (hst : St w0 w (.blk g 165 (pinArr O m oc n0 x0 y0 z0) :: .row O m oc 5 1 (bytesL key) :: L)) (hm : m ≤ 140737488355000) (hn1 : -9223372036854775808 ≤ n) (hn2 : n ≤ 9223372036854775807) (h0 : 0 ≤ n0) :
  Calls Tryz.prog 135 #[.pointer (some ⟨g, 0, none⟩), .agg (hdArr n x y z), .slice P k pc] w fun e w' => e = .returned (errO (takeN key n0 x0 y0 n x y z p)) ∧
   St w0 w' (.blk g 165 (pinAft (takeN key n0 x0 y0 n x y z p) (pinArr O m oc n0 x0 y0 z0) (pinArr O m oc n x y z)) :: .row O m oc 5 1 (bytesL key) :: L) := by
 have HT := Lib.hid hT
 have HC := Lib.hid (fun (w' : World) (ht : Tb w') (h1 : SlR w' O m oc 1 (bytesL key)) => told_tag_any key O m oc n x y z w' hn1 hn2 ht h1 hm)
 clear hT hn1 hn2 hm
 have HK := Lib.hid (fun (w' : World) (ht : Tb w') (hs : SlR w' P k pc 32 (digsL p)) => check_all n0 n x0 x p P k pc w' ht hs)
 obtain ⟨r, hr⟩ : ∃ r, r = takeN key n0 x0 y0 n x y z p := ⟨_, rfl⟩
 rw [← hr]
 unfold takeN at hr
 by_cases c1 : z = tagN key n x y
 ·rw [if_pos c1] at hr
  rw [decide_eq_true c1] at HC
  clear c1
  have HR := Lib.hid hr
  clear hr
  have hl0 := Lib.hid hl
  have h00 := Lib.hid h0
  clear hl h0
  go_enter Tryz.func135, Tryz.ntmps135
  go_upto_region 1 with (go_big_may; (refine L_boxA (d := some 4) rfl rfl rfl (ev_tmp rfl) ?_; (try clear hnew); intro g4 W4 hnew; replace hst := hst.trans hnew; simp only [List.cons_append, List.nil_append] at hst))
  go_upto_region 2 with (go_big_may; first | ((refine L_loadM (d := some 11) rfl rfl rfl (by rfl) Tryz.underlying41 rfl el_api_Head (by (exact pinArr_head (hst.get 1 rfl))) (by (exact hdArr_size _ _ _ _)) ?_)) | (refine L_allocA (d := some 7) rfl rfl rfl el_api_Head ?_; (try clear hnew); intro g7 W7 hnew; replace hst := hst.trans hnew; simp only [List.cons_append, List.nil_append] at hst) | (refine wpl_at (.store 41 (.tmp 7) (.tmp 11)) rfl ?_; (refine L_storeA rfl rfl hst rfl (by rfl) (ev_tmp rfl) (by (exact hdArr_all _ _ _ _)) el_api_Head (by (exact hdArr_size _ _ _ _)) 0 rfl (by (rfl)) ?_; clear hst; intro WS5 hst; simp only [List.set_cons_zero, List.set_cons_succ] at hst)))
  refine wp_region_idx [(0, 0), (1, 0), (2, 0), (3, 0), (4, 2), (5, 2), (6, 2), (7, 2)] (by kernel_rfl) (by kernel_rfl) ?_
  replace hst := hst.drew
  refine idx_q rfl rfl ?_; go_wp2_with fail
  refine idx_q rfl rfl ?_; go_wp2_with fail
  refine idx_qf rfl rfl (by kernel_rfl) ?_; go_wp2_with fail
  refine idx_q rfl rfl ?_; go_wp2_with ((refine L_load1 (d := some 16) rfl rfl rfl (by rfl) Tryz.underlying22 rfl (by (exact cell_of (hst.get 2 rfl) pinArr_0)) ?_))
  refine idx_g rfl ?_; go_wp2_with (((refine L_loadA (d := some 17) rfl rfl rfl (by rfl) Tryz.underlying41 rfl el_api_Head (by (exact hst.get 1 rfl)) (by (exact hdArr_size _ _ _ _)) ?_))); refine ⟨by (exact Below.refl _ _), ?_⟩
  refine idx_g rfl ?_; go_wp2_with ((go_at_call 151; refine (HC.out _ (HT.out.of hst) (hst.sl 3 rfl)).mono ?_; rintro e Wt ⟨rfl, hnew⟩; replace hst := hst.keep hnew)); refine ⟨by (exact hnew.below), ?_⟩
  refine idx_g rfl ?_; go_wp2_with fail; refine ⟨by (exact Below.refl _ _), ?_⟩
  refine idx_g rfl ?_; go_wp2_with fail; refine ⟨by (exact Below.refl _ _), ?_⟩
  refine idx_nil ?_
  by_cases c2 : n < 0
  ·have hr := HR.out
   clear HR
   rw [if_pos (Or.inl c2)] at hr
   have HR := Lib.hid hr
   clear hr
   go_upto_region 5 with (go_big_may; (refine L_load1 (d := some 23) rfl rfl rfl (by rfl) Tryz.underlying3 rfl (by (exact cell_of (hst.get 1 rfl) hdArr_0)) ?_))
   go_wp2_with (fail)
   go_ret
   obtain rfl : r = 2 := HR.out
   refine ⟨?_, hst.tail.tail⟩
   show _ = Ending.returned (errV 2)
   rfl
  by_cases c3 : 256 < n
  ·have hr := HR.out
   clear HR
   rw [if_pos (Or.inr c3)] at hr
   have HR := Lib.hid hr
   clear hr
   go_upto_region 5 with (go_big_may; first | (refine L_load1 (d := some 23) rfl rfl rfl (by rfl) Tryz.underlying3 rfl (by (exact cell_of (hst.get 1 rfl) hdArr_0)) ?_) | (refine L_load1 (d := some 27) rfl rfl rfl (by rfl) Tryz.underlying3 rfl (by (exact cell_of (hst.get 1 rfl) hdArr_0)) ?_))
   go_wp2_with (fail)
   go_ret
   obtain rfl : r = 2 := HR.out
   refine ⟨?_, hst.tail.tail⟩
   show _ = Ending.returned (errV 2)
   rfl
  have hr := HR.out
  clear HR
  rw [if_neg (not_or.2 ⟨c2, c3⟩)] at hr
  have HR := Lib.hid hr
  clear hr
  by_cases c4 : n < n0
  ·have hr := HR.out
   clear HR
   rw [if_pos c4] at hr
   have HR := Lib.hid hr
   clear hr
   go_upto_region 6 with (go_big_may; first | (refine L_load1 (d := some 23) rfl rfl rfl (by rfl) Tryz.underlying3 rfl (by (exact cell_of (hst.get 1 rfl) hdArr_0)) ?_) | (refine L_load1 (d := some 27) rfl rfl rfl (by rfl) Tryz.underlying3 rfl (by (exact cell_of (hst.get 1 rfl) hdArr_0)) ?_))
   go_upto_region 7 with (go_big_may; first | (refine L_load1 (d := some 33) rfl rfl rfl (by rfl) Tryz.underlying3 rfl (by (exact cell_of (hst.get 1 rfl) hdArr_0)) ?_) | (refine L_load1 (d := some 35) rfl rfl rfl (by rfl) Tryz.underlying3 rfl (by (exact cell_of (hst.get 0 rfl) hdArr_0)) ?_))
   go_wp2_with (fail)
   go_ret
   obtain rfl : r = 8 := HR.out
   refine ⟨?_, hst.tail.tail⟩
   show _ = Ending.returned (errV 8)
   rfl
  have hr := HR.out
  clear HR
  rw [if_neg c4] at hr
  have HR := Lib.hid hr
  clear hr
  by_cases c5 : n = n0
  ·subst c5
   have hr := HR.out
   clear HR
   rw [if_pos rfl] at hr
   have HR := Lib.hid hr
   clear hr
   by_cases c6 : x = x0
   ·have hx := dNe x0
    subst c6
    by_cases c7 : y = y0
    ·subst c7
     have hr := HR.out
     clear HR
     rw [if_pos ⟨rfl, rfl⟩] at hr
     have HR := Lib.hid hr
     clear hr
     go_upto_region 6 with (go_big_may; first | (refine L_load1 (d := some 23) rfl rfl rfl (by rfl) Tryz.underlying3 rfl (by (exact cell_of (hst.get 1 rfl) hdArr_0)) ?_) | (refine L_load1 (d := some 27) rfl rfl rfl (by rfl) Tryz.underlying3 rfl (by (exact cell_of (hst.get 1 rfl) hdArr_0)) ?_))
     go_upto_region 8 with (go_big_may; first | (refine L_load1 (d := some 33) rfl rfl rfl (by rfl) Tryz.underlying3 rfl (by (exact cell_of (hst.get 1 rfl) hdArr_0)) ?_) | (refine L_load1 (d := some 35) rfl rfl rfl (by rfl) Tryz.underlying3 rfl (by (exact cell_of (hst.get 0 rfl) hdArr_0)) ?_))
     go_upto_region 9 with (go_big_may; first | (refine L_load1 (d := some 40) rfl rfl rfl (by rfl) Tryz.underlying3 rfl (by (exact cell_of (hst.get 1 rfl) hdArr_0)) ?_) | (refine L_load1 (d := some 42) rfl rfl rfl (by rfl) Tryz.underlying3 rfl (by (exact cell_of (hst.get 0 rfl) hdArr_0)) ?_))
     go_upto_region 16 with (go_big_may; first | ((refine L_loadM (d := some 45) rfl rfl rfl (by rfl) Tryz.underlying32 rfl el_api_Digest (by (exact hdArr_root (hst.get 1 rfl))) (by (exact Dig.size _)) ?_)) | ((refine L_loadM (d := some 47) rfl rfl rfl (by rfl) Tryz.underlying32 rfl el_api_Digest (by (exact hdArr_root (hst.get 0 rfl))) (by (exact Dig.size _)) ?_)) | (refine L_neD (d := some 48) rfl rfl rfl Tryz.underlying32 Tryz.underlying5 el_uint8 eqG_D (ev_tmp rfl) (ev_tmp rfl) ?_; (try rw [dNe _])) | ((refine L_loadM (d := some 51) rfl rfl rfl (by rfl) Tryz.underlying32 rfl el_api_Digest (by (exact hdArr_map (hst.get 1 rfl))) (by (exact Dig.size _)) ?_)) | ((refine L_loadM (d := some 53) rfl rfl rfl (by rfl) Tryz.underlying32 rfl el_api_Digest (by (exact hdArr_map (hst.get 0 rfl))) (by (exact Dig.size _)) ?_)) | (refine L_neD (d := some 54) rfl rfl rfl Tryz.underlying32 Tryz.underlying5 el_uint8 eqG_D (ev_tmp rfl) (ev_tmp rfl) ?_; (try rw [dNe _])))
     go_upto_region 17 with (go_big_may; first | ((refine L_loadA (d := some 79) rfl rfl rfl (by rfl) Tryz.underlying41 rfl el_api_Head (by (exact hst.get 1 rfl)) (by (exact hdArr_size _ _ _ _)) ?_)) | (refine wpl_at (.store 41 (.tmp 81) (.tmp 79)) rfl ?_; (refine L_storeM rfl rfl hst rfl (by rfl) (ev_tmp rfl) (by (exact hdArr_all _ _ _ _)) el_api_Head (by (exact hdArr_size _ _ _ _)) 2 rfl (by (simp; done)) ?_; clear hst; intro WS4 hst; simp only [List.set_cons_zero, List.set_cons_succ, pinArr_put _ _ _ _ _ _ _ _ _ _ _] at hst)))
     go_wp2_with (fail)
     go_ret
     obtain rfl : r = 0 := HR.out
     refine ⟨?_, hst.tail.tail⟩
     show _ = Ending.returned .nilIface
     rfl
    ·have hr := HR.out
     clear HR
     rw [if_neg (fun h => c7 h.2)] at hr
     have HR := Lib.hid hr
     clear hr
     go_upto_region 6 with (go_big_may; first | (refine L_load1 (d := some 23) rfl rfl rfl (by rfl) Tryz.underlying3 rfl (by (exact cell_of (hst.get 1 rfl) hdArr_0)) ?_) | (refine L_load1 (d := some 27) rfl rfl rfl (by rfl) Tryz.underlying3 rfl (by (exact cell_of (hst.get 1 rfl) hdArr_0)) ?_))
     go_upto_region 8 with (go_big_may; first | (refine L_load1 (d := some 33) rfl rfl rfl (by rfl) Tryz.underlying3 rfl (by (exact cell_of (hst.get 1 rfl) hdArr_0)) ?_) | (refine L_load1 (d := some 35) rfl rfl rfl (by rfl) Tryz.underlying3 rfl (by (exact cell_of (hst.get 0 rfl) hdArr_0)) ?_))
     go_upto_region 9 with (go_big_may; first | (refine L_load1 (d := some 40) rfl rfl rfl (by rfl) Tryz.underlying3 rfl (by (exact cell_of (hst.get 1 rfl) hdArr_0)) ?_) | (refine L_load1 (d := some 42) rfl rfl rfl (by rfl) Tryz.underlying3 rfl (by (exact cell_of (hst.get 0 rfl) hdArr_0)) ?_))
     go_upto_region 10 with (go_big_may; first | ((refine L_loadM (d := some 45) rfl rfl rfl (by rfl) Tryz.underlying32 rfl el_api_Digest (by (exact hdArr_root (hst.get 1 rfl))) (by (exact Dig.size _)) ?_)) | ((refine L_loadM (d := some 47) rfl rfl rfl (by rfl) Tryz.underlying32 rfl el_api_Digest (by (exact hdArr_root (hst.get 0 rfl))) (by (exact Dig.size _)) ?_)) | (refine L_neD (d := some 48) rfl rfl rfl Tryz.underlying32 Tryz.underlying5 el_uint8 eqG_D (ev_tmp rfl) (ev_tmp rfl) ?_; (try rw [dNe _])) | ((refine L_loadM (d := some 51) rfl rfl rfl (by rfl) Tryz.underlying32 rfl el_api_Digest (by (exact hdArr_map (hst.get 1 rfl))) (by (exact Dig.size _)) ?_)) | ((refine L_loadM (d := some 53) rfl rfl rfl (by rfl) Tryz.underlying32 rfl el_api_Digest (by (exact hdArr_map (hst.get 0 rfl))) (by (exact Dig.size _)) ?_)) | (refine L_neD (d := some 54) rfl rfl rfl Tryz.underlying32 Tryz.underlying5 el_uint8 eqG_D (ev_tmp rfl) (ev_tmp rfl) ?_; (try rw [dNe _])))
     go_wp2_with (fail)
     go_ret
     obtain rfl : r = 9 := HR.out
     refine ⟨?_, hst.tail.tail⟩
     show _ = Ending.returned (errV 9)
     rfl
   ·have hr := HR.out
    clear HR
    rw [if_neg (fun h => c6 h.1)] at hr
    have HR := Lib.hid hr
    clear hr
    go_upto_region 6 with (go_big_may; first | (refine L_load1 (d := some 23) rfl rfl rfl (by rfl) Tryz.underlying3 rfl (by (exact cell_of (hst.get 1 rfl) hdArr_0)) ?_) | (refine L_load1 (d := some 27) rfl rfl rfl (by rfl) Tryz.underlying3 rfl (by (exact cell_of (hst.get 1 rfl) hdArr_0)) ?_))
    go_upto_region 8 with (go_big_may; first | (refine L_load1 (d := some 33) rfl rfl rfl (by rfl) Tryz.underlying3 rfl (by (exact cell_of (hst.get 1 rfl) hdArr_0)) ?_) | (refine L_load1 (d := some 35) rfl rfl rfl (by rfl) Tryz.underlying3 rfl (by (exact cell_of (hst.get 0 rfl) hdArr_0)) ?_))
    go_upto_region 9 with (go_big_may; first | (refine L_load1 (d := some 40) rfl rfl rfl (by rfl) Tryz.underlying3 rfl (by (exact cell_of (hst.get 1 rfl) hdArr_0)) ?_) | (refine L_load1 (d := some 42) rfl rfl rfl (by rfl) Tryz.underlying3 rfl (by (exact cell_of (hst.get 0 rfl) hdArr_0)) ?_))
    go_upto_region 10 with (go_big_may; first | ((refine L_loadM (d := some 45) rfl rfl rfl (by rfl) Tryz.underlying32 rfl el_api_Digest (by (exact hdArr_root (hst.get 1 rfl))) (by (exact Dig.size _)) ?_)) | ((refine L_loadM (d := some 47) rfl rfl rfl (by rfl) Tryz.underlying32 rfl el_api_Digest (by (exact hdArr_root (hst.get 0 rfl))) (by (exact Dig.size _)) ?_)) | (refine L_neD (d := some 48) rfl rfl rfl Tryz.underlying32 Tryz.underlying5 el_uint8 eqG_D (ev_tmp rfl) (ev_tmp rfl) ?_))
    go_wp2_with (fail)
    go_ret
    obtain rfl : r = 9 := HR.out
    refine ⟨?_, hst.tail.tail⟩
    show _ = Ending.returned (errV 9)
    rfl
  have hr := HR.out
  clear HR
  rw [if_neg c5] at hr
  have HR := Lib.hid hr
  clear hr
  by_cases c6 : n0 = 0
  ·subst c6
   have hr := HR.out
   clear HR
   rw [if_pos rfl] at hr
   have HR := Lib.hid hr
   clear hr
   have hl := hl0.out
   by_cases c7 : p = []
   ·subst c7
    obtain rfl : k = 0 := by simpa using hl.symm
    clear hl hl0
    have hr := HR.out
    clear HR
    rw [if_pos rfl] at hr
    have HR := Lib.hid hr
    clear hr
    go_upto_region 6 with (go_big_may; first | (refine L_load1 (d := some 23) rfl rfl rfl (by rfl) Tryz.underlying3 rfl (by (exact cell_of (hst.get 1 rfl) hdArr_0)) ?_) | (refine L_load1 (d := some 27) rfl rfl rfl (by rfl) Tryz.underlying3 rfl (by (exact cell_of (hst.get 1 rfl) hdArr_0)) ?_))
    go_upto_region 8 with (go_big_may; first | (refine L_load1 (d := some 33) rfl rfl rfl (by rfl) Tryz.underlying3 rfl (by (exact cell_of (hst.get 1 rfl) hdArr_0)) ?_) | (refine L_load1 (d := some 35) rfl rfl rfl (by rfl) Tryz.underlying3 rfl (by (exact cell_of (hst.get 0 rfl) hdArr_0)) ?_))
    go_upto_region 11 with (go_big_may; first | (refine L_load1 (d := some 40) rfl rfl rfl (by rfl) Tryz.underlying3 rfl (by (exact cell_of (hst.get 1 rfl) hdArr_0)) ?_) | (refine L_load1 (d := some 42) rfl rfl rfl (by rfl) Tryz.underlying3 rfl (by (exact cell_of (hst.get 0 rfl) hdArr_0)) ?_))
    go_upto_region 12 with (go_big_may; (refine L_load1 (d := some 59) rfl rfl rfl (by rfl) Tryz.underlying3 rfl (by (exact cell_of (hst.get 0 rfl) hdArr_0)) ?_))
    go_upto_region 16 with (go_big_may; fail)
    go_upto_region 17 with (go_big_may; first | ((refine L_loadA (d := some 79) rfl rfl rfl (by rfl) Tryz.underlying41 rfl el_api_Head (by (exact hst.get 1 rfl)) (by (exact hdArr_size _ _ _ _)) ?_)) | (refine wpl_at (.store 41 (.tmp 81) (.tmp 79)) rfl ?_; (refine L_storeM rfl rfl hst rfl (by rfl) (ev_tmp rfl) (by (exact hdArr_all _ _ _ _)) el_api_Head (by (exact hdArr_size _ _ _ _)) 2 rfl (by (simp; done)) ?_; clear hst; intro WS4 hst; simp only [List.set_cons_zero, List.set_cons_succ, pinArr_put _ _ _ _ _ _ _ _ _ _ _] at hst)))
    go_wp2_with (fail)
    go_ret
    obtain rfl : r = 0 := HR.out
    refine ⟨?_, hst.tail.tail⟩
    show _ = Ending.returned .nilIface
    rfl
   ·have hk0 : (0 : Int) < (k : Int) := by
     have := List.length_pos_iff.2 c7
     omega
    clear hl hl0
    have hr := HR.out
    clear HR
    rw [if_neg c7] at hr
    have HR := Lib.hid hr
    clear hr
    go_upto_region 6 with (go_big_may; first | (refine L_load1 (d := some 23) rfl rfl rfl (by rfl) Tryz.underlying3 rfl (by (exact cell_of (hst.get 1 rfl) hdArr_0)) ?_) | (refine L_load1 (d := some 27) rfl rfl rfl (by rfl) Tryz.underlying3 rfl (by (exact cell_of (hst.get 1 rfl) hdArr_0)) ?_))
    go_upto_region 8 with (go_big_may; first | (refine L_load1 (d := some 33) rfl rfl rfl (by rfl) Tryz.underlying3 rfl (by (exact cell_of (hst.get 1 rfl) hdArr_0)) ?_) | (refine L_load1 (d := some 35) rfl rfl rfl (by rfl) Tryz.underlying3 rfl (by (exact cell_of (hst.get 0 rfl) hdArr_0)) ?_))
    go_upto_region 11 with (go_big_may; first | (refine L_load1 (d := some 40) rfl rfl rfl (by rfl) Tryz.underlying3 rfl (by (exact cell_of (hst.get 1 rfl) hdArr_0)) ?_) | (refine L_load1 (d := some 42) rfl rfl rfl (by rfl) Tryz.underlying3 rfl (by (exact cell_of (hst.get 0 rfl) hdArr_0)) ?_))
    go_upto_region 12 with (go_big_may; (refine L_load1 (d := some 59) rfl rfl rfl (by rfl) Tryz.underlying3 rfl (by (exact cell_of (hst.get 0 rfl) hdArr_0)) ?_))
    go_upto_region 13 with (go_big_may; fail)
    go_wp2_with (fail)
    go_ret
    obtain rfl : r = 9 := HR.out
    refine ⟨?_, hst.tail.tail⟩
    show _ = Ending.returned (errV 9)
    rfl
  have hr := HR.out
  clear HR
  rw [if_neg c6] at hr
  have HR := Lib.hid hr
  clear hr
  by_cases c7 : growsB n0 n x0 x p = true
  ·have hr := HR.out
   clear HR
   rw [if_pos c7] at hr
   have HR := Lib.hid hr
   clear hr
   rw [c7] at HK
   go_upto_region 6 with (go_big_may; first | (refine L_load1 (d := some 23) rfl rfl rfl (by rfl) Tryz.underlying3 rfl (by (exact cell_of (hst.get 1 rfl) hdArr_0)) ?_) | (refine L_load1 (d := some 27) rfl rfl rfl (by rfl) Tryz.underlying3 rfl (by (exact cell_of (hst.get 1 rfl) hdArr_0)) ?_))
   go_upto_region 8 with (go_big_may; first | (refine L_load1 (d := some 33) rfl rfl rfl (by rfl) Tryz.underlying3 rfl (by (exact cell_of (hst.get 1 rfl) hdArr_0)) ?_) | (refine L_load1 (d := some 35) rfl rfl rfl (by rfl) Tryz.underlying3 rfl (by (exact cell_of (hst.get 0 rfl) hdArr_0)) ?_))
   go_upto_region 11 with (go_big_may; first | (refine L_load1 (d := some 40) rfl rfl rfl (by rfl) Tryz.underlying3 rfl (by (exact cell_of (hst.get 1 rfl) hdArr_0)) ?_) | (refine L_load1 (d := some 42) rfl rfl rfl (by rfl) Tryz.underlying3 rfl (by (exact cell_of (hst.get 0 rfl) hdArr_0)) ?_))
   go_upto_region 14 with (go_big_may; (refine L_load1 (d := some 59) rfl rfl rfl (by rfl) Tryz.underlying3 rfl (by (exact cell_of (hst.get 0 rfl) hdArr_0)) ?_))
   go_upto_region 16 with (go_big_may; first | (go_at_call 152; refine (HK.out _ (HT.out.of hst) (by (exact hp _ [_, _, _, _] hst))).mono ?_; rintro e Wk ⟨rfl, hnew⟩; replace hst := hst.keep hnew) | (refine L_load1 (d := some 67) rfl rfl rfl (by rfl) Tryz.underlying3 rfl (by (exact cell_of (hst.get 0 rfl) hdArr_0)) ?_) | (refine L_load1 (d := some 69) rfl rfl rfl (by rfl) Tryz.underlying3 rfl (by (exact cell_of (hst.get 1 rfl) hdArr_0)) ?_) | ((refine L_loadM (d := some 71) rfl rfl rfl (by rfl) Tryz.underlying32 rfl el_api_Digest (by (exact hdArr_root (hst.get 0 rfl))) (by (exact Dig.size _)) ?_)) | ((refine L_loadM (d := some 73) rfl rfl rfl (by rfl) Tryz.underlying32 rfl el_api_Digest (by (exact hdArr_root (hst.get 1 rfl))) (by (exact Dig.size _)) ?_)))
   go_upto_region 17 with (go_big_may; first | ((refine L_loadA (d := some 79) rfl rfl rfl (by rfl) Tryz.underlying41 rfl el_api_Head (by (exact hst.get 1 rfl)) (by (exact hdArr_size _ _ _ _)) ?_)) | (refine wpl_at (.store 41 (.tmp 81) (.tmp 79)) rfl ?_; (refine L_storeM rfl rfl hst rfl (by rfl) (ev_tmp rfl) (by (exact hdArr_all _ _ _ _)) el_api_Head (by (exact hdArr_size _ _ _ _)) 2 rfl (by (simp; done)) ?_; clear hst; intro WS4 hst; simp only [List.set_cons_zero, List.set_cons_succ, pinArr_put _ _ _ _ _ _ _ _ _ _ _] at hst)))
   go_wp2_with (fail)
   go_ret
   obtain rfl : r = 0 := HR.out
   refine ⟨?_, hst.tail.tail⟩
   show _ = Ending.returned .nilIface
   rfl
  ·have hr := HR.out
   clear HR
   rw [if_neg c7] at hr
   have HR := Lib.hid hr
   clear hr
   rw [Bool.eq_false_iff.2 c7] at HK
   go_upto_region 6 with (go_big_may; first | (refine L_load1 (d := some 23) rfl rfl rfl (by rfl) Tryz.underlying3 rfl (by (exact cell_of (hst.get 1 rfl) hdArr_0)) ?_) | (refine L_load1 (d := some 27) rfl rfl rfl (by rfl) Tryz.underlying3 rfl (by (exact cell_of (hst.get 1 rfl) hdArr_0)) ?_))
   go_upto_region 8 with (go_big_may; first | (refine L_load1 (d := some 33) rfl rfl rfl (by rfl) Tryz.underlying3 rfl (by (exact cell_of (hst.get 1 rfl) hdArr_0)) ?_) | (refine L_load1 (d := some 35) rfl rfl rfl (by rfl) Tryz.underlying3 rfl (by (exact cell_of (hst.get 0 rfl) hdArr_0)) ?_))
   go_upto_region 11 with (go_big_may; first | (refine L_load1 (d := some 40) rfl rfl rfl (by rfl) Tryz.underlying3 rfl (by (exact cell_of (hst.get 1 rfl) hdArr_0)) ?_) | (refine L_load1 (d := some 42) rfl rfl rfl (by rfl) Tryz.underlying3 rfl (by (exact cell_of (hst.get 0 rfl) hdArr_0)) ?_))
   go_upto_region 14 with (go_big_may; (refine L_load1 (d := some 59) rfl rfl rfl (by rfl) Tryz.underlying3 rfl (by (exact cell_of (hst.get 0 rfl) hdArr_0)) ?_))
   go_upto_region 15 with (go_big_may; first | (go_at_call 152; refine (HK.out _ (HT.out.of hst) (by (exact hp _ [_, _, _, _] hst))).mono ?_; rintro e Wk ⟨rfl, hnew⟩; replace hst := hst.keep hnew) | (refine L_load1 (d := some 67) rfl rfl rfl (by rfl) Tryz.underlying3 rfl (by (exact cell_of (hst.get 0 rfl) hdArr_0)) ?_) | (refine L_load1 (d := some 69) rfl rfl rfl (by rfl) Tryz.underlying3 rfl (by (exact cell_of (hst.get 1 rfl) hdArr_0)) ?_) | ((refine L_loadM (d := some 71) rfl rfl rfl (by rfl) Tryz.underlying32 rfl el_api_Digest (by (exact hdArr_root (hst.get 0 rfl))) (by (exact Dig.size _)) ?_)) | ((refine L_loadM (d := some 73) rfl rfl rfl (by rfl) Tryz.underlying32 rfl el_api_Digest (by (exact hdArr_root (hst.get 1 rfl))) (by (exact Dig.size _)) ?_)))
   go_wp2_with (fail)
   go_ret
   obtain rfl : r = 9 := HR.out
   refine ⟨?_, hst.tail.tail⟩
   show _ = Ending.returned (errV 9)
   rfl
 ·rw [if_neg c1] at hr
  rw [decide_eq_false c1] at HC
  have HR := Lib.hid hr
  clear h0 hp hl c1 HK hr
  go_enter Tryz.func135, Tryz.ntmps135
  go_upto_region 1 with (go_big_may; (refine L_boxA (d := some 4) rfl rfl rfl (ev_tmp rfl) ?_; (try clear hnew); intro g4 W4 hnew; replace hst := hst.trans hnew; simp only [List.cons_append, List.nil_append] at hst))
  go_upto_region 2 with (go_big_may; first | ((refine L_loadM (d := some 11) rfl rfl rfl (by rfl) Tryz.underlying41 rfl el_api_Head (by (exact pinArr_head (hst.get 1 rfl))) (by (exact hdArr_size _ _ _ _)) ?_)) | (refine L_allocA (d := some 7) rfl rfl rfl el_api_Head ?_; (try clear hnew); intro g7 W7 hnew; replace hst := hst.trans hnew; simp only [List.cons_append, List.nil_append] at hst) | (refine wpl_at (.store 41 (.tmp 7) (.tmp 11)) rfl ?_; (refine L_storeA rfl rfl hst rfl (by rfl) (ev_tmp rfl) (by (exact hdArr_all _ _ _ _)) el_api_Head (by (exact hdArr_size _ _ _ _)) 0 rfl (by (rfl)) ?_; clear hst; intro WS5 hst; simp only [List.set_cons_zero, List.set_cons_succ] at hst)))
  refine wp_region_idx [(0, 0), (1, 0), (2, 0), (3, 0), (4, 2), (5, 2), (6, 2), (7, 2)] (by kernel_rfl) (by kernel_rfl) ?_
  replace hst := hst.drew
  refine idx_q rfl rfl ?_; go_wp2_with fail
  refine idx_q rfl rfl ?_; go_wp2_with fail
  refine idx_qf rfl rfl (by kernel_rfl) ?_; go_wp2_with fail
  refine idx_q rfl rfl ?_; go_wp2_with ((refine L_load1 (d := some 16) rfl rfl rfl (by rfl) Tryz.underlying22 rfl (by (exact cell_of (hst.get 2 rfl) pinArr_0)) ?_))
  refine idx_g rfl ?_; go_wp2_with (((refine L_loadA (d := some 17) rfl rfl rfl (by rfl) Tryz.underlying41 rfl el_api_Head (by (exact hst.get 1 rfl)) (by (exact hdArr_size _ _ _ _)) ?_))); refine ⟨by (exact Below.refl _ _), ?_⟩
  refine idx_g rfl ?_; go_wp2_with ((go_at_call 151; refine (HC.out _ (HT.out.of hst) (hst.sl 3 rfl)).mono ?_; rintro e Wt ⟨rfl, hnew⟩; replace hst := hst.keep hnew)); refine ⟨by (exact hnew.below), ?_⟩
  refine idx_g rfl ?_; go_wp2_with fail; refine ⟨by (exact Below.refl _ _), ?_⟩
  refine idx_g rfl ?_; go_wp2_with fail; refine ⟨by (exact Below.refl _ _), ?_⟩
  refine idx_nil ?_
  go_wp2_with fail
  go_ret
  obtain rfl : r = 1 := HR.out
  refine ⟨?_, hst.tail.tail⟩
  show _ = Ending.returned (errV 1)
  rfl
end Go.Proofs.YtaebeemnipafbaaGreatDoor

set_option maxRecDepth 20000
set_option linter.unusedSimpArgs false
set_option linter.unusedVariables false
namespace Go.Proofs.YtaebeemnipafbaaGreatDoor
open Go.RowKit
attribute [local simp] hdArr_size ntArr_size
section
variable {P : Program} {ops : Array Oper} {rest : List Oper} {o : Oper} {a : Act} {W : World} {Q : Exit → Act → World → Prop} {d : Option Tmp}
theorem L_fieldC (hd : o.dst = d) (hw : Region.wanted o (yielded ops a.tmps) = true) {T : TypeId} {x : Operand} {k : Nat} (ho : o.op = .field T x k) {fs : Array Field} (hu : P.underlying T = some (.struct fs)) {fl : Field} (hf : fs[k]? = some fl) {cs : Array Value} (hx : a.eval x = .agg cs)
  {td : TypeDesc} (ht : P.underlying fl.type = some td) (hr : td.isRow = false) {v : Value} (hv : cs[fl.offset]? = some v)
  (h : wpList P ops Q rest (a.put d v) W) : wpList P ops Q (o :: rest) a W := by
 refine L_val hd hw ?_ h
 unfold execOp
 simp only [ho, hx]
 simp [Instr.field, run_underlying hu, hf, asAgg, run_part1 ht hr hv]
end
def pinS (gp : Nat) (O : Option Addr) (m oc : Nat) (ns : List NoteN) (j : Nat) (z : Dig) : Res := .blk gp 165 (pinArr O m oc (j : Int) (rootN (lvN (ns.take j))) (mapN (ns.take j)) z)
set_option maxHeartbeats 16000000 in
set_option maxRecDepth 100000 in
theorem dtake_any (key : List UInt8) (s : DkS) (p : LgP) (g gp m oc : Nat) (O : Option Addr) (w0 w : World) (L : List Res) (hT : Tb w0) (hst : St w0 w (lgL p key s.ns ++ (.blk g 125 (dkArr p.g gp) :: pinS gp O m oc s.ns s.j s.z :: .row O m oc 5 1 (bytesL key) :: L))) (hm : MapsOf s.ns p.nm p.am) (hok : DkOk s) (hpm : p.m ≤ 140737488351232) (hm2 : m ≤ 140737488351232) :
  Calls Tryz.prog 111 #[.pointer (some ⟨g, 0, none⟩)] w fun e w' => e = .returned .nilIface ∧ St w0 w' (lgL p key s.ns ++ (.blk g 125 (dkArr p.g gp) :: pinS gp O m oc s.ns s.ns.length (headR key s.ns) :: .row O m oc 5 1 (bytesL key) :: L)) := by
 obtain ⟨ns, j, z⟩ := s
 obtain ⟨hl, hj⟩ := hok
 simp only at *
 have hn := hl.len
 have HT := Lib.hid hT
 have HH := Lib.hid (fun (w' : World) (ht : Tb w') (h : LgAt w' p key ns) => headK_any key ns p w' ht h hm hl (by omega))
 have hTk := take_honest key hj hn
 rewrite [show tagN key (ns.length : Int) (rootN (lvN ns)) (mapN ns) = headR key ns from rfl] at hTk
 have HTL := Lib.hid (List.take_length (l := ns))
 unfold pinS at *
 rewrite [HTL.out]
 by_cases hj0 : j = 0
 ·subst hj0
  have hpr : prfN ns 0 = [] := if_pos rfl
  rewrite [hpr] at hTk
  have HK := Lib.hid (fun (w' : World) (L' : List Res) h => by
   have := ptake_gen key gp O m oc ((0 : Nat) : Int) (rootN (lvN (ns.take 0))) (mapN (ns.take 0)) z (ns.length : Int) (rootN (lvN ns)) (mapN ns) (headR key ns) [] none 0 0 w0 w' L' hT rfl (fun W' X _ => SlR.nil_ W' 32) h (by omega) (by omega) (by omega) (by omega)
   rewrite [hTk] at this
   exact this)
  generalize rootN (lvN (ns.take 0)) = rx at *
  generalize mapN (ns.take 0) = ry at *
  generalize rootN (lvN ns) = rt at *
  generalize mapN ns = mp at *
  generalize headR key ns = hr at *
  clear hTk hpr hT hm hl hj
  obtain ⟨pg, pm, pc, plc, pMn, pMa, pA, pO, pnm, pam⟩ := p
  simp only [lgL, List.cons_append, List.nil_append] at hst HH hpm
  have e0 : decide ((0 : Int) < ((0 : Nat) : Int)) = false := by decide
  go_enter Tryz.func111, Tryz.ntmps111
  go_upto_region 1 with (go_big_may; fail)
  go_upto_region 2 with (go_big_may; fail)
  go_upto_region 3 with (go_big_may; first | (refine L_fieldC (d := some 12) rfl rfl rfl Tryz.underlying41 rfl (ev_tmp rfl) Tryz.underlying3 rfl hdArr_0 ?_) | (go_at_call 110; (try clear hnew); refine (held_any _ _ _ _ _ _ _ _ _ _ _ (hst.get 6 rfl)).mono ?_; rintro e Wh ⟨rfl, hnew⟩; replace hst := hst.keep hnew) | (refine L_load1 (d := some 10) rfl rfl rfl (by rfl) Tryz.underlying122 rfl (by (exact cell_of (hst.get 5 rfl) dkArr_1)) ?_))
  go_upto_region 8 with (go_big_may; fail)
  (try clear hnew)
  refine wp_region_idxT [(0, 0), (1, 0), (2, 0), (3, 0), (4, 0), (5, 0), (6, 0), (7, 0), (9, 0), (8, 2), (10, 1), (11, 2)] (by kernel_rfl) (by kernel_rfl) ?_
  replace hst := hst.drew
  refine idx_q rfl rfl ?_; go_wp2_with fail
  refine idx_q rfl rfl ?_; go_wp2_with fail
  refine idx_qf rfl rfl (by kernel_rfl) ?_; go_wp2_with fail
  refine idx_q rfl rfl ?_; go_wp2_with ((refine L_load1 (d := some 31) rfl rfl rfl (by rfl) Tryz.underlying122 rfl (by (exact cell_of (hst.get 5 rfl) dkArr_1)) ?_))
  refine idx_q rfl rfl ?_; go_wp2_with fail
  refine idx_q rfl rfl ?_; go_wp2_with fail
  refine idx_qf rfl rfl (by kernel_rfl) ?_; go_wp2_with fail
  refine idx_q rfl rfl ?_; go_wp2_with ((refine L_load1 (d := some 35) rfl rfl rfl (by rfl) Tryz.underlying24 rfl (by (exact cell_of (hst.get 5 rfl) dkArr_0)) ?_))
  refine idx_q rfl rfl ?_; go_wp2_with fail
  refine idx_g rfl ?_; go_wp2_with ((go_at_call 12; (try clear hnew); refine (HH.out _ (HT.out.of hst) (lgAt_of hst)).mono ?_; rintro e Wh ⟨rfl, hnew⟩; replace hst := hst.keep hnew)); refine ⟨by (exact hnew.below), ?_⟩
  refine idx_e rfl ?_; go_wp2_with ((go_at_call 135; (try clear hnew); refine (HK.out _ _ (St.swap (X := [_, _, _, _, _, _]) (Y := [_, _]) (L := L) hst)).mono ?_; rintro e Wt ⟨rfl, hst'⟩; clear hst; have hst := hst'; clear hst'))
  refine idx_g rfl ?_; go_wp2_with fail; refine ⟨by (exact Below.refl _ _), ?_⟩
  refine idx_nil ?_
  go_wp2_with fail
  go_ret
  exact ⟨rfl, St.swap (X := [_, _]) (Y := [_, _, _, _, _, _]) (L := L) hst⟩
 ·have hpr : prfN ns j = gpN (lvN ns) j true := if_neg hj0
  rewrite [hpr] at hTk
  have HS := Lib.hid (fun (w' : World) (L' : List Res) h => by
   have := since_any key ns p (j : Int) w0 w' L' hT h hl (by omega) (by omega)
   rewrite [Int.toNat_natCast] at this
   exact this)
  have HK := Lib.hid (fun (w' : World) (Os : Option Addr) (k os : Nat) (L' : List Res) (h1 : (gpN (lvN ns) j true).length = k) h2 h => by
   have := ptake_gen key gp O m oc (j : Int) (rootN (lvN (ns.take j))) (mapN (ns.take j)) z (ns.length : Int) (rootN (lvN ns)) (mapN ns) (headR key ns) (gpN (lvN ns) j true) Os k os w0 w' L' hT h1 h2 h (by omega) (by omega) (by omega) (by omega)
   rewrite [hTk] at this
   exact this)
  generalize gpN (lvN ns) j true = gpf at *
  generalize plN ns.length j true = pl at *
  generalize rootN (lvN (ns.take j)) = rx at *
  generalize mapN (ns.take j) = ry at *
  generalize rootN (lvN ns) = rt at *
  generalize mapN ns = mp at *
  generalize headR key ns = hr at *
  have p1 : 0 < j := by omega
  have p2 : (0 : Int) < (j : Int) := by omega
  have e1 : decide (0 < j) = true := decide_eq_true p1
  clear hTk hpr hT hm hl hj hj0
  obtain ⟨pg, pm, pc, plc, pMn, pMa, pA, pO, pnm, pam⟩ := p
  simp only at HS HH hpm hst
  go_enter Tryz.func111, Tryz.ntmps111
  go_upto_region 1 with (go_big_may; fail)
  go_upto_region 2 with (go_big_may; fail)
  go_upto_region 3 with (go_big_may; first | (refine L_fieldC (d := some 12) rfl rfl rfl Tryz.underlying41 rfl (ev_tmp rfl) Tryz.underlying3 rfl hdArr_0 ?_) | (go_at_call 110; (try clear hnew); refine (held_any _ _ _ _ _ _ _ _ _ _ _ (hst.get 6 rfl)).mono ?_; rintro e Wh ⟨rfl, hnew⟩; replace hst := hst.keep hnew) | (refine L_load1 (d := some 10) rfl rfl rfl (by rfl) Tryz.underlying122 rfl (by (exact cell_of (hst.get 5 rfl) dkArr_1)) ?_))
  go_upto_region 4 with (go_big_may; fail)
  (try clear hnew)
  go_upto_region 5 with (go_big_may; first | (go_at_call 19; (try clear hnew); refine (HS.out _ _ hst).mono ?_; rintro e Ws ⟨Os, os, rfl, hst'⟩; clear hst; have hst := hst'; clear hst') | (refine L_load1 (d := some 19) rfl rfl rfl (by rfl) Tryz.underlying24 rfl (by (exact cell_of (hst.get 5 rfl) dkArr_0)) ?_))
  go_upto_region 7 with (go_big_may; fail)
  go_upto_region 8 with (go_big_may; fail)
  simp only [lgL, List.cons_append, List.nil_append] at hst
  have hpl : gpf.length = pl := by
   have := (hst.sl 0 rfl).1
   rw [length_digsL] at this
   omega
  have HPl := Lib.hid hpl
  clear hpl
  refine wp_region_idxT [(0, 0), (1, 0), (2, 0), (3, 0), (4, 0), (5, 0), (6, 0), (7, 0), (9, 0), (8, 2), (10, 1), (11, 2)] (by kernel_rfl) (by kernel_rfl) ?_
  replace hst := hst.drew
  refine idx_q rfl rfl ?_; go_wp2_with fail
  refine idx_q rfl rfl ?_; go_wp2_with fail
  refine idx_qf rfl rfl (by kernel_rfl) ?_; go_wp2_with fail
  refine idx_q rfl rfl ?_; go_wp2_with ((refine L_load1 (d := some 31) rfl rfl rfl (by rfl) Tryz.underlying122 rfl (by (exact cell_of (hst.get 6 rfl) dkArr_1)) ?_))
  refine idx_q rfl rfl ?_; go_wp2_with fail
  refine idx_q rfl rfl ?_; go_wp2_with fail
  refine idx_qf rfl rfl (by kernel_rfl) ?_; go_wp2_with fail
  refine idx_q rfl rfl ?_; go_wp2_with ((refine L_load1 (d := some 35) rfl rfl rfl (by rfl) Tryz.underlying24 rfl (by (exact cell_of (hst.get 6 rfl) dkArr_0)) ?_))
  refine idx_q rfl rfl ?_; go_wp2_with fail
  refine idx_g rfl ?_; go_wp2_with ((go_at_call 12; (try clear hnew); refine (HH.out _ (HT.out.of hst) (lgAt_of hst.tail)).mono ?_; rintro e Wh ⟨rfl, hnew⟩; replace hst := hst.keep hnew)); refine ⟨by (exact hnew.below), ?_⟩
  refine idx_e rfl ?_; go_wp2_with ((go_at_call 135; (try clear hnew); refine (HK.out _ _ _ _ _ HPl.out (fun W' X h => (h.perm List.perm_append_comm).sl 0 rfl) (St.swap (X := [_, _, _, _, _, _, _]) (Y := [_, _]) (L := L) hst)).mono ?_; rintro e Wt ⟨rfl, hst'⟩; clear hst; have hst := hst'; clear hst'))
  refine idx_g rfl ?_; go_wp2_with fail; refine ⟨by (exact Below.refl _ _), ?_⟩
  refine idx_nil ?_
  go_wp2_with fail
  go_ret
  exact ⟨rfl, (St.swap (X := [_, _]) (Y := [_, _, _, _, _, _, _]) (L := L) hst).tail⟩
end Go.Proofs.YtaebeemnipafbaaGreatDoor

set_option maxRecDepth 20000
set_option linter.unusedSimpArgs false
set_option linter.unusedVariables false
namespace Go.Proofs.YtaebeemnipafbaaGreatDoor
open Go.RowKit
attribute [local simp] hdArr_size ntArr_size
structure DkP where
 (g gp m oc : Nat)
 O : Option Addr
def dkR (d : DkP) (p : LgP) (key : List UInt8) (s : DkS) (L : List Res) : List Res :=
 lgL p key s.ns ++ (.blk d.g 125 (dkArr p.g d.gp) :: pinS d.gp d.O d.m d.oc s.ns s.j s.z :: .row d.O d.m d.oc 5 1 (bytesL key) :: L)
def DkEnd (key : List UInt8) (s : DkS) (l : List UInt8) (d : DkP) (p : LgP) (w0 : World) (L : List Res) : Ending → World → Prop := fun e w' =>
 e = .returned (.tuple #[.string (bsOf (ans3 key s l).2.2), errO (ans3 key s l).2.1]) ∧ ∃ p' : LgP, p'.g = p.g ∧ p'.m = p.m ∧ MapsOf (ans3 key s l).1.ns p'.nm p'.am ∧ St w0 w' (dkR d p' key (ans3 key s l).1 L)
theorem take_addL (ns : List NoteN) (t : List UInt8) (k : Dig) {j : Nat} (h : j ≤ ns.length) : (addL ns t k).take j = ns.take j := by
 unfold addL
 split
 ·rw [List.take_append_of_le_length h]
 ·rfl
theorem addT_pin (s : DkS) (t : List UInt8) (h : s.j ≤ s.ns.length) (gp m oc : Nat) (O : Option Addr) : pinS gp O m oc (addT s t).1.ns (addT s t).1.j (addT s t).1.z = pinS gp O m oc s.ns s.j s.z := by
 unfold addT pinS
 split
 ·split
  ·simp only
   rw [take_addL _ _ _ h]
  ·rfl
 ·rfl
theorem no_sp (a : List UInt8) (ha : ∀ b ∈ a, b ≠ 32) : ¬ spI a < a.length := by
 unfold spI
 rw [List.findIdx_eq_length.2 (fun b hb => by simpa using ha b hb)]
 exact Nat.lt_irrefl _
section
variable (key : List UInt8) (s : DkS) (l : List UInt8) (d : DkP) (p : LgP) (w0 w : World) (L : List Res)
set_option maxHeartbeats 16000000 in
set_option maxRecDepth 100000 in
theorem do_word (hT : Tb w0) (hP : Pz w0) (hst : St w0 w (dkR d p key s L)) (hm : MapsOf s.ns p.nm p.am) (hok : DkOk s) (hpm : p.m ≤ 140737488351232) (hdm : d.m ≤ 140737488351232) (hl : l.length ≤ 140737488351232) (hsp : ¬ spI l < l.length) :
  Calls Tryz.prog 74 #[.pointer (some ⟨d.g, 0, none⟩), .string (bsOf l)] w (DkEnd key s l d p w0 L) := by
 have HT := Lib.hid hT
 have HP := Lib.hid hP
 have hn := hok.1.len
 have hj := hok.2
 have HC := Lib.hid (fun w' => cut_any l w' (by omega))
 rewrite [decide_eq_false hsp] at HC
 generalize l.take (spI l) = ta at HC
 generalize l.drop (spI l + 1) = tb at HC
 have hAns : ∀ (hh : ¬ l = tHead) (hd : ¬ l = tHeld) (ht : ¬ l = tTake), ans3 key s l = (s, (1, [])) := fun hh hd ht => by
  unfold ans3
  rw [if_neg hh, if_neg hd, if_neg ht, if_neg (fun h => hsp ((beg_find l).1 h).1), if_neg (fun h => hsp ((beg_add l).1 h).1)]
 by_cases c1 : l = tHead
 ·have hA : ans3 key s l = (s, (0, headT s.ns.length (rootN (lvN s.ns)) (mapN s.ns))) := if_pos c1
  have HQ := Lib.hid (fun (w' : World) (h : St w0 w' (dkR d p key s L)) => show DkEnd key s l d p w0 L (.returned (.tuple #[.string (bsOf (headT s.ns.length (rootN (lvN s.ns)) (mapN s.ns))), .nilIface])) w' by
   unfold DkEnd
   rw [hA]
   exact ⟨rfl, p, rfl, rfl, hm, h⟩)
  have HD := Lib.hid (show decide (l = tHead) = true from decide_eq_true c1)
  have HH := Lib.hid (fun (w' : World) (ht : Tb w') (h : LgAt w' p key s.ns) => headK_any key s.ns p w' ht h hm hok.1 (by omega))
  have HTx := Lib.hid (fun (w' : World) (z : Dig) (h : Pz w') => headed_any s.ns.length (rootN (lvN s.ns)) (mapN s.ns) z (by omega) w' h)
  generalize DkEnd key s l d p w0 L = Q at *
  unfold dkR pinS at *
  generalize headT s.ns.length (rootN (lvN s.ns)) (mapN s.ns) = tx at *
  clear hA hAns hT hP hm hok c1
  generalize hgl : p.g = gl at *
  clear hgl
  go_enter Tryz.func74, Tryz.ntmps74
  go_upto_region 1 with (go_big_may; fail)
  go_upto_region 2 with (go_big_may; (go_at_call 106; (try clear hnew); refine (HC.out _).mono ?_; rintro e Wk1 ⟨rfl, hnew⟩; replace hst := hst.keep hnew))
  go_upto_region 4 with (first | (with_reducible refine L_pass (t := 18) rfl (by kernel_rfl) ?_) | (with_reducible refine L_pass (t := 19) rfl (by kernel_rfl) ?_))
  go_upto_region 6 with (first | (with_reducible refine L_pass (t := 29) rfl (by kernel_rfl) ?_) | (with_reducible refine L_pass (t := 30) rfl (by kernel_rfl) ?_))
  go_upto_region 7 with (go_big_may; (refine L_eqStr (d := some 39) (u := tHead) rfl rfl rfl (by kernel_rfl) Tryz.underlying9 (ev_tmp rfl) ev_const ?_; rewrite [HD.out]))
  go_wp2_with (first | (go_at_call 12; (try clear hnew); refine (HH.out _ (HT.out.of hst) (lgAt_of hst)).mono ?_; rintro e Wh ⟨rfl, hnew⟩; replace hst := hst.keep hnew) | (go_at_call 109; (try clear hnew); refine (HTx.out _ _ (HP.out.of hst)).mono ?_; rintro e Wk2 ⟨rfl, hnew⟩; replace hst := hst.keep hnew) | (refine L_load1 (d := some 43) rfl rfl rfl (by rfl) Tryz.underlying24 rfl (by (exact cell_of (hst.get 5 rfl) dkArr_0)) ?_))
  exact HQ.out _ hst
 have F1 := Lib.hid (show decide (l = tHead) = false from decide_eq_false c1)
 by_cases c2 : l = tHeld
 ·have hA : ans3 key s l = (s, (0, headT s.j (rootN (lvN (s.ns.take s.j))) (mapN (s.ns.take s.j)))) := by unfold ans3; rw [if_neg c1, if_pos c2]
  have HQ := Lib.hid (fun (w' : World) (h : St w0 w' (dkR d p key s L)) => show DkEnd key s l d p w0 L (.returned (.tuple #[.string (bsOf (headT s.j (rootN (lvN (s.ns.take s.j))) (mapN (s.ns.take s.j)))), .nilIface])) w' by
   unfold DkEnd
   rw [hA]
   exact ⟨rfl, p, rfl, rfl, hm, h⟩)
  have HD := Lib.hid (show decide (l = tHeld) = true from decide_eq_true c2)
  have HTx := Lib.hid (fun (w' : World) (z : Dig) (h : Pz w') => headed_any s.j (rootN (lvN (s.ns.take s.j))) (mapN (s.ns.take s.j)) z (by omega) w' h)
  generalize DkEnd key s l d p w0 L = Q at *
  unfold dkR pinS at *
  generalize headT s.j (rootN (lvN (s.ns.take s.j))) (mapN (s.ns.take s.j)) = tx at *
  generalize rootN (lvN (s.ns.take s.j)) = rx at *
  generalize mapN (s.ns.take s.j) = ry at *
  clear hA hAns hT hP hm hok c1 c2
  generalize hgl : p.g = gl at *
  clear hgl
  go_enter Tryz.func74, Tryz.ntmps74
  go_upto_region 1 with (go_big_may; fail)
  go_upto_region 2 with (go_big_may; (go_at_call 106; (try clear hnew); refine (HC.out _).mono ?_; rintro e Wk3 ⟨rfl, hnew⟩; replace hst := hst.keep hnew))
  go_upto_region 4 with (first | (with_reducible refine L_pass (t := 18) rfl (by kernel_rfl) ?_) | (with_reducible refine L_pass (t := 19) rfl (by kernel_rfl) ?_))
  go_upto_region 6 with (first | (with_reducible refine L_pass (t := 29) rfl (by kernel_rfl) ?_) | (with_reducible refine L_pass (t := 30) rfl (by kernel_rfl) ?_))
  go_upto_region 8 with (go_big_may; (refine L_eqStr (d := some 39) (u := tHead) rfl rfl rfl (by kernel_rfl) Tryz.underlying9 (ev_tmp rfl) ev_const ?_; rewrite [F1.out]))
  go_upto_region 9 with (go_big_may; (refine L_eqStr (d := some 48) (u := tHeld) rfl rfl rfl (by kernel_rfl) Tryz.underlying9 (ev_tmp rfl) ev_const ?_; rewrite [HD.out]))
  go_wp2_with (first | (go_at_call 110; (try clear hnew); refine (held_any _ _ _ _ _ _ _ _ _ _ _ (hst.get 6 rfl)).mono ?_; rintro e Wh ⟨rfl, hnew⟩; replace hst := hst.keep hnew) | (go_at_call 109; (try clear hnew); refine (HTx.out _ _ (HP.out.of hst)).mono ?_; rintro e Wk4 ⟨rfl, hnew⟩; replace hst := hst.keep hnew) | (refine L_load1 (d := some 52) rfl rfl rfl (by rfl) Tryz.underlying122 rfl (by (exact cell_of (hst.get 5 rfl) dkArr_1)) ?_))
  exact HQ.out _ hst
 have F2 := Lib.hid (show decide (l = tHeld) = false from decide_eq_false c2)
 by_cases c3 : l = tTake
 ·have hA : ans3 key s l = (⟨s.ns, s.ns.length, headR key s.ns⟩, (0, tOk)) := by unfold ans3; rw [if_neg c1, if_neg c2, if_pos c3]
  have HQ := Lib.hid (fun (w' : World) (h : St w0 w' (dkR d p key ⟨s.ns, s.ns.length, headR key s.ns⟩ L)) => show DkEnd key s l d p w0 L (.returned (.tuple #[.string (bsOf tOk), .nilIface])) w' by
   unfold DkEnd
   rw [hA]
   exact ⟨rfl, p, rfl, rfl, hm, h⟩)
  have HD := Lib.hid (show decide (l = tTake) = true from decide_eq_true c3)
  unfold dkR at *
  have HK := Lib.hid (fun (w' : World) h => dtake_any key s p d.g d.gp d.m d.oc d.O w0 w' L hT h hm hok hpm hdm)
  generalize DkEnd key s l d p w0 L = Q at *
  clear hA hAns hT hP hm hok c1 c2 c3
  go_enter Tryz.func74, Tryz.ntmps74
  go_upto_region 1 with (go_big_may; fail)
  go_upto_region 2 with (go_big_may; (go_at_call 106; (try clear hnew); refine (HC.out _).mono ?_; rintro e Wk5 ⟨rfl, hnew⟩; replace hst := hst.keep hnew))
  go_upto_region 4 with (first | (with_reducible refine L_pass (t := 18) rfl (by kernel_rfl) ?_) | (with_reducible refine L_pass (t := 19) rfl (by kernel_rfl) ?_))
  go_upto_region 6 with (first | (with_reducible refine L_pass (t := 29) rfl (by kernel_rfl) ?_) | (with_reducible refine L_pass (t := 30) rfl (by kernel_rfl) ?_))
  go_upto_region 8 with (go_big_may; (refine L_eqStr (d := some 39) (u := tHead) rfl rfl rfl (by kernel_rfl) Tryz.underlying9 (ev_tmp rfl) ev_const ?_; rewrite [F1.out]))
  go_upto_region 10 with (go_big_may; (refine L_eqStr (d := some 48) (u := tHeld) rfl rfl rfl (by kernel_rfl) Tryz.underlying9 (ev_tmp rfl) ev_const ?_; rewrite [F2.out]))
  go_upto_region 11 with (go_big_may; (refine L_eqStr (d := some 57) (u := tTake) rfl rfl rfl (by kernel_rfl) Tryz.underlying9 (ev_tmp rfl) ev_const ?_; rewrite [HD.out]))
  go_wp2_with ((go_at_call 111; (try clear hnew); refine (HK.out _ hst).mono ?_; rintro e Wh ⟨rfl, hst'⟩; clear hst; have hst := hst'; clear hst'))
  exact HQ.out _ hst
 have F3 := Lib.hid (show decide (l = tTake) = false from decide_eq_false c3)
 have hA := hAns c1 c2 c3
 have HQ := Lib.hid (fun (w' : World) (h : St w0 w' (dkR d p key s L)) => show DkEnd key s l d p w0 L (.returned (.tuple #[.string (bsOf []), errV 1])) w' by
  unfold DkEnd
  rw [hA]
  exact ⟨rfl, p, rfl, rfl, hm, h⟩)
 unfold errV at HQ
 generalize DkEnd key s l d p w0 L = Q at *
 clear hA hAns hT hP hm hok c1 c2 c3
 generalize dkR d p key s L = LL at *
 go_enter Tryz.func74, Tryz.ntmps74
 go_upto_region 1 with (go_big_may; fail)
 go_upto_region 2 with (go_big_may; (go_at_call 106; (try clear hnew); refine (HC.out _).mono ?_; rintro e Wk6 ⟨rfl, hnew⟩; replace hst := hst.keep hnew))
 go_upto_region 4 with (first | (with_reducible refine L_pass (t := 18) rfl (by kernel_rfl) ?_) | (with_reducible refine L_pass (t := 19) rfl (by kernel_rfl) ?_))
 go_upto_region 6 with (first | (with_reducible refine L_pass (t := 29) rfl (by kernel_rfl) ?_) | (with_reducible refine L_pass (t := 30) rfl (by kernel_rfl) ?_))
 go_upto_region 8 with (go_big_may; (refine L_eqStr (d := some 39) (u := tHead) rfl rfl rfl (by kernel_rfl) Tryz.underlying9 (ev_tmp rfl) ev_const ?_; rewrite [F1.out]))
 go_upto_region 10 with (go_big_may; (refine L_eqStr (d := some 48) (u := tHeld) rfl rfl rfl (by kernel_rfl) Tryz.underlying9 (ev_tmp rfl) ev_const ?_; rewrite [F2.out]))
 go_upto_region 12 with (go_big_may; (refine L_eqStr (d := some 57) (u := tTake) rfl rfl rfl (by kernel_rfl) Tryz.underlying9 (ev_tmp rfl) ev_const ?_; rewrite [F3.out]))
 go_wp2_with (fail)
 exact HQ.out _ hst
set_option maxHeartbeats 16000000 in
set_option maxRecDepth 100000 in
theorem do_words (hT : Tb w0) (hP : Pz w0) (hst : St w0 w (dkR d p key s L)) (hm : MapsOf s.ns p.nm p.am) (hok : DkOk s) (hpm : p.m ≤ 140737488351232) (hl : l.length ≤ 140737488351232) (hsp : spI l < l.length) :
  Calls Tryz.prog 74 #[.pointer (some ⟨d.g, 0, none⟩), .string (bsOf l)] w (DkEnd key s l d p w0 L) := by
 have HT := Lib.hid hT
 have HP := Lib.hid hP
 have hn := hok.1.len
 have hj := hok.2
 have HC := Lib.hid (fun w' => cut_any l w' (by omega))
 rewrite [decide_eq_true hsp] at HC
 have c1 : ¬ l = tHead := fun h => no_sp tHead (by decide) (h ▸ hsp)
 have c2 : ¬ l = tHeld := fun h => no_sp tHeld (by decide) (h ▸ hsp)
 have c3 : ¬ l = tTake := fun h => no_sp tTake (by decide) (h ▸ hsp)
 have hdl : (l.drop (spI l + 1)).length ≤ 140737488351232 := by rw [List.length_drop]; omega
 by_cases cF : l.take (spI l) = tFind
 ·have hb := (beg_find l).2 ⟨hsp, cF⟩
  have h4 := beg_find_len l hb
  rewrite [h4] at HC hdl cF
  have hA : ans3 key s l = (s, findT s.ns (l.drop 5)) := by unfold ans3; rw [if_neg c1, if_neg c2, if_neg c3, if_pos hb]
  have HQ := Lib.hid (fun (w' : World) (h : St w0 w' (dkR d p key s L)) => show DkEnd key s l d p w0 L (.returned (.tuple #[.string (bsOf (findT s.ns (l.drop 5)).2), errO (findT s.ns (l.drop 5)).1])) w' by
   unfold DkEnd
   rw [hA]
   exact ⟨rfl, p, rfl, rfl, hm, h⟩)
  have HA := Lib.hid (show decide (l.take 4 = tAdd) = false by rw [cF]; decide)
  have HD := Lib.hid (show decide (l.take 4 = tFind) = true from decide_eq_true cF)
  unfold dkR at *
  have HF := Lib.hid (fun (w' : World) h => dfind_any key s.ns (l.drop 5) p d.g d.gp w0 w' (pinS d.gp d.O d.m d.oc s.ns s.j s.z :: .row d.O d.m d.oc 5 1 (bytesL key) :: L) hT hP h hm hok.1 hpm hdl)
  rewrite [show (4 + 1 : Nat) = 5 from rfl] at HC
  generalize DkEnd key s l d p w0 L = Q at *
  generalize l.take 4 = ta at *
  generalize l.drop 5 = tb at *
  generalize findT s.ns tb = ft at *
  clear hA hT hP hm hok c1 c2 c3 cF hb h4
  go_enter Tryz.func74, Tryz.ntmps74
  go_upto_region 1 with (go_big_may; fail)
  go_upto_region 2 with (go_big_may; (go_at_call 106; (try clear hnew); refine (HC.out _).mono ?_; rintro e Wk7 ⟨rfl, hnew⟩; replace hst := hst.keep hnew))
  go_upto_region 4 with (go_big_may; (refine L_eqStr (d := some 19) (u := tAdd) rfl rfl rfl (by kernel_rfl) Tryz.underlying9 (ev_tmp rfl) ev_const ?_; rewrite [HA.out]))
  go_upto_region 5 with (go_big_may; (refine L_eqStr (d := some 30) (u := tFind) rfl rfl rfl (by kernel_rfl) Tryz.underlying9 (ev_tmp rfl) ev_const ?_; rewrite [HD.out]))
  go_wp2_with ((go_at_call 108; (try clear hnew); refine (HF.out _ hst).mono ?_; rintro e Wh ⟨rfl, hst'⟩; clear hst; have hst := hst'; clear hst'))
  exact HQ.out _ hst
 have hbF : ¬ begN l tFindB = true := fun h => cF ((beg_find l).1 h).2
 by_cases cA : l.take (spI l) = tAdd
 ·have hb := (beg_add l).2 ⟨hsp, cA⟩
  have h4 := beg_add_len l hb
  rewrite [h4] at HC hdl cA
  have hA : ans3 key s l = addT s (l.drop 4) := by unfold ans3; rw [if_neg c1, if_neg c2, if_neg c3, if_neg hbF, if_pos hb]
  have HQ := Lib.hid (fun (e : Ending) (w' : World) (h : DkAdd key s (l.drop 4) p d.g d.gp w0 (pinS d.gp d.O d.m d.oc s.ns s.j s.z :: .row d.O d.m d.oc 5 1 (bytesL key) :: L) e w') => show DkEnd key s l d p w0 L e w' by
   obtain ⟨rfl, p', h1, h2, h3, h5⟩ := h
   unfold DkEnd
   rw [hA]
   refine ⟨rfl, p', h1, h2, h3, ?_⟩
   unfold dkR
   rw [addT_pin s _ hj, h1]
   exact h5)
  have HD := Lib.hid (show decide (l.take 3 = tAdd) = true from decide_eq_true cA)
  unfold dkR at *
  have HF := Lib.hid (fun (w' : World) h => dadd_any key s (l.drop 4) p d.g d.gp w0 w' (pinS d.gp d.O d.m d.oc s.ns s.j s.z :: .row d.O d.m d.oc 5 1 (bytesL key) :: L) hT hP h hm hok.1 hdl)
  rewrite [show (3 + 1 : Nat) = 4 from rfl] at HC
  unfold DkAdd at HF HQ
  generalize DkEnd key s l d p w0 L = Q at *
  generalize l.take 3 = ta at *
  generalize l.drop 4 = tb at *
  clear hA hT hP hm hok c1 c2 c3 cA cF hb h4 hbF
  go_enter Tryz.func74, Tryz.ntmps74
  go_upto_region 1 with (go_big_may; fail)
  go_upto_region 2 with (go_big_may; (go_at_call 106; (try clear hnew); refine (HC.out _).mono ?_; rintro e Wk8 ⟨rfl, hnew⟩; replace hst := hst.keep hnew))
  go_upto_region 3 with (go_big_may; (refine L_eqStr (d := some 19) (u := tAdd) rfl rfl rfl (by kernel_rfl) Tryz.underlying9 (ev_tmp rfl) ev_const ?_; rewrite [HD.out]))
  go_wp2_with ((go_at_call 107; (try clear hnew); refine (HF.out _ hst).mono ?_; rintro e Wh ⟨rfl, q1, u1, u2, u3, hst'⟩; clear hst; have hst := hst'; clear hst'))
  exact HQ.out _ _ ⟨rfl, q1, u1, u2, u3, hst⟩
 have hbA : ¬ begN l tAddB = true := fun h => cA ((beg_add l).1 h).2
 have hA : ans3 key s l = (s, (1, [])) := by unfold ans3; rw [if_neg c1, if_neg c2, if_neg c3, if_neg hbF, if_neg hbA]
 have HQ := Lib.hid (fun (w' : World) (h : St w0 w' (dkR d p key s L)) => show DkEnd key s l d p w0 L (.returned (.tuple #[.string (bsOf []), errV 1])) w' by
  unfold DkEnd
  rw [hA]
  exact ⟨rfl, p, rfl, rfl, hm, h⟩)
 unfold errV at HQ
 have F1 := Lib.hid (show decide (l = tHead) = false from decide_eq_false c1)
 have F2 := Lib.hid (show decide (l = tHeld) = false from decide_eq_false c2)
 have F3 := Lib.hid (show decide (l = tTake) = false from decide_eq_false c3)
 have F4 := Lib.hid (show decide (l.take (spI l) = tAdd) = false from decide_eq_false cA)
 have F5 := Lib.hid (show decide (l.take (spI l) = tFind) = false from decide_eq_false cF)
 generalize DkEnd key s l d p w0 L = Q at *
 generalize l.take (spI l) = ta at *
 generalize l.drop (spI l + 1) = tb at *
 clear hA hT hP hm hok c1 c2 c3 cA cF hbA hbF
 generalize dkR d p key s L = LL at *
 go_enter Tryz.func74, Tryz.ntmps74
 go_upto_region 1 with (go_big_may; fail)
 go_upto_region 2 with (go_big_may; (go_at_call 106; (try clear hnew); refine (HC.out _).mono ?_; rintro e Wk9 ⟨rfl, hnew⟩; replace hst := hst.keep hnew))
 go_upto_region 4 with (go_big_may; (refine L_eqStr (d := some 19) (u := tAdd) rfl rfl rfl (by kernel_rfl) Tryz.underlying9 (ev_tmp rfl) ev_const ?_; rewrite [F4.out]))
 go_upto_region 6 with (go_big_may; (refine L_eqStr (d := some 30) (u := tFind) rfl rfl rfl (by kernel_rfl) Tryz.underlying9 (ev_tmp rfl) ev_const ?_; rewrite [F5.out]))
 go_upto_region 8 with (go_big_may; (refine L_eqStr (d := some 39) (u := tHead) rfl rfl rfl (by kernel_rfl) Tryz.underlying9 (ev_tmp rfl) ev_const ?_; rewrite [F1.out]))
 go_upto_region 10 with (go_big_may; (refine L_eqStr (d := some 48) (u := tHeld) rfl rfl rfl (by kernel_rfl) Tryz.underlying9 (ev_tmp rfl) ev_const ?_; rewrite [F2.out]))
 go_upto_region 12 with (go_big_may; (refine L_eqStr (d := some 57) (u := tTake) rfl rfl rfl (by kernel_rfl) Tryz.underlying9 (ev_tmp rfl) ev_const ?_; rewrite [F3.out]))
 go_wp2_with (fail)
 exact HQ.out _ hst
theorem do_any (hT : Tb w0) (hP : Pz w0) (hst : St w0 w (dkR d p key s L)) (hm : MapsOf s.ns p.nm p.am) (hok : DkOk s) (hpm : p.m ≤ 140737488351232) (hdm : d.m ≤ 140737488351232) (hl : l.length ≤ 140737488351232) :
  Calls Tryz.prog 74 #[.pointer (some ⟨d.g, 0, none⟩), .string (bsOf l)] w (DkEnd key s l d p w0 L) := by
 by_cases hsp : spI l < l.length
 ·exact do_words key s l d p w0 w L hT hP hst hm hok hpm hl hsp
 ·exact do_word key s l d p w0 w L hT hP hst hm hok hpm hdm hl hsp
end
end Go.Proofs.YtaebeemnipafbaaGreatDoor

set_option maxRecDepth 20000
set_option linter.unusedSimpArgs false
set_option linter.unusedVariables false
namespace Go.Proofs.YtaebeemnipafbaaGreatDoor
open Go.RowKit
theorem el_api_Errno : ElemIs Tryz.prog 28 (.int .i64 0) 1 8 := by unfold ElemIs; kernel_rfl
theorem as_any (k : Int) (g : Nat) (old : Value) (w0 w : World) (L : List Res) (hE : Eb w0) (hst : St w0 w (.blk g 28 #[old] :: L)) :
  Calls Tryz.prog 75 #[.iface 28 (.int .i64 k), .iface 137 (.pointer (some ⟨g, 0, none⟩))] w fun e w' => e = .returned (.bool true) ∧ St w0 w' (.blk g 28 #[.int .i64 k] :: L) := by
 have hc := hst.get 0 rfl
 refine (as_hit k ⟨g, 0, none⟩ old w (hE.of hst) (cell_of hc rfl) (by simp [World.frozen?, hc])).mono ?_
 rintro e w' ⟨rfl, rfl⟩
 refine ⟨rfl, ?_⟩
 exact (((((hst.alloc _ _).alloc _ _).alloc _ _).alloc _ _).setCell 4 rfl 0 (.int .i64 k)).tailN 4
end Go.Proofs.YtaebeemnipafbaaGreatDoor

set_option maxRecDepth 20000
set_option linter.unusedSimpArgs false
set_option linter.unusedVariables false
namespace Go.Proofs.YtaebeemnipafbaaGreatDoor
open Go.RowKit
attribute [local simp] hdArr_size ntArr_size
theorem el_desk_Desk : ElemIs Tryz.prog 125 (.agg #[.pointer none, .pointer none]) 2 16 := by unfold ElemIs; kernel_rfl
section
variable {ops : Array Oper} {rest : List Oper} {o : Oper} {a : Act} {W : World} {Q : Exit → Act → World → Prop} {d : Option Tmp}
theorem L_buildDk (hd : o.dst = d) (hw : Region.wanted o (yielded ops a.tmps) = true) {x y : Operand} (ho : o.op = .build 125 #[(0, x), (1, y)]) {gl gp : Nat} (hx : a.eval x = .pointer (some ⟨gl, 0, none⟩)) (hy : a.eval y = .pointer (some ⟨gp, 0, none⟩))
  (h : wpList Tryz.prog ops Q rest (a.put d (.agg (dkArr gl gp))) W) : wpList Tryz.prog ops Q (o :: rest) a W :=
 L_buildT hd hw ho Tryz.underlying125 el_desk_Desk [(0, 1), (1, 1)] (by kernel_rfl) (ps := [(0, .pointer (some ⟨gl, 0, none⟩)), (1, .pointer (some ⟨gp, 0, none⟩))]) (by simp [hx, hy]) (qs := [(0, [.pointer (some ⟨gl, 0, none⟩)]), (1, [.pointer (some ⟨gp, 0, none⟩)])])
  ⟨rfl, rfl, by simp, rfl, rfl, by simp, trivial⟩ rfl h
end
set_option maxHeartbeats 4000000 in
set_option maxRecDepth 100000 in
theorem dnew_any (key : List UInt8) (K : Option Addr) (m mc : Nat) (w : World) (hT : Tb w) (hk : SlR w K m mc 1 (bytesL key)) (hm : m ≤ 140737488351232) :
  Calls Tryz.prog 26 #[.slice K m mc] w fun e w' => ∃ (d : DkP) (p : LgP), e = .returned (.pointer (some ⟨d.g, 0, none⟩)) ∧ d.m = m ∧ p.m = m ∧ MapsOf [] p.nm p.am ∧ St w w' (dkR d p key ⟨[], 0, zeroD⟩ []) := by
 have hst := St.refl w
 have HT := Lib.hid hT
 have HK := Lib.hid hk
 have HL := Lib.hid (fun w' (h : SlR w' K m mc 1 (bytesL key)) => lnew_any key K m mc w' h (by omega))
 have HP := Lib.hid (fun w' (ht : Tb w') (h : SlR w' K m mc 1 (bytesL key)) => pnew_any key K m mc w' ht h (by omega))
 clear hT hk
 have HR := Lib.hid (show rootN (lvN (([] : List NoteN).take 0)) = sha [] ∧ mapN (([] : List NoteN).take 0) = zeroD by rw [List.take_nil, show lvN [] = [] from rfl, rootN_nil, mapN_nil]; exact ⟨rfl, rfl⟩)
 obtain ⟨N0, hN0⟩ : ∃ N0 : List NoteN, N0 = [] := ⟨_, rfl⟩
 rewrite [← hN0] at HL ⊢
 have HN := Lib.hid hN0
 clear hN0
 generalize hsh : sha [] = s0 at *
 have HSh := Lib.hid hsh
 clear hsh
 go_enter Tryz.func26, Tryz.ntmps26
 go_upto_region 1 with (go_big_may; fail)
 go_wp2_with (first | (go_at_call 8; (try clear hnew); refine (HL.out _ (hst.old (by decide) HK.out)).mono ?_; rintro e Wl ⟨p, rfl, hpm, hmp, hnew⟩; replace hst := hst.trans hnew; clear hnew) | (go_at_call 65; (try clear hnew); refine (HP.out _ (HT.out.of hst) (hst.old (by decide) HK.out)).mono ?_; rintro e Wp ⟨gp, O, oc, rfl, hnew⟩; replace hst := hst.trans hnew; simp only [List.cons_append, List.nil_append] at hst) | (refine L_buildDk (d := some 7) rfl rfl rfl (ev_tmp rfl) (ev_tmp rfl) ?_) | (refine L_boxA (d := some 8) rfl rfl rfl (ev_tmp rfl) ?_; (try clear hnew); intro g8 W8 hnew; replace hst := hst.trans hnew; simp only [List.cons_append, List.nil_append] at hst))
 go_ret
 obtain rfl := HN.out
 refine ⟨⟨g8, gp, m, oc, O⟩, p, rfl, rfl, hpm, hmp, ?_⟩
 unfold dkR pinS
 rw [HR.out.1, HR.out.2, ← HSh.out] at *
 simp only [lgL, List.cons_append, List.nil_append, List.append_nil] at hst ⊢
 exact hst.pick [3, 4, 5, 6, 7, 0, 1, 2] (by decide)
theorem as_nil (x : Value) (w : World) : Calls Tryz.prog 75 #[.nilIface, x] w fun e w' => e = .returned (.bool false) ∧ St w w' [] := by
 have hst := St.refl w
 go_enter Tryz.func75, Tryz.ntmps75
 go_upto_region 1 with (go_big_may; fail)
 go_upto_region 2 with (go_big_may; fail)
 go_wp2_with (fail)
 go_ret
 exact ⟨rfl, hst⟩
theorem ans3_le (key : List UInt8) (s : DkS) (l : List UInt8) : (ans3 key s l).2.1 ≤ 9 := by
 unfold ans3
 split
 ·simp
 split
 ·simp
 split
 ·simp
 split
 ·unfold findT
  split
  ·simp
  ·exact lookN_le _ _ _ _ _
 split
 ·unfold addT
  split
  ·split
   ·simp
   ·exact addE_le _ _
  ·simp
 ·simp
def DoEnd (key : List UInt8) (s : DkS) (l : List UInt8) (d : DkP) (p : LgP) (w0 : World) (L : List Res) : Ending → World → Prop := fun e w' =>
 e = .returned (.string (bsOf (ansX (ans3 key s l).2))) ∧ ∃ p' : LgP, p'.g = p.g ∧ p'.m = p.m ∧ MapsOf (ans3 key s l).1.ns p'.nm p'.am ∧ St w0 w' (dkR d p' key (ans3 key s l).1 L)
set_option maxHeartbeats 4000000 in
set_option maxRecDepth 100000 in
theorem Do_any (key : List UInt8) (s : DkS) (l : List UInt8) (d : DkP) (p : LgP) (w0 w : World) (L : List Res) (hT : Tb w0) (hP : Pz w0) (hE : Eb w0) (hst : St w0 w (dkR d p key s L)) (hm : MapsOf s.ns p.nm p.am) (hok : DkOk s) (hpm : p.m ≤ 140737488351232) (hdm : d.m ≤ 140737488351232) (hl : l.length ≤ 140737488351232) :
  Calls Tryz.prog 29 #[.pointer (some ⟨d.g, 0, none⟩), .string (bsOf l)] w (DoEnd key s l d p w0 L) := by
 have HE := Lib.hid hE
 have HD := Lib.hid (fun (w' : World) h => do_any key s l d p w0 w' L hT hP h hm hok hpm hdm hl)
 have hr9 := ans3_le key s l
 unfold DkEnd at HD
 unfold DoEnd
 generalize ans3 key s l = r at *
 obtain ⟨s', r1, tx⟩ := r
 simp only at *
 clear hT hP hE hm hok hpm hdm hl
 by_cases h0 : r1 = 0
 ·subst h0
  rewrite [show ansX (0, tx) = tx from rfl]
  rewrite [show errO 0 = .nilIface from rfl] at HD
  go_enter Tryz.func29, Tryz.ntmps29
  go_upto_region 1 with (go_big_may; fail)
  go_upto_region 2 with (go_big_may; (go_at_call 74; refine (HD.out _ hst).mono ?_; rintro e Wd ⟨rfl, q1, u1, u2, u3, hst'⟩; clear hst; have hst := hst'; clear hst'))
  go_upto_region 3 with (go_big_may; (refine L_alloc1 (d := some 7) rfl rfl rfl el_api_Errno rfl ?_; (try clear hnew); intro g7 W7 hnew; replace hst := hst.trans hnew; simp only [List.cons_append, List.nil_append] at hst))
  go_upto_region 5 with (go_big_may; (go_at_call 75; (try clear hnew); refine (as_nil _ _).mono ?_; rintro e Wa ⟨rfl, hnew⟩; replace hst := hst.keep hnew))
  go_wp2_with (fail)
  go_ret
  exact ⟨rfl, q1, u1, u2, u3, hst.tail⟩
 ·rewrite [show ansX (r1, tx) = errTx r1 from if_neg h0]
  rewrite [show errO r1 = errV r1 from if_neg h0] at HD
  have HTx := Lib.hid (fun w' => errTx_any r1 hr9 w')
  unfold errV at HD
  clear h0 hr9
  go_enter Tryz.func29, Tryz.ntmps29
  go_upto_region 1 with (go_big_may; fail)
  go_upto_region 2 with (go_big_may; (go_at_call 74; refine (HD.out _ hst).mono ?_; rintro e Wd ⟨rfl, q1, u1, u2, u3, hst'⟩; clear hst; have hst := hst'; clear hst'))
  go_upto_region 3 with (go_big_may; (refine L_alloc1 (d := some 7) rfl rfl rfl el_api_Errno rfl ?_; (try clear hnew); intro g7 W7 hnew; replace hst := hst.trans hnew; simp only [List.cons_append, List.nil_append] at hst))
  go_upto_region 4 with (go_big_may; (go_at_call 75; (try clear hnew); refine (as_any (r1 : Int) g7 (.int .i64 0) w0 _ _ HE.out hst).mono ?_; rintro e Wa ⟨rfl, hst'⟩; clear hst; have hst := hst'; clear hst'))
  go_wp2_with (first | (go_at_call 69; (try clear hnew); refine (HTx.out _).mono ?_; rintro e Wk1 ⟨rfl, hnew⟩; replace hst := hst.keep hnew) | (refine L_load1 (d := some 17) rfl rfl rfl (by rfl) Tryz.underlying28 rfl (by (exact cell_of (hst.get 0 rfl) rfl)) ?_))
  go_ret
  exact ⟨rfl, q1, u1, u2, u3, hst.tail⟩
end Go.Proofs.YtaebeemnipafbaaGreatDoor

set_option maxRecDepth 20000
set_option linter.unusedSimpArgs false
set_option linter.unusedVariables false
namespace Go.Proofs.YtaebeemnipafbaaGreatDoor
open Go.RowKit
attribute [local simp] hdArr_size ntArr_size
def strsL (ls : List (List UInt8)) : List Value := ls.map fun l => .string (bsOf l)
theorem length_strsL (ls : List (List UInt8)) : (strsL ls).length = ls.length := by simp [strsL]
theorem strs_at {W : World} {g off i : Nat} {ls : List (List UInt8)} (h : W.rangeAt g (off + (i : Int).toNat * 1) (((strsL ls).drop ((i : Int).toNat * 1)).take 1)) (hi : i < ls.length) : W.cell? ⟨g, off + (i : Int).toNat * 1, none⟩ = some (.string (bsOf ls[i])) := by
 have := h 0 (.string (bsOf ls[i])) (by simp [strsL, hi])
 simpa using this
def DkInv (key : List UInt8) (m : Nat) (s : DkS) (d : DkP) (p : LgP) : Prop := DkOk s ∧ MapsOf s.ns p.nm p.am ∧ p.m = m ∧ d.m = m
theorem DkInv.next {key : List UInt8} {m : Nat} {s : DkS} {d : DkP} {p p' : LgP} (h : DkInv key m s d p) {l : List UInt8} (h2 : p'.m = p.m) (h3 : MapsOf (ans3 key s l).1.ns p'.nm p'.am) : DkInv key m (ans3 key s l).1 d p' :=
 ⟨h.1.ans key l, h3, h2.trans h.2.2.1, h.2.2.2⟩
end Go.Proofs.YtaebeemnipafbaaGreatDoor

set_option maxRecDepth 20000
set_option linter.unusedSimpArgs false
set_option linter.unusedVariables false
namespace Go.Proofs.YtaebeemnipafbaaGreatDoor
open Go.RowKit
attribute [local simp] hdArr_size ntArr_size
def tNothing : List UInt8 := [110, 111, 116, 104, 105, 110, 103]
def tErr : List UInt8 := [69, 114, 114]
def wrongN (t : List UInt8) : Bool := decide (3 < t.length) && decide (t.take 3 = tErr)
def asksN (l : List UInt8) : Bool := decide (l = tHead) || decide (l = tHeld) || (decide (5 < l.length) && decide (l.take 5 = tFindB))
theorem dec_digit : ∀ (n : Nat), ∀ b ∈ Lib.decDigits n, b ≠ 69 := by
 intro n
 induction n using Nat.strongRecOn with
 | ind n ih =>
 intro b hb
 rw [Lib.decDigits] at hb
 have hd : ∀ k : Fin 10, UInt8.ofNat (48 + k.val) ≠ 69 := by decide
 by_cases h : n < 10
 ·rw [dif_pos h, List.mem_singleton] at hb
  rw [hb]
  exact hd ⟨n, h⟩
 ·rw [dif_neg h] at hb
  rcases List.mem_append.1 hb with hb | hb
  ·exact ih (n / 10) (by omega) b hb
  ·rw [List.mem_singleton] at hb
   rw [hb]
   exact hd ⟨n % 10, by omega⟩
theorem keep_state (key : List UInt8) (s : DkS) (l : List UInt8) (h : wrongN (ansX (ans3 key s l).2) = true ∨ asksN l = true) : (ans3 key s l).1 = s := by
 unfold ans3 at *
 by_cases c1 : l = tHead
 ·rw [if_pos c1]
 rw [if_neg c1] at *
 by_cases c2 : l = tHeld
 ·rw [if_pos c2]
 rw [if_neg c2] at *
 by_cases c3 : l = tTake
 ·rw [if_pos c3] at h
  exfalso
  subst c3
  rcases h with h | h
  ·exact absurd (show wrongN tOk = true from h) (by decide)
  ·exact absurd h (by decide)
 rw [if_neg c3] at *
 by_cases c4 : begN l tFindB = true
 ·rw [if_pos c4]
 rw [if_neg c4] at *
 by_cases c5 : begN l tAddB = true
 ·rw [if_pos c5] at *
  unfold addT at *
  by_cases c6 : spI (l.drop 4) < (l.drop 4).length ∧ hx64 ((l.drop 4).drop (spI (l.drop 4) + 1))
  ·rw [if_pos c6] at *
   by_cases c7 : addE s.ns ((l.drop 4).take (spI (l.drop 4))) = 0
   ·rw [if_pos c7] at h
    exfalso
    rcases h with h | h
    ·have h1 : wrongN (Lib.decDigits s.ns.length) = true := h
     unfold wrongN at h1
     rw [Bool.and_eq_true, decide_eq_true_iff, decide_eq_true_iff] at h1
     have h2 : (69 : UInt8) ∈ (Lib.decDigits s.ns.length).take 3 := by rw [h1.2]; decide
     exact dec_digit _ 69 (List.mem_of_mem_take h2) rfl
    ·unfold asksN at h
     rw [decide_eq_false c1, decide_eq_false c2, Bool.false_or, Bool.false_or, Bool.and_eq_true, decide_eq_true_iff, decide_eq_true_iff] at h
     exact c4 (decide_eq_true h.2)
   ·rw [if_neg c7]
  ·rw [if_neg c6]
 ·rw [if_neg c5]
theorem ans_nothing (key : List UInt8) (s : DkS) : ans3 key s tNothing = (s, (1, [])) := by
 unfold ans3
 rw [if_neg (by decide), if_neg (by decide), if_neg (by decide), if_neg (by decide), if_neg (by decide)]
def dkB (d : DkP) (p : LgP) (key : List UInt8) (s : DkS) : List Res :=
 lgL p key s.ns ++ [.blk d.g 125 (dkArr p.g d.gp), pinS d.gp d.O d.m d.oc s.ns s.j s.z, .row d.O d.m d.oc 5 1 (bytesL key)]
theorem dkR_B (d : DkP) (p : LgP) (key : List UInt8) (s : DkS) (L : List Res) : dkR d p key s L = dkB d p key s ++ L := by
 unfold dkR dkB
 rw [List.append_assoc]
 rfl
set_option maxHeartbeats 80000000 in
set_option maxRecDepth 100000 in
theorem deskKeeps_any (w : World) (hT : Tb w) (hP : Pz w) (hE : Eb w) (key : List UInt8) (K : Option Addr) (m mc : Nat) (hk : SlR w K m mc 1 (bytesL key)) (hm0 : m * 1 ≤ 140737488351232) (aa : List (List UInt8)) (A : Option Addr) (n nc : Nat) (hx : SlR w A n nc 1 (strsL aa)) (hz : ∀ l ∈ aa, l.length ≤ 140737488351232)
  (ln : List UInt8) (hln : ln.length ≤ 140737488351232) (bs : List (List UInt8)) (B : Option Addr) (bn bc : Nat) (hy : SlR w B bn bc 1 (strsL bs)) (hzb : ∀ l ∈ bs, l.length ≤ 140737488351232) :
  Calls Tryz.prog 6 #[.slice K m mc, .slice A n nc, .string (bsOf ln), .slice B bn bc] w fun e w' => e = .returned (.bool true) ∧ St w w' [] := by
 have hst := St.refl w
 have HT := Lib.hid hT
 have HX := Lib.hid hx
 have HY := Lib.hid hy
 have HK := Lib.hid hk
 have hl : aa.length = n := by have := hx.1; rw [length_strsL] at this; omega
 have hl2 : bs.length = bn := by have := hy.1; rw [length_strsL] at this; omega
 have HL := Lib.hid hl
 have HL2 := Lib.hid hl2
 have HZ := Lib.hid hz
 have HZ2 := Lib.hid hzb
 have hm : m ≤ 140737488351232 := by omega
 have HN := Lib.hid (fun (w' : World) (ht : Tb w') (h : SlR w' K m mc 1 (bytesL key)) => dnew_any key K m mc w' ht h hm)
 have HDo := Lib.hid (fun (s : DkS) (l : List UInt8) (d : DkP) (p : LgP) (w' : World) (L : List Res) (h : St w w' (dkB d p key s ++ L)) (hi : DkInv key m s d p) (hl : l.length ≤ 140737488351232) => show Calls Tryz.prog 29 #[.pointer (some ⟨d.g, 0, none⟩), .string (bsOf l)] w' fun e w2 => e = .returned (.string (bsOf (ansX (ans3 key s l).2))) ∧ ∃ p' : LgP, Hid (DkInv key m (ans3 key s l).1 d p') ∧ St w w2 (dkB d p' key (ans3 key s l).1 ++ L) by
  rw [← dkR_B] at h
  refine (Do_any key s l d p w w' L hT hP hE h hi.2.1 hi.1 (by have := hi.2.2.1; omega) (by have := hi.2.2.2; omega) hl).mono ?_
  rintro e w2 ⟨rfl, p', h1, h2, h3, h4⟩
  rw [dkR_B] at h4
  exact ⟨rfl, p', Lib.hid (hi.next h2 h3), h4⟩)
 clear hT hP hE hx hy hk hm0 hl hl2 hz hzb
 go_enter Tryz.func6, Tryz.ntmps6
 by_cases h40 : 40 < (n : Int)
 ·skip
  go_upto_region 1 with (go_big_may; fail)
  go_upto_region 2 with (first | (with_reducible refine L_pass (t := 25) rfl (by kernel_rfl) ?_) | (with_reducible refine L_pass (t := 26) rfl (by kernel_rfl) ?_) | (with_reducible refine L_pass (t := 27) rfl (by kernel_rfl) ?_))
  go_wp2_with (fail)
  go_ret
  exact ⟨rfl, hst.forget⟩
 by_cases h41 : 40 < (bn : Int)
 ·skip
  go_upto_region 1 with (go_big_may; fail)
  go_upto_region 2 with (go_big_may; fail)
  go_wp2_with (fail)
  go_ret
  exact ⟨rfl, hst.forget⟩
 go_upto_region 1 with (go_big_may; fail)
 go_upto_region 3 with (go_big_may; fail)
 go_upto_region 4 with (go_big_may; (go_at_call 26; refine (HN.out _ (HT.out.of hst) (hst.old (by decide) HK.out)).mono ?_; rintro e Wn ⟨dx, px, rfl, hdm, hpm, hmp, hnew⟩; replace hst := hst.trans hnew; clear hnew))
 have HIx := Lib.hid (show DkInv key m ⟨[], 0, zeroD⟩ dx px from ⟨⟨.nil, Nat.le_refl _⟩, hmp, hpm, hdm⟩)
 clear hdm hpm hmp
 go_upto_region 5 with (go_big_may; (go_at_call 26; refine (HN.out _ (HT.out.of hst) (hst.old (by decide) HK.out)).mono ?_; rintro e Wn ⟨dy, py, rfl, hdm, hpm, hmp, hnew⟩; replace hst := hst.trans hnew; clear hnew))
 have HIy := Lib.hid (show DkInv key m ⟨[], 0, zeroD⟩ dy py from ⟨⟨.nil, Nat.le_refl _⟩, hmp, hpm, hdm⟩)
 have h40' : n ≤ 40 := by omega
 have h41' : bn ≤ 40 := by omega
 clear hdm hpm hmp HN h40 h41
 obtain ⟨s0, hs0⟩ : ∃ s : DkS, s = ⟨[], 0, zeroD⟩ := ⟨_, rfl⟩
 rewrite [← hs0, dkR_B, dkR_B, List.append_nil, List.append_nil] at hst
 rewrite [← hs0] at HIx HIy
 clear hs0
 replace hst := hst.perm (List.perm_append_comm (l₁ := dkB dy py key s0) (l₂ := dkB dx px key s0))
 rewrite [← List.append_nil (dkB dy py key s0)] at hst
 have HNo := Lib.hid (fun (w' : World) (L : List Res) h => by
  have := HDo.out s0 tNothing dx px w' L h HIx.out (by decide)
  rewrite [ans_nothing] at this
  exact this)
 simp only at HNo
 rewrite [show ansX (1, []) = errTx 1 from rfl] at HNo
 obtain ⟨tk, htk⟩ : ∃ t, t = errTx 1 := ⟨_, rfl⟩
 rewrite [← htk] at HNo
 have HEk := Lib.hid (show (!decide (tk = errTx 1)) = false by rw [decide_eq_true htk]; rfl)
 clear htk HIx
 go_upto_region 7 with (go_big_may; fail)
 go_upto_region 8 with (go_big_may; (go_at_call 29; refine (HNo.out _ _ hst).mono ?_; rintro e Wd ⟨rfl, qx, ux, hst'⟩; clear hst; have hst := hst'; clear hst'))
 go_upto_region 10 with (go_big_may; (refine L_neStr (d := some 42) (s := tk) (u := errTx 1) rfl rfl rfl (by kernel_rfl) Tryz.underlying9 (ev_tmp rfl) ev_const ?_; rewrite [HEk.out]))
 go_wp2_with (fail)
 clear HNo HEk
 go_loopg [12] n (fun gk s12 wr => ∃ (i : Nat) (s : DkS) (q1 q2 : LgP), Hid (i + gk = n) ∧ Hid (DkInv key m s dx q1) ∧ Hid (DkInv key m s dy q2) ∧ s12 = .int .i64 (i : Int) ∧ St w wr (dkB dx q1 key s ++ (dkB dy q2 key s ++ [])))
 case atStart => exact ⟨0, s0, qx, py, Lib.hid (by omega), ux, HIy, rfl, hst⟩
 case round =>
  clear hst ux HIy
  obtain ⟨i, s, q1, q2, HI, V1, V2, rfl, hst⟩ := hrel
  have hi := HI.out
  by_cases hin : i < n
  ·have hil : i < aa.length := by rw [HL.out]; exact hin
   have HC := Lib.hid (fun (W : World) (g off : Nat) h => strs_at (W := W) (g := g) (off := off) (i := i) (ls := aa) h hil)
   have hzl := HZ.out aa[i] (List.getElem_mem hil)
   have HD1 := Lib.hid (fun (w' : World) (L : List Res) h => HDo.out s aa[i] dx q1 w' L h V1.out hzl)
   have HD2 := Lib.hid (fun (w' : World) (L : List Res) h => HDo.out s aa[i] dy q2 w' L h V2.out hzl)
   generalize aa[i] = l at *
   obtain ⟨ta, hta⟩ : ∃ t, t = ansX (ans3 key s l).2 := ⟨_, rfl⟩
   obtain ⟨tb, htb⟩ : ∃ t, t = ansX (ans3 key s l).2 := ⟨_, rfl⟩
   rewrite [← hta] at HD1
   rewrite [← htb] at HD2
   have HEq := Lib.hid (show (!decide (ta = tb)) = false by rw [decide_eq_true (hta.trans htb.symm)]; rfl)
   generalize (ans3 key s l).1 = s1 at *
   clear hil hzl hi hta htb
   go_upto_region 13 with (go_big_may; fail)
   go_upto_region 14 with (go_big_may; first | (refine L_load1 (d := some 53) rfl rfl rfl (by rfl) Tryz.underlying9 rfl (HC.out _ _ _ hr52) ?_) | (go_at_call 29; refine (HD1.out _ _ hst).mono ?_; rintro e Wd ⟨rfl, r1, u1, hst'⟩; clear hst; have hst := hst'; clear hst') | (refine L_idxS (d := some 52) rfl rfl rfl (by rfl) (by rfl) Tryz.underlying65 el_string (by (exact hst.old (by decide) HX.out)) (by omega) (by omega) ?_; intro o52 p52 ha52 hr52; ((subst ha52))))
   replace hst := St.swap (X := dkB dx r1 key s1) (Y := dkB dy q2 key s) (L := []) hst
   go_upto_region 15 with (go_big_may; first | (refine L_load1 (d := some 59) rfl rfl rfl (by rfl) Tryz.underlying9 rfl (HC.out _ _ _ hr58) ?_) | (go_at_call 29; refine (HD2.out _ _ hst).mono ?_; rintro e Wd ⟨rfl, r2, u2, hst'⟩; clear hst; have hst := hst'; clear hst') | (refine L_idxS (d := some 58) rfl rfl rfl (by rfl) (by rfl) Tryz.underlying65 el_string (by (exact hst.old (by decide) HX.out)) (by omega) (by omega) ?_; intro o58 p58 ha58 hr58; ((obtain ⟨h1, h2⟩ := some_addr ha58; subst h1; subst h2; clear ha58))))
   replace hst := St.swap (X := dkB dy r2 key s1) (Y := dkB dx r1 key s1) (L := []) hst
   go_upto_region 12 with (go_big_may; (refine L_neStr (d := some 63) (s := ta) (u := tb) rfl rfl rfl (by kernel_rfl) Tryz.underlying9 (ev_tmp rfl) (ev_tmp rfl) ?_; rewrite [HEq.out]))
   go_wp2_with (fail)
   go_roundg (gk - 1)
   case measure => have := HI.out; omega
   case rel => exact ⟨i + 1, s1, r1, r2, Lib.hid (by have := HI.out; omega), u1, u2, by go_num, hst⟩
  ·obtain rfl : i = n := by omega
   clear hi HI HZ HL hin
   have HDl := Lib.hid (fun (w' : World) (L : List Res) h => HDo.out s ln dx q1 w' L h V1.out hln)
   have hks := keep_state key s ln
   generalize ansX (ans3 key s ln).2 = tt at *
   generalize (ans3 key s ln).1 = s1 at *
   go_upto_region 17 with (go_big_may; fail)
   go_upto_region 18 with (go_big_may; (go_at_call 29; refine (HDl.out _ _ hst).mono ?_; rintro e Wd ⟨rfl, r1, u1, hst'⟩; clear hst; have hst := hst'; clear hst'))
   clear HDl
   have hts := bsOf_size tt
   have hls := bsOf_size ln
   go_simp
   go_cut [16] (fun s16 wx => s16 = .bool (wrongN tt) ∧ St w wx (dkB dx r1 key s1 ++ (dkB dy q2 key s ++ [])))
   case first =>
    by_cases c1 : 3 < tt.length
    ·have e1 : decide (3 < tt.length) = true := decide_eq_true c1
     have e2 : decide ((3 : Int) < (tt.length : Int)) = true := decide_eq_true (by omega)
     have p1 : (3 : Int) < (tt.length : Int) := by omega
     have HW := Lib.hid (show wrongN tt = decide (tt.take 3 = tErr) by unfold wrongN; rw [e1, Bool.true_and])
     go_wp2_with (first | (refine L_strTo (d := some 72) rfl rfl rfl Tryz.underlying9 (ev_tmp rfl) ev_const 3 rfl (by omega) ?_) | (refine L_eqStr (d := some 73) (u := tErr) rfl rfl rfl (by kernel_rfl) Tryz.underlying9 (ev_tmp rfl) ev_const ?_))
     go_meet
     case rel => exact ⟨by rw [HW.out], hst⟩
    ·have e1 : decide (3 < tt.length) = false := decide_eq_false c1
     have e2 : decide ((3 : Int) < (tt.length : Int)) = false := decide_eq_false (by omega)
     have p1 : ¬ (3 : Int) < (tt.length : Int) := by omega
     have HW := Lib.hid (show wrongN tt = false by unfold wrongN; rw [e1, Bool.false_and])
     go_wp2_with (fail)
     go_meet
     case rel => exact ⟨by rw [HW.out], hst⟩
   case rest =>
    obtain ⟨rfl, hst2⟩ := hcut
    clear hst
    have hst := hst2
    clear hst2
    go_upto_region 19 with fail
    go_cut [17] (fun s17 wx => s17 = .bool (asksN ln) ∧ St w wx (dkB dx r1 key s1 ++ (dkB dy q2 key s ++ [])))
    case first =>
     by_cases d1 : ln = tHead
     ·have HW := Lib.hid (show asksN ln = true by unfold asksN; rw [decide_eq_true d1]; rfl)
      have HD := Lib.hid (show decide (ln = tHead) = true from decide_eq_true d1)
      clear d1
      go_wp2_with ((refine L_eqStr (d := some 76) (u := tHead) rfl rfl rfl (by kernel_rfl) Tryz.underlying9 (ev_tmp rfl) ev_const ?_; rewrite [HD.out]))
      go_meet
      case rel => exact ⟨by rw [HW.out], hst⟩
     have F1 := Lib.hid (show decide (ln = tHead) = false from decide_eq_false d1)
     by_cases d2 : ln = tHeld
     ·have HW := Lib.hid (show asksN ln = true by unfold asksN; rw [F1.out, decide_eq_true d2]; rfl)
      have HD := Lib.hid (show decide (ln = tHeld) = true from decide_eq_true d2)
      clear d1 d2
      go_wp2_with (first | (refine L_eqStr (d := some 76) (u := tHead) rfl rfl rfl (by kernel_rfl) Tryz.underlying9 (ev_tmp rfl) ev_const ?_; rewrite [F1.out]) | (refine L_eqStr (d := some 79) (u := tHeld) rfl rfl rfl (by kernel_rfl) Tryz.underlying9 (ev_tmp rfl) ev_const ?_; rewrite [HD.out]))
      go_meet
      case rel => exact ⟨by rw [HW.out], hst⟩
     have F2 := Lib.hid (show decide (ln = tHeld) = false from decide_eq_false d2)
     by_cases d3 : 5 < ln.length
     ·have e1 : decide (5 < ln.length) = true := decide_eq_true d3
      have e2 : decide ((5 : Int) < (ln.length : Int)) = true := decide_eq_true (by omega)
      have p1 : (5 : Int) < (ln.length : Int) := by omega
      have HW := Lib.hid (show asksN ln = decide (ln.take 5 = tFindB) by unfold asksN; rw [F1.out, F2.out, e1]; simp)
      clear d1 d2
      go_wp2_with (first | (refine L_eqStr (d := some 76) (u := tHead) rfl rfl rfl (by kernel_rfl) Tryz.underlying9 (ev_tmp rfl) ev_const ?_; rewrite [F1.out]) | (refine L_eqStr (d := some 79) (u := tHeld) rfl rfl rfl (by kernel_rfl) Tryz.underlying9 (ev_tmp rfl) ev_const ?_; rewrite [F2.out]) | (refine L_strTo (d := some 87) rfl rfl rfl Tryz.underlying9 (ev_tmp rfl) ev_const 5 rfl (by omega) ?_) | (refine L_eqStr (d := some 88) (u := tFindB) rfl rfl rfl (by kernel_rfl) Tryz.underlying9 (ev_tmp rfl) ev_const ?_))
      go_meet
      case rel => exact ⟨by rw [HW.out], hst⟩
     ·have e1 : decide (5 < ln.length) = false := decide_eq_false d3
      have e2 : decide ((5 : Int) < (ln.length : Int)) = false := decide_eq_false (by omega)
      have p1 : ¬ (5 : Int) < (ln.length : Int) := by omega
      have HW := Lib.hid (show asksN ln = false by unfold asksN; rw [F1.out, F2.out, e1]; rfl)
      clear d1 d2
      go_wp2_with (first | (refine L_eqStr (d := some 76) (u := tHead) rfl rfl rfl (by kernel_rfl) Tryz.underlying9 (ev_tmp rfl) ev_const ?_; rewrite [F1.out]) | (refine L_eqStr (d := some 79) (u := tHeld) rfl rfl rfl (by kernel_rfl) Tryz.underlying9 (ev_tmp rfl) ev_const ?_; rewrite [F2.out]))
      go_meet
      case rel => exact ⟨by rw [HW.out], hst⟩
    case rest =>
     obtain ⟨rfl, hst2⟩ := hcut
     clear hst
     have hst := hst2
     clear hst2
     clear hts hls
     generalize wrongN tt = b16 at *
     generalize asksN ln = b17 at *
     cases b16 with
     | true =>
      obtain rfl := hks (.inl rfl)
      clear hks
      go_upto_region 22 with (first | (with_reducible refine L_pass (t := 94) rfl (by kernel_rfl) ?_) | (with_reducible refine L_pass (t := 95) rfl (by kernel_rfl) ?_))
      go_wp2_with (fail)
      go_loopg [18] bn (fun gk s18 wr => ∃ (i2 : Nat) (s2 : DkS) (q1 q2 : LgP), Hid (i2 + gk = bn) ∧ Hid (DkInv key m s2 dx q1) ∧ Hid (DkInv key m s2 dy q2) ∧ s18 = .int .i64 (i2 : Int) ∧ St w wr (dkB dx q1 key s2 ++ (dkB dy q2 key s2 ++ [])))
      case atStart => exact ⟨0, s1, r1, q2, Lib.hid (by omega), u1, V2, rfl, hst⟩
      case round =>
       clear hst u1 V1 V2
       obtain ⟨i2, s2, p1, p2, HI, V1, V2, rfl, hst⟩ := hrel
       have hi := HI.out
       by_cases hin : i2 < bn
       ·have hil : i2 < bs.length := by rw [HL2.out]; exact hin
        have HC := Lib.hid (fun (W : World) (g off : Nat) h => strs_at (W := W) (g := g) (off := off) (i := i2) (ls := bs) h hil)
        have hzl := HZ2.out bs[i2] (List.getElem_mem hil)
        have HD1 := Lib.hid (fun (w' : World) (L : List Res) h => HDo.out s2 bs[i2] dx p1 w' L h V1.out hzl)
        have HD2 := Lib.hid (fun (w' : World) (L : List Res) h => HDo.out s2 bs[i2] dy p2 w' L h V2.out hzl)
        generalize bs[i2] = l at *
        obtain ⟨ta, hta⟩ : ∃ t, t = ansX (ans3 key s2 l).2 := ⟨_, rfl⟩
        obtain ⟨tb, htb⟩ : ∃ t, t = ansX (ans3 key s2 l).2 := ⟨_, rfl⟩
        rewrite [← hta] at HD1
        rewrite [← htb] at HD2
        have HEq := Lib.hid (show (!decide (ta = tb)) = false by rw [decide_eq_true (hta.trans htb.symm)]; rfl)
        generalize (ans3 key s2 l).1 = s3 at *
        clear hil hzl hi hta htb
        go_upto_region 25 with (go_big_may; fail)
        go_upto_region 26 with (go_big_may; first | (refine L_load1 (d := some 107) rfl rfl rfl (by rfl) Tryz.underlying9 rfl (HC.out _ _ _ hr106) ?_) | (go_at_call 29; refine (HD1.out _ _ hst).mono ?_; rintro e Wd ⟨rfl, v1, u1, hst'⟩; clear hst; have hst := hst'; clear hst') | (refine L_idxS (d := some 106) rfl rfl rfl (by rfl) (by rfl) Tryz.underlying65 el_string (by (exact hst.old (by decide) HY.out)) (by omega) (by omega) ?_; intro o106 p106 ha106 hr106; ((subst ha106))))
        replace hst := St.swap (X := dkB dx v1 key s3) (Y := dkB dy p2 key s2) (L := []) hst
        go_upto_region 27 with (go_big_may; first | (refine L_load1 (d := some 113) rfl rfl rfl (by rfl) Tryz.underlying9 rfl (HC.out _ _ _ hr112) ?_) | (go_at_call 29; refine (HD2.out _ _ hst).mono ?_; rintro e Wd ⟨rfl, v2, u2, hst'⟩; clear hst; have hst := hst'; clear hst') | (refine L_idxS (d := some 112) rfl rfl rfl (by rfl) (by rfl) Tryz.underlying65 el_string (by (exact hst.old (by decide) HY.out)) (by omega) (by omega) ?_; intro o112 p112 ha112 hr112; ((obtain ⟨h1, h2⟩ := some_addr ha112; subst h1; subst h2; clear ha112))))
        replace hst := St.swap (X := dkB dy v2 key s3) (Y := dkB dx v1 key s3) (L := []) hst
        go_upto_region 24 with (go_big_may; (refine L_neStr (d := some 117) (s := ta) (u := tb) rfl rfl rfl (by kernel_rfl) Tryz.underlying9 (ev_tmp rfl) (ev_tmp rfl) ?_; rewrite [HEq.out]))
        go_wp2_with (fail)
        go_roundg (gk - 1)
        case measure => have := HI.out; omega
        case rel => exact ⟨i2 + 1, s3, v1, v2, Lib.hid (by have := HI.out; omega), u1, u2, by go_num, hst⟩
       ·obtain rfl : i2 = bn := by omega
        clear hi HI
        go_upto_region 29 with (go_big_may; fail)
        go_wp2_with (fail)
        go_ret
        exact ⟨rfl, hst.forget⟩
     | false =>
      cases b17 with
      | true =>
       obtain rfl := hks (.inr rfl)
       clear hks
       go_upto_region 22 with (go_big_may; fail)
       go_wp2_with (fail)
       go_loopg [18] bn (fun gk s18 wr => ∃ (i2 : Nat) (s2 : DkS) (q1 q2 : LgP), Hid (i2 + gk = bn) ∧ Hid (DkInv key m s2 dx q1) ∧ Hid (DkInv key m s2 dy q2) ∧ s18 = .int .i64 (i2 : Int) ∧ St w wr (dkB dx q1 key s2 ++ (dkB dy q2 key s2 ++ [])))
       case atStart => exact ⟨0, s1, r1, q2, Lib.hid (by omega), u1, V2, rfl, hst⟩
       case round =>
        clear hst u1 V1 V2
        obtain ⟨i2, s2, p1, p2, HI, V1, V2, rfl, hst⟩ := hrel
        have hi := HI.out
        by_cases hin : i2 < bn
        ·have hil : i2 < bs.length := by rw [HL2.out]; exact hin
         have HC := Lib.hid (fun (W : World) (g off : Nat) h => strs_at (W := W) (g := g) (off := off) (i := i2) (ls := bs) h hil)
         have hzl := HZ2.out bs[i2] (List.getElem_mem hil)
         have HD1 := Lib.hid (fun (w' : World) (L : List Res) h => HDo.out s2 bs[i2] dx p1 w' L h V1.out hzl)
         have HD2 := Lib.hid (fun (w' : World) (L : List Res) h => HDo.out s2 bs[i2] dy p2 w' L h V2.out hzl)
         generalize bs[i2] = l at *
         obtain ⟨ta, hta⟩ : ∃ t, t = ansX (ans3 key s2 l).2 := ⟨_, rfl⟩
         obtain ⟨tb, htb⟩ : ∃ t, t = ansX (ans3 key s2 l).2 := ⟨_, rfl⟩
         rewrite [← hta] at HD1
         rewrite [← htb] at HD2
         have HEq := Lib.hid (show (!decide (ta = tb)) = false by rw [decide_eq_true (hta.trans htb.symm)]; rfl)
         generalize (ans3 key s2 l).1 = s3 at *
         clear hil hzl hi hta htb
         go_upto_region 25 with (go_big_may; fail)
         go_upto_region 26 with (go_big_may; first | (refine L_load1 (d := some 107) rfl rfl rfl (by rfl) Tryz.underlying9 rfl (HC.out _ _ _ hr106) ?_) | (go_at_call 29; refine (HD1.out _ _ hst).mono ?_; rintro e Wd ⟨rfl, v1, u1, hst'⟩; clear hst; have hst := hst'; clear hst') | (refine L_idxS (d := some 106) rfl rfl rfl (by rfl) (by rfl) Tryz.underlying65 el_string (by (exact hst.old (by decide) HY.out)) (by omega) (by omega) ?_; intro o106 p106 ha106 hr106; ((subst ha106))))
         replace hst := St.swap (X := dkB dx v1 key s3) (Y := dkB dy p2 key s2) (L := []) hst
         go_upto_region 27 with (go_big_may; first | (refine L_load1 (d := some 113) rfl rfl rfl (by rfl) Tryz.underlying9 rfl (HC.out _ _ _ hr112) ?_) | (go_at_call 29; refine (HD2.out _ _ hst).mono ?_; rintro e Wd ⟨rfl, v2, u2, hst'⟩; clear hst; have hst := hst'; clear hst') | (refine L_idxS (d := some 112) rfl rfl rfl (by rfl) (by rfl) Tryz.underlying65 el_string (by (exact hst.old (by decide) HY.out)) (by omega) (by omega) ?_; intro o112 p112 ha112 hr112; ((obtain ⟨h1, h2⟩ := some_addr ha112; subst h1; subst h2; clear ha112))))
         replace hst := St.swap (X := dkB dy v2 key s3) (Y := dkB dx v1 key s3) (L := []) hst
         go_upto_region 24 with (go_big_may; (refine L_neStr (d := some 117) (s := ta) (u := tb) rfl rfl rfl (by kernel_rfl) Tryz.underlying9 (ev_tmp rfl) (ev_tmp rfl) ?_; rewrite [HEq.out]))
         go_wp2_with (fail)
         go_roundg (gk - 1)
         case measure => have := HI.out; omega
         case rel => exact ⟨i2 + 1, s3, v1, v2, Lib.hid (by have := HI.out; omega), u1, u2, by go_num, hst⟩
        ·obtain rfl : i2 = bn := by omega
         clear hi HI
         go_upto_region 29 with (go_big_may; fail)
         go_wp2_with (fail)
         go_ret
         exact ⟨rfl, hst.forget⟩
      | false =>
       clear hks
       go_upto_region 21 with (go_big_may; fail)
       go_wp2_with (fail)
       go_ret
       exact ⟨rfl, hst.forget⟩
end Go.Proofs.YtaebeemnipafbaaGreatDoor

set_option maxRecDepth 20000
set_option linter.unusedSimpArgs false
set_option linter.unusedVariables false
namespace Go.Proofs.YtaebeemnipafbaaGreatDoor
open Go.ChangeShapes Go.WideShapes Go.RowKit
theorem cellsP : Tryz.prog.cellsOf 268 = 20 := by kernel_rfl
theorem cells8p : Tryz.prog.cellsOf 203 = 1 := by kernel_rfl
theorem gPow : Tryz.prog.globalNamed "internal/strconv.uint64pow10" = some 3 := by kernel_rfl
theorem gPowType : (Tryz.prog.globals[3]?).map (·.type) = some 268 := by kernel_rfl
theorem pz_of {W : World} {rest : List (String × DataW Unit)} (h : laidMet Tryz.prog (("internal/strconv.uint64pow10", Lib.tabData .u64 Lib.pow10Tab) :: rest) W) : Pz W :=
 Lib.tabIs_of_head gPow gPowType Tryz.underlying268 Tryz.underlying203 cells8p cellsP h
theorem laid_p {W : World} (h : laidMet Tryz.prog [("math/bits.deBruijn32tab", Rows.laid_math_bits_deBruijn32tab), ("math/bits.deBruijn64tab", Rows.laid_math_bits_deBruijn64tab), ("internal/strconv.uint64pow10", Rows.laid_internal_strconv_uint64pow10), ("oathbook/sha.rounds", Rows.laid_oathbook_sha_rounds)] W) : Tb W ∧ Pz W :=
 ⟨tb_of (laidMet.tail (laidMet.tail (laidMet.tail h))), pz_of (laidMet.tail (laidMet.tail h))⟩
def d32Arr : Array Value := (Lib.deBruijn32tab.map fun (k : Nat) => Value.int .u8 (k : Int)).toArray
def d64Arr : Array Value := (Lib.deBruijn64tab.map fun (k : Nat) => Value.int .u8 (k : Int)).toArray
def pwArr : Array Value := (Lib.pow10Tab.map fun (k : Int) => Value.int .u64 k).toArray
end Go.Proofs.YtaebeemnipafbaaGreatDoor

set_option maxRecDepth 20000
set_option linter.unusedSimpArgs false
set_option linter.unusedVariables false
namespace Go.Proofs.YtaebeemnipafbaaGreatDoor
open Go.ChangeShapes Go.WideShapes Go.ChangeAt Go.RowKit Go.Deep
section
variable {P : Program} {H : Type} {enc : TypeId × Value → H} {W : World} {base : Nat} {spare : Nat → Bool} {held : Bool}
theorem weight_in {e : TypeId} : ∀ {el : List (DataW H)} {bytes : List UInt8}, (.lit (.string bytes)) ∈ el → bytes.length ∈ DataW.weightsAll P e el
 | [], _, h => by cases h
 | d :: el, bytes, h => by
  rw [DataW.weightsAll, List.mem_append]
  rcases List.mem_cons.1 h with rfl | h
  ·exact .inl (by simp [DataW.weights])
  ·exact .inr (weight_in h)
theorem open_linesS {r : Reach} {b0 : Nat} {t t1 : TypeId} {v : Value} {d : DataW H} {p : List MemPlace} (hts : P.underlying t = some (.slice t1)) (ht : P.underlying t1 = some .string) (ct : P.cellsOf t1 = 1)
  (hval : Value.okWide P W r b0 t v) (h : DataW.Trod enc P W base spare held t v d p) {ts : List TypeId} {ds : List (DataW H)} (hz : (DataW.weightsEach P ts ds).all (· ≤ reachBytes) = true) {j : Nat} (hj : ts[j]? = some t) (hd : ds[j]? = some d) :
  ∃ A n c ls, v = .slice A n c ∧ SlR W A n c 1 (strsL ls) ∧ (∀ l ∈ ls, l.length ≤ 140737488351232) := by
 obtain ⟨a0, len0, cap0, rfl⟩ := okWide_slice hts hval
 obtain ⟨fuel, hf⟩ := h
 rcases open_slice hts hf with ⟨hcs, hx⟩ | ⟨a, len, cap, m, k, D, Pl, hcs, hb, hl, hm, hmm, hx, hel⟩
 ·simp only [Value.cells, List.cons.injEq, Value.slice.injEq, and_true] at hcs
  obtain ⟨rfl, rfl, rfl⟩ := hcs
  exact ⟨none, 0, 0, [], rfl, SlR.nil_ W 1, fun l hl => by cases hl⟩
 ·simp only [Value.cells, List.cons.injEq, Value.slice.injEq, and_true] at hcs
  obtain ⟨rfl, rfl, rfl⟩ := hcs
  simp only [Prod.mk.injEq] at hx
  rw [ct] at hel
  have hlm : len0 ≤ m := by rw [hmm]; split <;> omega
  obtain ⟨bs, hbs⟩ := choose_below (α := List UInt8) (n := len0) (p := fun i b => W.cells? base (a.add (i * 1)) 1 = some [.string (bsOf b)] ∧ b.length ≤ 140737488351232) (fun i hi => by
   obtain ⟨cs', k1, k2⟩ := hel i (by omega)
   obtain ⟨s, hs, hxx, _⟩ := DataW.trod_string ht k2
   refine ⟨s.data.toList, by rw [k1, hs, ← bsOf_eta s], ?_⟩
   have h1 : D i = .lit (.string s.data.toList) := congrArg Prod.fst hxx
   have h2 : (.lit (.string s.data.toList) : DataW H) ∈ List.map D (List.range len0) := List.mem_map.2 ⟨i, List.mem_range.2 hi, h1⟩
   have h3 := DataW.weights_mem_each (P := P) hj hd s.data.toList.length (by
    rw [hx.1, DataW.weights, hts]
    exact List.mem_cons_of_mem _ (List.mem_append.2 (.inl (weight_in h2))))
   have h4 := List.all_eq_true.1 hz _ h3
   have h5 : s.data.toList.length ≤ reachBytes := by simpa using h4
   have := reach_le (n := s.data.toList.length) (b := 1) (by rw [Nat.mul_one]; exact h5)
   omega)
  have hs := slr_of (W := W) (base := base) (A := some a) (n := len0) (c := cap0) (s := 1) (by decide) (fun i => [.string (bsOf (bs i))]) hl hm (fun _ => ⟨a, rfl, fun i hi => (hbs i hi).1⟩)
  refine ⟨some a, len0, cap0, (List.range len0).map bs, rfl, ?_, ?_⟩
  ·have hfl : ∀ l : List Nat, l.flatMap (fun i => [Value.string (bsOf (bs i))]) = strsL (l.map bs) := by
    intro l
    induction l with
    | nil => rfl
    | cons x l ih => simp only [List.flatMap_cons, ih, List.map_cons, strsL, List.singleton_append]
   rw [hfl] at hs
   exact hs
  ·intro q hq
   obtain ⟨i, hi, rfl⟩ := List.mem_map.1 hq
   exact (hbs i (List.mem_range.1 hi)).2
end
end Go.Proofs.YtaebeemnipafbaaGreatDoor

set_option maxRecDepth 20000
set_option linter.unusedSimpArgs false
set_option linter.unusedVariables false
namespace Go.Proofs.YtaebeemnipafbaaGreatDoor
open Go.ChangeShapes Go.WideShapes Go.RowKit
def ebCell : Value := .iface 209 (.agg #[.pointer (some ⟨6, 36, none⟩)])
theorem etG : Tryz.prog.globalNamed "errors.errorType" = some 0 := by kernel_rfl
theorem rtT : (Tryz.prog.cutTypes.find? (·.1 == "internal/reflectlite.rtype")).map (·.2) = some 209 := by kernel_rfl
theorem oneRow : ((List.range 297).filter fun t => Tryz.prog.rowNamed t [101, 114, 114, 111, 114]) = [36] := by kernel_rfl
theorem nTypes : Tryz.prog.types.size = 297 := by kernel_rfl
theorem eb_of {W : World} (h : handlesMet Tryz.prog [("errors.errorType", Rows.laid_errors_errorType)] W) : Eb W := by
 obtain ⟨name, u, ty, e1, e2, e3, e4, e5⟩ := h _ (List.mem_singleton.2 rfl)
 have en : name = [101, 114, 114, 111, 114] := (Option.some.inj e1).symm
 subst en
 obtain rfl := Option.some.inj (rtT.symm.trans e2)
 have hm : ty ∈ (List.range 297).filter fun t => Tryz.prog.rowNamed t [101, 114, 114, 111, 114] := List.mem_filter.2 ⟨List.mem_range.2 (by rw [← nTypes]; exact e3), e4⟩
 rw [oneRow] at hm
 obtain rfl := List.mem_singleton.1 hm
 have hh : typeHandle Tryz.prog 36 = .pointer (some ⟨6, 36, none⟩) := by kernel_rfl
 rw [hh] at e5
 simpa [Eb] using World.var?_cell etG e5 0
end Go.Proofs.YtaebeemnipafbaaGreatDoor

set_option maxRecDepth 20000
set_option linter.unusedSimpArgs false
set_option linter.unusedVariables false
namespace Go.Proofs.YtaebeemnipafbaaGreatDoor
open Go.ChangeShapes Go.WideShapes Go.ChangeAt Go.RowKit Go.Deep
section
variable {P : Program} {H : Type} {enc : TypeId × Value → H} {W : World} {base : Nat} {spare : Nat → Bool} {held : Bool}
end
end Go.Proofs.YtaebeemnipafbaaGreatDoor

namespace Go.Proofs.YtaebeemnipafbaaGreatDoor.deskKeeps
open Go.ChangeShapes Go.WideShapes Go.ChangeAt Go.RowKit
theorem own : ownKnob Tryz.prog.godebug = none := by kernel_rfl
theorem laidOut : laidOutB Tryz.prog = true := by kernel_rfl
theorem cellsD : Tryz.prog.cellsOf 32 = 32 := by kernel_rfl
theorem cells8 : Tryz.prog.cellsOf 5 = 1 := by kernel_rfl
set_option maxRecDepth 100000 in
theorem contract (H : Type) (enc : TypeId × Value → H) (W : World) (base : Nat) (args : Array Value) (ds gs : List (DataW H)) (before : List MemPlace)
  (hval : ∀ (j : Nat) t v, Tryz.f6.params[j]? = some t → args[j]? = some v → Value.okWide Tryz.prog W .any base t v)
  (hW : DataW.Whole enc Tryz.prog Tryz.f6.params.toList Rows.deskKeepsSpec.vars false W args.toList ds gs before) (hT : Tb W) (hE : Eb W) (hP : Pz W)
  (hz : (DataW.weightsEach Tryz.prog (Tryz.f6.params.toList ++ (OpenSpec.ofChange Rows.deskKeepsSpec).bare.plain.varTypes Tryz.prog) (ds ++ gs)).all (· ≤ reachBytes) = true) :
  Calls Tryz.prog 6 args W fun e W' => ∃ v, e = .returned v ∧ Rows.deskKeepsSpec.post enc Tryz.prog Tryz.f6 false true false false W args v W' := by
 have hW' := hW
 obtain ⟨p, q, hA0, hV, rfl, hfz, hnd⟩ := hW
 have hA : DataW.TrodAll enc Tryz.prog W 0 (fun _ => true) true Tryz.f6.params.toList args.toList ds p := hA0
 rw [Tryz.params6] at hA hval hz
 obtain ⟨v0, vs0, d0, ds0, p0, q0, hargs, rfl, rfl, h0, r0⟩ := trodAll_cons hA
 obtain ⟨v1, vs1, d1, ds1, p1, q1, rfl, rfl, rfl, h1, r1⟩ := trodAll_cons r0
 obtain ⟨v2, vs2, d2, ds2, p2, q2, rfl, rfl, rfl, h2, r2⟩ := trodAll_cons r1
 obtain ⟨v3, vs3, d3, ds3, p3, q3, rfl, rfl, rfl, h3, r3⟩ := trodAll_cons r2
 obtain ⟨rfl, rfl, rfl⟩ := trodAll_nil r3
 obtain rfl : args = #[v0, v1, v2, v3] := by cases args; simp_all
 obtain ⟨rfl, rfl⟩ := trodVars_none hV
 obtain ⟨A0, n0, c0, a0, rfl, hs0, hd0⟩ := open_bytesS Tryz.underlying22 Tryz.underlying5 cells8 (hval 0 _ v0 rfl rfl) h0
 have hn0 : n0 * 1 ≤ 140737488351232 := by
  rcases hd0 with ⟨_, h0⟩ | ⟨el, sp, rfl, hel⟩
  ·rw [h0]; decide
  ·have := sized_slice hz (j := 0) (e := 5) rfl rfl Tryz.underlying22
   rw [show Tryz.prog.bytesOf 5 = 1 from by kernel_rfl] at this
   have := reach_le this
   rw [← hel]
   omega
 obtain ⟨A1, n1, c1, a1, rfl, hs1, hw1⟩ := open_linesS Tryz.underlying65 Tryz.underlying9 (by kernel_rfl) (hval 1 _ v1 rfl rfl) h1 hz (j := 1) rfl rfl
 obtain ⟨b2, rfl, rfl, rfl, ws2⟩ := Go.ChangeMaps.open_string Tryz.underlying9 (hval 2 _ v2 rfl rfl) h2
 obtain ⟨a2, ha2⟩ : ∃ a, b2 = bsOf a := ⟨_, bsOf_eta b2⟩
 subst ha2
 have hn2 : a2.length ≤ 140737488351232 := by
  have h := sized_string hz (j := 2) rfl rfl
  rw [bsOf_list] at h
  have := reach_le (n := a2.length) (b := 1) (by rw [Nat.mul_one]; exact h)
  omega
 obtain ⟨A3, n3, c3, a3, rfl, hs3, hw3⟩ := open_linesS Tryz.underlying65 Tryz.underlying9 (by kernel_rfl) (hval 3 _ v3 rfl rfl) h3 hz (j := 3) rfl rfl
 have lt0 : ∀ x ∈ p0, x.block < W.heap.size := by obtain ⟨m, hm⟩ := h0; exact DataW.trod_lt m _ _ _ hm
 have lt1 : ∀ x ∈ p1, x.block < W.heap.size := by obtain ⟨m, hm⟩ := h1; exact DataW.trod_lt m _ _ _ hm
 have lt3 : ∀ x ∈ p3, x.block < W.heap.size := by obtain ⟨m, hm⟩ := h3; exact DataW.trod_lt m _ _ _ hm
 clear hA0
 refine (deskKeeps_any W hT hP hE a0 A0 n0 c0 hs0 hn0 a1 A1 n1 c1 hs1 hw1 a2 hn2 a3 A3 n3 c3 hs3 hw3).mono fun e W' ⟨he, hst⟩ => ?_
 have bel := hst.below
 subst he
 exact ⟨_, rfl, _, _, _, [], _, [], hW', trodAll_mk1 (shut_bool Tryz.underlying4 _),
  (trodAll_cons_mk (Below.trod laidOut (by kernel_rfl) (of_decide_eq_true (by kernel_rfl)) h0 bel lt0) (trodAll_cons_mk (Below.trod laidOut (by kernel_rfl) (of_decide_eq_true (by kernel_rfl)) h1 bel lt1) (trodAll_cons_mk (Go.ChangeMaps.shut_string Tryz.underlying9 ws2) (trodAll_cons_mk (Below.trod laidOut (by kernel_rfl) (of_decide_eq_true (by kernel_rfl)) h3 bel lt3) trodAll_mk0)))), rfl, bel.frame _, fun h => by cases h⟩
noncomputable def laidWorldA (os : Os) : World :=
 { World.holding Tryz.prog os ⟨#[], #[], []⟩ with heap := (World.holding Tryz.prog os ⟨#[], #[], []⟩).heap.modify 1 fun
   | .cells _ t frozen => .cells tblArr t frozen
   | o => o }
noncomputable def laidWorldB (os : Os) : World :=
 { laidWorldA os with heap := (laidWorldA os).heap.modify 4 fun
   | .cells _ t frozen => .cells d32Arr t frozen
   | o => o }
noncomputable def laidWorldC (os : Os) : World :=
 { laidWorldB os with heap := (laidWorldB os).heap.modify 5 fun
   | .cells _ t frozen => .cells d64Arr t frozen
   | o => o }
noncomputable def laidWorld0 (os : Os) : World :=
 { laidWorldC os with heap := (laidWorldC os).heap.modify 3 fun
   | .cells _ t frozen => .cells pwArr t frozen
   | o => o }
noncomputable def laidWorld (os : Os) : World :=
 { laidWorld0 os with heap := (laidWorld0 os).heap.modify 0 fun
   | .cells _ t frozen => .cells #[ebCell] t frozen
   | o => o }
theorem laid_met (os : Os) : laidMetH Tryz.prog Rows.deskKeepsRow.laid ((laidWorld os).forCall (fun _ _ => 0) ⟨#[], #[.slice none 0 0, .slice none 0 0, .string ⟨#[]⟩, .slice none 0 0], []⟩).memory :=
 laidMetH_of_parts (laidMet_of_run' 8 (by kernel_rfl) (by kernel_rfl)) (by kernel_rfl)
theorem reads (os : Os) {H : Type} (enc : TypeId × Value → H) : ∃ places, DataW.whole enc Tryz.prog ((laidWorld os).forCall (fun _ _ => 0) ⟨#[], #[.slice none 0 0, .slice none 0 0, .string ⟨#[]⟩, .slice none 0 0], []⟩).memory Tryz.f6.params.toList Rows.deskKeepsSpec.vars false (#[.slice none 0 0, .slice none 0 0, .string ⟨#[]⟩, .slice none 0 0] : Array Value).toList 8 = some ([.nil, .nil, .lit (.string []), .nil], [], places) :=
 ⟨[], by kernel_rfl⟩
set_option maxRecDepth 100000 in
theorem lifted (os : Os) (started : os.Started) (H : Type) (enc : TypeId × Value → H) (F : Stop.Interp) :
  ReturnsInHanded {} Tryz.checked os 6 .any ((OpenSpec.ofChange Rows.deskKeepsSpec).preRow enc Tryz.prog Tryz.f6 Rows.deskKeepsRow.domain false Rows.deskKeepsRow.laid) (((OpenSpec.ofChange Rows.deskKeepsSpec).at F).post enc Tryz.prog Tryz.f6 false true false false) := by
 obtain ⟨places, hx⟩ := reads os enc
 refine returnsInHanded_of_row (C := Tryz.checked) (s := (OpenSpec.ofChange Rows.deskKeepsSpec)) own started (by kernel_rfl) Tryz.func6
  (witness_row_at (enc := enc) (C := Tryz.checked) false (laidWorld os) #[.slice none 0 0, .slice none 0 0, .string ⟨#[]⟩, .slice none 0 0] rfl (by kernel_rfl) (by kernel_rfl) (by kernel_rfl)
   (OpenSpec.preRow_of_cond 8 hx (by kernel_rfl) (fun k hk => by cases hk) (by kernel_rfl) (laid_met os))) ?_
 intro W base args ds gs before hval hW _ _ hz hL _ _
 exact contract H enc W base args ds gs before hval hW (laid_p (show laidMet Tryz.prog [("math/bits.deBruijn32tab", Rows.laid_math_bits_deBruijn32tab), ("math/bits.deBruijn64tab", Rows.laid_math_bits_deBruijn64tab), ("internal/strconv.uint64pow10", Rows.laid_internal_strconv_uint64pow10), ("oathbook/sha.rounds", Rows.laid_oathbook_sha_rounds)] W ∧ handlesMet Tryz.prog [("errors.errorType", Rows.laid_errors_errorType)] W from hL).1).1 (eb_of (show laidMet Tryz.prog [("math/bits.deBruijn32tab", Rows.laid_math_bits_deBruijn32tab), ("math/bits.deBruijn64tab", Rows.laid_math_bits_deBruijn64tab), ("internal/strconv.uint64pow10", Rows.laid_internal_strconv_uint64pow10), ("oathbook/sha.rounds", Rows.laid_oathbook_sha_rounds)] W ∧ handlesMet Tryz.prog [("errors.errorType", Rows.laid_errors_errorType)] W from hL).2) (laid_p (show laidMet Tryz.prog [("math/bits.deBruijn32tab", Rows.laid_math_bits_deBruijn32tab), ("math/bits.deBruijn64tab", Rows.laid_math_bits_deBruijn64tab), ("internal/strconv.uint64pow10", Rows.laid_internal_strconv_uint64pow10), ("oathbook/sha.rounds", Rows.laid_oathbook_sha_rounds)] W ∧ handlesMet Tryz.prog [("errors.errorType", Rows.laid_errors_errorType)] W from hL).1).2 hz
theorem said : Rows.DeskKeepsSaid :=
 OpenClaim.holds_of_cond 6 Tryz.f6 rfl rfl rfl rfl rfl rfl rfl ⟨rfl, rfl, rfl, rfl, rfl⟩ rfl rfl rfl rfl rfl (by kernel_rfl) Tryz.func6 (by kernel_rfl)
  (of_decide_eq_true (by kernel_rfl)) (by unfold Func.isWrapper; first | (rw [if_pos (by decide +kernel)]; kernel_rfl) | (rw [if_neg (by decide +kernel)]; exact ⟨rfl, rfl⟩))
  (fun os started H enc _ F => by rw [OpenClaim.pre_eq_preRow]; exact lifted os started H enc F)
theorem plain (f : FuncId) (fn : Func) (hf : Tryz.pinned.checked.prog.funcNamed "oathbook/oathbooklaw3.DeskKeeps" = some f) (hfn : Tryz.pinned.checked.prog.funcs[f]? = some fn) :
  true = Tryz.pinned.checked.prog.looks [] ∧ ∀ (j : Nat) t, fn.params[j]? = some t → Tryz.pinned.checked.prog.wantsStandIn t = false := by
 obtain rfl : f = 6 := Option.some.inj ((show Tryz.prog.funcNamed "oathbook/oathbooklaw3.DeskKeeps" = some 6 by kernel_rfl).symm.trans hf) |>.symm
 obtain rfl : fn = Tryz.f6 := (Option.some.inj (Tryz.func6.symm.trans hfn)).symm
 refine ⟨by kernel_rfl, fun j t ht => ?_⟩
 rw [Tryz.params6] at ht
 have hm := Array.mem_of_getElem? ht
 have ha : ∀ t ∈ #[22, 65, 9, 65], Tryz.prog.wantsStandIn t = false := by
  intro t ht
  simp only [List.mem_toArray, List.mem_cons, List.not_mem_nil, or_false] at ht
  rcases ht with rfl | rfl | rfl | rfl <;> kernel_rfl
 exact ha t hm
theorem proved : Rows.DeskKeepsCardSaid :=
 Claim7.holds_tied_plain_at .later [] _ _ _ _ said (fun _ h => by cases h) (by kernel_rfl) (fun _ h => by cases h) deskKeeps_row_tie rfl ⟨rfl, rfl⟩ (by kernel_rfl) rfl plain (by kernel_rfl)
#print axioms proved
end Go.Proofs.YtaebeemnipafbaaGreatDoor.deskKeeps
