/-
  Proved here: the contract of the reference's block of 64 bytes. Condition: the lists have their lengths.
-/
import Derived.Test.YtkbleigmfcleaaaDoorRefNum
import Derived.Test.YtkbleigmfcleaaaDoorRefTurn
import Derived.Test.YtkbleigmfcleaaaDoorRefRounds
import Derived.Test.YtkbleigmfcleaaaDoorRefPlainB
import Derived.Test.YtkbleigmfcleaaaDoorChain
import Derived.Deep.DeepCutAuto
import Derived.Deep.RegionWith
set_option maxRecDepth 20000
set_option linter.unusedSimpArgs false
set_option linter.unusedVariables false
namespace Go.Proofs.YtkbleigmfcleaaaDoor
open Go.RowKit

theorem cell_of_range1 {W : World} {g off : Nat} {i : Int} {k : Nat} {xs : List Value} {v : Value} (h : W.rangeAt g (off + i.toNat * 1) ((xs.drop (i.toNat * 1)).take 1)) (hk : i.toNat = k) (hv : xs[k]? = some v) : W.cell? ⟨g, off + i.toNat * 1, none⟩ = some v := by
  have := h 0 v (by rw [List.getElem?_take, if_pos (by omega), List.getElem?_drop, hk]; simpa using hv)
  simpa using this

set_option maxHeartbeats 2000000 in
set_option maxRecDepth 100000 in
theorem rblock_any (s : S8) (b : List UInt8) (tb : List Value) (htb : Hid (∀ t, t < 64 → tb[t]? = some (iW (tbl t)))) (A B C : Option Addr) (ca cb cc : Nat) (w : World) (hA : SlR w A 8 ca 1 s.ints) (hB : SlR w B 64 cb 1 tb) (hC : SlR w C 64 cc 1 (bytesL b)) :
    Calls Tryd.prog 64 #[.slice A 8 ca, .slice B 64 cb, .slice C 64 cc] w fun e w' => ∃ D c, e = .returned (.slice D 8 c) ∧ St w w' [.row D 8 c 3 1 (blockS s b).ints] := by
  have hst := St.refl w
  have hl := hC.1
  rw [length_bytesL, Nat.mul_one] at hl
  have Hl := Lib.hid hl
  clear hl
  have hcap := hC.2.1
  go_enter Tryd.func64, Tryd.ntmps64
  go_wp2_with (first
    | (refine L_makeS (d := some 21) (n := 64) rfl rfl rfl (by rfl) (by rfl) Tryd.underlying44 el_int rfl (by omega) (by first | decide | (simp only [maxLen]; omega)) ?_; (try clear hnew); intro g21 W21 hnew; replace hst := hst.trans hnew; simp only [List.cons_append, List.nil_append] at hst)
    | fail)
  have hst : St w W21 [.row g21 64 64 3 1 (wRow b 0)] := by rw [wRow_start]; exact hst
  go_loopg [8] 64 (fun gk s8 wr => ∃ t : Nat, Hid (t + gk = 64) ∧ s8 = .int .i64 (t : Int) ∧ St w wr [.row g21 64 64 3 1 (wRow b t)])
  case atStart => exact ⟨0, Lib.hid rfl, rfl, hst⟩
  case round =>
    clear hst
    obtain ⟨t, HT, rfl, hst⟩ := hrel
    have ht := HT.out
    by_cases h16 : t < 16
    · clear ht
      have HS := Lib.hid (wRow_set b t (by omega) (word b t) (by rw [sched, if_pos h16]))
      have HN := Lib.hid (natE_word b t (by rw [Hl.out]; omega))
      have HX := Lib.hid (show ((bytesL b).drop (4 * t * 1)).take ((4 * t + 4 - 4 * t) * 1) = bytesL ((b.drop (4 * t)).take 4) by rw [bytesL_cut, show 4 * t + 4 - 4 * t = 4 by omega])
      go_wp2_with (first
        | (go_at_call 78; refine (rnum_any ((b.drop (4 * t)).take 4) A37 4 c37 _ (by rw [← HX.out]; simpa using hs37) (by decide) (by decide)).mono ?_; rintro e W38 ⟨rfl, hnew⟩; rw [HN.out]; replace hst := hst.keep hnew; clear hnew)
        | (first | (refine L_cutO (d := some 37) rfl rfl hst rfl (by rfl) Tryd.underlying49 el_uint8 0 rfl (by first | rfl | omega) (4*t) (4*t+4) _ (Or.inr ⟨_, _, rfl, by first | exact ev_tmp rfl | exact ev_int rfl (by omega) | (rw [ev_tmp rfl]; congr 1; omega)⟩) (Or.inr ⟨_, _, rfl, by first | exact ev_tmp rfl | exact ev_int rfl (by omega) | (rw [ev_tmp rfl]; congr 1; omega)⟩) (Or.inl ⟨rfl, rfl⟩) (by omega) (by omega) (by omega) (by omega) ?_; clear hst; intro A37 c37 hst; simp only [List.set_cons_zero, List.set_cons_succ] at hst) | (refine L_cutS (d := some 37) rfl rfl rfl (by rfl) Tryd.underlying49 el_uint8 (by decide) (by first | exact hst.old (by decide) hC | assumption | exact hst.old (by decide) (by assumption) | exact hst.sl 0 rfl) (4*t) (4*t+4) _ (Or.inr ⟨_, _, rfl, by first | exact ev_tmp rfl | exact ev_int rfl (by omega) | (rw [ev_tmp rfl]; congr 1; omega)⟩) (Or.inr ⟨_, _, rfl, by first | exact ev_tmp rfl | exact ev_int rfl (by omega) | (rw [ev_tmp rfl]; congr 1; omega)⟩) (Or.inl ⟨rfl, rfl⟩) (by omega) (by omega) (by omega) (by omega) ?_; intro A37 c37 hs37))
        | (first | (refine L_idxO (d := some 41) rfl rfl hst rfl (by rfl) (by rfl) Tryd.underlying44 el_int 0 rfl (by first | rfl | omega) (by omega) (by omega) ?_; intro o41 p41 ha41; (first | subst ha41 | (obtain ⟨h1, h2⟩ := some_addr ha41; subst h1; subst h2; clear ha41) | skip)))
        | (refine wpl_at (.store 3 (.tmp 41) (.tmp 39)) rfl ?_; first | (refine L_store1 rfl rfl hst rfl (by rfl) (ev_tmp rfl) rfl el_int 0 rfl (by first | exact of_decide_eq_true rfl | omega | (simp; done) | (simp; omega)) ?_; clear hst; intro WS14 hst; simp only [List.set_cons_zero, List.set_cons_succ] at hst) | (refine L_storeR rfl rfl hst rfl (by rfl) (ev_tmp rfl) rfl el_int 0 rfl (by first | omega | (simp; done) | (simp; omega)) ?_; clear hst; intro WS14 hst; simp only [List.set_cons_zero, List.set_cons_succ] at hst) | (refine L_storeR (i := 0) rfl rfl hst rfl (by rfl) (ev_tmp rfl) rfl el_int 0 rfl (by first | omega | (simp; done) | (simp; omega)) ?_; clear hst; intro WS14 hst; simp only [List.set_cons_zero, List.set_cons_succ] at hst))
        | fail)
      go_roundg (gk - 1)
      case measure => have ht := HT.out; omega
      case rel =>
        have ht := HT.out
        refine ⟨t + 1, Lib.hid (by omega), by go_num, ?_⟩
        rw [← HS.out]
        simpa using hst
    · by_cases hlt : t < 64
      · clear ht
        have hnx := wRow_set b t hlt (nextW (sched b t)) (by rw [sched, if_neg h16])
        have hls := length_sched b t
        unfold nextW sig0 sig1 at hnx
        rw [hls] at hnx
        have HS := Lib.hid hnx
        have h15 := wRow_at b t (t - 15) (by omega)
        have h2 := wRow_at b t (t - 2) (by omega)
        have h7 := wRow_at b t (t - 7) (by omega)
        have h0 := wRow_at b t (t - 16) (by omega)
        have H15 := Lib.hid h15
        have H2 := Lib.hid h2
        have H7 := Lib.hid h7
        have H0 := Lib.hid h0
        clear hnx hls h15 h2 h7 h0
        generalize (sched b t).getD (t - 15) zW = x at *
        generalize (sched b t).getD (t - 2) zW = y at *
        generalize (sched b t).getD (t - 7) zW = w7 at *
        generalize (sched b t).getD (t - 16) zW = w0 at *
        have hxor := iw_xor
        have hs3 : ∀ x : Wd, (x.n : Int) / 8 = ((x.shr 3).n : Int) := fun x => iw_shr x 3
        have hs10 : ∀ x : Wd, (x.n : Int) / 1024 = ((x.shr 10).n : Int) := fun x => iw_shr x 10
        go_wp2_with (first
          | (refine L_load1 (d := some 46) rfl rfl rfl (by rfl) Tryd.underlying3 rfl (cell_of_range1 hr45 (k := t - 15) (by omega) H15.out) ?_)
          | (refine L_load1 (d := some 51) rfl rfl rfl (by rfl) Tryd.underlying3 rfl (cell_of_range1 hr50 (k := t - 2) (by omega) H2.out) ?_)
          | (go_at_call_of 79 (Value.int .i64 7); refine (rturn_any x 7 (by decide) (by decide) _).mono ?_; rintro e W38 ⟨rfl, hnew⟩; replace hst := hst.keep hnew; clear hnew)
          | (go_at_call_of 79 (Value.int .i64 18); refine (rturn_any x 18 (by decide) (by decide) _).mono ?_; rintro e W38 ⟨rfl, hnew⟩; replace hst := hst.keep hnew; clear hnew)
          | (go_at_call_of 79 (Value.int .i64 17); refine (rturn_any y 17 (by decide) (by decide) _).mono ?_; rintro e W38 ⟨rfl, hnew⟩; replace hst := hst.keep hnew; clear hnew)
          | (go_at_call_of 79 (Value.int .i64 19); refine (rturn_any y 19 (by decide) (by decide) _).mono ?_; rintro e W38 ⟨rfl, hnew⟩; replace hst := hst.keep hnew; clear hnew)
          | (refine L_idxS (d := some 45) rfl rfl rfl (by rfl) (by rfl) Tryd.underlying44 el_int (by first | assumption | exact hst.sl 0 rfl | exact hst.old (by decide) (by assumption)) (by omega) (by omega) ?_; intro o45 p45 ha45 hr45; (first | subst ha45 | (obtain ⟨h1, h2⟩ := some_addr ha45; subst h1; subst h2; clear ha45) | skip))
          | (refine L_load1 (d := some 46) rfl rfl rfl (by rfl) Tryd.underlying3 rfl (by first | assumption | exact cell_of (hst.get 0 rfl) rfl) ?_)
          | (refine L_idxS (d := some 50) rfl rfl rfl (by rfl) (by rfl) Tryd.underlying44 el_int (by first | assumption | exact hst.sl 0 rfl | exact hst.old (by decide) (by assumption)) (by omega) (by omega) ?_; intro o50 p50 ha50 hr50; (first | subst ha50 | (obtain ⟨h1, h2⟩ := some_addr ha50; subst h1; subst h2; clear ha50) | skip))
          | (refine L_load1 (d := some 51) rfl rfl rfl (by rfl) Tryd.underlying3 rfl (by first | assumption | exact cell_of (hst.get 0 rfl) rfl) ?_)
          | fail)
        clear hxor hs3 hs10 hr45 hr50
        generalize ((y.rot 17).xor (y.rot 19)).xor (y.shr 10) = s1 at *
        generalize ((x.rot 7).xor (x.rot 18)).xor (x.shr 3) = s0 at *
        have b1 := s1.h
        have b2 := s0.h
        have b3 := w7.h
        have b4 := w0.h
        have hsum := iw_sum4 s1 w7 s0 w0
        refine wp_region_idx [(0, 0), (1, 0), (2, 0), (3, 0), (4, 0), (5, 0), (6, 0), (7, 0), (8, 0), (9, 0), (10, 0), (11, 0), (12, 2), (13, 2), (14, 2), (15, 2), (16, 2), (17, 2), (18, 2), (19, 1)] (by kernel_rfl) (by kernel_rfl) ?_
        replace hst := hst.drew
        refine idx_q rfl rfl ?_; go_wp2_with fail
        refine idx_q rfl rfl ?_; go_wp2_with fail
        refine idx_q rfl rfl ?_; go_wp2_with fail
        refine idx_q rfl rfl ?_; go_wp2_with fail
        refine idx_q rfl rfl ?_; go_wp2_with fail
        refine idx_q rfl rfl ?_; go_wp2_with fail
        refine idx_q rfl rfl ?_; go_wp2_with (first | (refine L_idxS (d := some 74) rfl rfl rfl (by rfl) (by rfl) Tryd.underlying44 el_int (by first | assumption | exact hst.sl 0 rfl | exact hst.old (by decide) (by assumption)) (by omega) (by omega) ?_; intro o74 p74 ha74 hr74; (first | subst ha74 | (obtain ⟨h1, h2⟩ := some_addr ha74; subst h1; subst h2; clear ha74) | skip)) | fail)
        refine idx_q rfl rfl ?_; go_wp2_with (first | (refine L_load1 (d := some 75) rfl rfl rfl (by rfl) Tryd.underlying3 rfl (cell_of_range1 hr74 (k := t - 7) (by omega) H7.out) ?_) | (refine L_load1 (d := some 75) rfl rfl rfl (by rfl) Tryd.underlying3 rfl (by first | assumption | exact cell_of (hst.get 0 rfl) rfl) ?_) | fail)
        refine idx_q rfl rfl ?_; go_wp2_with fail
        refine idx_q rfl rfl ?_; go_wp2_with fail
        refine idx_q rfl rfl ?_; go_wp2_with fail
        refine idx_q rfl rfl ?_; go_wp2_with fail
        refine idx_g rfl ?_; go_wp2_with fail; refine ⟨by first | exact Below.refl _ _ | exact hnew.below, ?_⟩
        refine idx_g rfl ?_; go_wp2_with fail; refine ⟨by first | exact Below.refl _ _ | exact hnew.below, ?_⟩
        refine idx_g rfl ?_; go_wp2_with (first | (refine L_idxS (d := some 82) rfl rfl rfl (by rfl) (by rfl) Tryd.underlying44 el_int (by first | assumption | exact hst.sl 0 rfl | exact hst.old (by decide) (by assumption)) (by omega) (by omega) ?_; intro o82 p82 ha82 hr82; (first | subst ha82 | (obtain ⟨h1, h2⟩ := some_addr ha82; subst h1; subst h2; clear ha82) | skip)) | fail); refine ⟨by first | exact Below.refl _ _ | exact hnew.below, ?_⟩
        refine idx_g rfl ?_; go_wp2_with (first | (refine L_load1 (d := some 83) rfl rfl rfl (by rfl) Tryd.underlying3 rfl (cell_of_range1 hr82 (k := t - 16) (by omega) H0.out) ?_) | (refine L_load1 (d := some 83) rfl rfl rfl (by rfl) Tryd.underlying3 rfl (by first | assumption | exact cell_of (hst.get 0 rfl) rfl) ?_) | fail); refine ⟨by first | exact Below.refl _ _ | exact hnew.below, ?_⟩
        refine idx_g rfl ?_; go_wp2_with fail; refine ⟨by first | exact Below.refl _ _ | exact hnew.below, ?_⟩
        refine idx_g rfl ?_; go_wp2_with fail; refine ⟨by first | exact Below.refl _ _ | exact hnew.below, ?_⟩
        refine idx_g rfl ?_; go_wp2_with (first | (first | (refine L_idxO (d := some 86) rfl rfl hst rfl (by rfl) (by rfl) Tryd.underlying44 el_int 0 rfl (by first | rfl | omega) (by omega) (by omega) ?_; intro o86 p86 ha86; (first | subst ha86 | (obtain ⟨h1, h2⟩ := some_addr ha86; subst h1; subst h2; clear ha86) | skip))) | fail); refine ⟨by first | exact Below.refl _ _ | exact hnew.below, ?_⟩
        refine idx_e rfl ?_; go_wp2_with (first | (refine wpl_at (.store 3 (.tmp 86) (.tmp 85)) rfl ?_; first | (refine L_store1 rfl rfl hst rfl (by rfl) (ev_tmp rfl) rfl el_int 0 rfl (by first | exact of_decide_eq_true rfl | omega | (simp; done) | (simp; omega)) ?_; clear hst; intro WS19 hst; simp only [List.set_cons_zero, List.set_cons_succ] at hst) | (refine L_storeR rfl rfl hst rfl (by rfl) (ev_tmp rfl) rfl el_int 0 rfl (by first | omega | (simp; done) | (simp; omega)) ?_; clear hst; intro WS19 hst; simp only [List.set_cons_zero, List.set_cons_succ] at hst) | (refine L_storeR (i := 0) rfl rfl hst rfl (by rfl) (ev_tmp rfl) rfl el_int 0 rfl (by first | omega | (simp; done) | (simp; omega)) ?_; clear hst; intro WS19 hst; simp only [List.set_cons_zero, List.set_cons_succ] at hst)) | fail)
        refine idx_nil ?_
        clear hsum b1 b2 b3 b4
        go_wp2_with (first
          | fail)
        go_roundg (gk - 1)
        case measure => have ht := HT.out; omega
        case rel =>
          have ht := HT.out
          refine ⟨t + 1, Lib.hid (by omega), by go_num, ?_⟩
          rw [← HS.out]
          simpa using hst
      · obtain rfl : t = 64 := by omega
        clear ht HT h16 hlt
        go_wp2_with (first
          | (refine L_buildS (d := some 87) rfl rfl rfl [] (bs_0 ) rfl Tryd.underlying44 el_int rfl (by first | (simp [Value.cells]; done) | (simp [Value.cells, Dig.size]; done)) (by decide) (by decide) ?_; (try clear hnew); intro g87 W87 hnew; replace hst := hst.trans hnew; simp only [List.cons_append, List.nil_append] at hst; simp only [List.flatMap_cons, List.flatMap_nil, List.append_nil, Value.cells, List.toList_toArray] at hst)
          | (refine L_appendO (d := some 89) rfl rfl hst rfl (by rfl) (by rfl) Tryd.underlying44 el_int rfl (by decide) (by decide) 0 rfl (by first | rfl | omega) (by first | exact hst.old (by decide) hA | exact hst.sl 0 rfl | exact hst.sl 1 rfl | exact hst.sl 2 rfl | assumption | exact hst.old (by decide) (by assumption)) (by first | exact oneCell_bytes | (simp [Value.oneCell']; done) | exact s.ints_one) (by omega) ?_; clear hst; intro A89 c89 W89 hst; simp only [List.set_cons_zero, List.set_cons_succ, List.nil_append, Nat.zero_add] at hst)
          | (refine L_appendO (d := some 89) rfl rfl hst rfl (by rfl) (by rfl) Tryd.underlying44 el_int rfl (by decide) (by decide) 1 rfl (by first | rfl | omega) (by first | exact hst.old (by decide) hA | exact hst.sl 0 rfl | exact hst.sl 1 rfl | exact hst.sl 2 rfl | assumption | exact hst.old (by decide) (by assumption)) (by first | exact oneCell_bytes | (simp [Value.oneCell']; done) | exact s.ints_one) (by omega) ?_; clear hst; intro A89 c89 W89 hst; simp only [List.set_cons_zero, List.set_cons_succ, List.nil_append, Nat.zero_add] at hst)
          | (refine L_appendO (d := some 89) rfl rfl hst rfl (by rfl) (by rfl) Tryd.underlying44 el_int rfl (by decide) (by decide) 2 rfl (by first | rfl | omega) (by first | exact hst.old (by decide) hA | exact hst.sl 0 rfl | exact hst.sl 1 rfl | exact hst.sl 2 rfl | assumption | exact hst.old (by decide) (by assumption)) (by first | exact oneCell_bytes | (simp [Value.oneCell']; done) | exact s.ints_one) (by omega) ?_; clear hst; intro A89 c89 W89 hst; simp only [List.set_cons_zero, List.set_cons_succ, List.nil_append, Nat.zero_add] at hst)
          | (refine L_appendF (d := some 89) rfl rfl rfl (by rfl) (by rfl) Tryd.underlying44 el_int rfl (by decide) (by assumption) (by first | assumption | exact hst.old (by decide) hA | exact hst.sl 0 rfl | exact hst.sl 1 rfl | exact hst.sl 2 rfl | assumption | exact hst.old (by decide) (by assumption)) (by omega) (by omega) (by omega) ?_; (try clear hnew); intro A89 c89 W89 hnew; replace hst := hst.trans hnew; simp only [List.cons_append, List.nil_append] at hst)
          | fail)
        obtain ⟨R, ws, wl, HR0, HRS, HWS, HRE, hst2⟩ : ∃ (R : Nat → S8) (ws : Nat → Wd) (wl : List Value), R 0 = s ∧ Hid (∀ t, R (t + 1) = rnd (R t) (tbl t) (ws t)) ∧ Hid (∀ t, t < 64 → wl[t]? = some (iW (ws t))) ∧ Hid ((R 64).add s = blockS s b) ∧ St w W89 [.row A89 8 c89 3 1 s.ints, .row g21 64 64 3 1 wl] :=
          ⟨rounds b s, fun t => (sched b 64).getD t zW, wRow b 64, rfl, Lib.hid fun _ => rfl, Lib.hid fun t ht => wRow_at b 64 t ht, Lib.hid rfl, hst⟩
        clear hst
        have hst : St w W89 [.row A89 8 c89 3 1 (R 0).ints, .row g21 64 64 3 1 wl] := by rw [HR0]; exact hst2
        clear hst2 HR0
        clear hnew
        go_loopg [14, 15, 16, 17, 18, 19] 64 (fun gk s14 s15 s16 s17 s18 s19 wr => ∃ t : Nat, Hid (t + gk = 64) ∧ s14 = .int .i64 (t : Int) ∧ St w wr [.row A89 8 c89 3 1 (R t).ints, .row g21 64 64 3 1 wl])
        case atStart => exact ⟨0, Lib.hid rfl, rfl, hst⟩
        case round =>
          clear hst
          obtain ⟨t, HT, rfl, hst⟩ := hrel
          have ht := HT.out
          by_cases hlt : t < 64
          · clear ht
            have HR := Lib.hid (HRS.out t)
            unfold rnd at HR
            have HK := Lib.hid (htb.out t hlt)
            have HW := Lib.hid (HWS.out t hlt)
            generalize R t = v at *
            generalize tbl t = kt at *
            generalize ws t = wt at *
            have hxor := iw_xor
            have hand := iw_and
            have hnot := iw_not v.e
            go_wp2_with (first
              | (refine L_load1 (d := some 96) rfl rfl rfl (by rfl) Tryd.underlying3 rfl (cell_of_range1 hr95 (k := 0) (by decide) (show v.ints[0]? = some (iW v.a) from rfl)) ?_)
              | (refine L_load1 (d := some 99) rfl rfl rfl (by rfl) Tryd.underlying3 rfl (cell_of_range1 hr98 (k := 4) (by decide) (show v.ints[4]? = some (iW v.e) from rfl)) ?_)
              | (refine L_idxS (d := some 95) rfl rfl rfl (by rfl) (by rfl) Tryd.underlying44 el_int (by first | assumption | exact hst.sl 0 rfl | exact hst.sl 1 rfl | exact hst.old (by decide) (by assumption)) (by omega) (by omega) ?_; intro o95 p95 ha95 hr95; (first | subst ha95 | (obtain ⟨h1, h2⟩ := some_addr ha95; subst h1; subst h2; clear ha95) | skip))
              | (refine L_load1 (d := some 96) rfl rfl rfl (by rfl) Tryd.underlying3 rfl (by first | assumption | exact cell_of (hst.get 0 rfl) rfl | exact cell_of (hst.get 1 rfl) rfl) ?_)
              | (refine L_idxS (d := some 98) rfl rfl rfl (by rfl) (by rfl) Tryd.underlying44 el_int (by first | assumption | exact hst.sl 0 rfl | exact hst.sl 1 rfl | exact hst.old (by decide) (by assumption)) (by omega) (by omega) ?_; intro o98 p98 ha98 hr98; (first | subst ha98 | (obtain ⟨h1, h2⟩ := some_addr ha98; subst h1; subst h2; clear ha98) | skip))
              | (refine L_load1 (d := some 99) rfl rfl rfl (by rfl) Tryd.underlying3 rfl (by first | assumption | exact cell_of (hst.get 0 rfl) rfl | exact cell_of (hst.get 1 rfl) rfl) ?_)
              | fail)
            obtain ⟨pn, hpn, hpb, hpm⟩ := sum5 v.h (((v.e.rot 6).xor (v.e.rot 11)).xor (v.e.rot 25)) ((v.e.and v.f).xor (v.e.not.and v.g)) kt wt
            obtain ⟨qn, hqn, hqb, hqm⟩ := sum2 (((v.a.rot 2).xor (v.a.rot 13)).xor (v.a.rot 22)) (((v.a.and v.b).xor (v.a.and v.c)).xor (v.b.and v.c))
            have hm4 := Lib.hid (iw_sumN v.d _ pn hpb hpm)
            have hm0 := Lib.hid (iw_sumM _ _ pn qn hpb hqb hpm hqm)
            clear hpm hqm hr95
            have b1 := v.h.h
            have b2 := (((v.e.rot 6).xor (v.e.rot 11)).xor (v.e.rot 25)).h
            have b3 := ((v.e.and v.f).xor (v.e.not.and v.g)).h
            have b4 := kt.h
            have b5 := wt.h
            refine wp_region_idx [(0, 0), (1, 0), (2, 0), (3, 0), (5, 0), (8, 0), (12, 0), (13, 0), (14, 0), (15, 0), (16, 0), (17, 0), (18, 0), (19, 0), (20, 0), (21, 0), (22, 0), (23, 0), (25, 0), (26, 0), (27, 0), (28, 0), (30, 0), (31, 0), (32, 0), (33, 0), (4, 2), (6, 2), (7, 0), (9, 2), (10, 2), (11, 2), (24, 2), (29, 2), (34, 2), (35, 2)] (by kernel_rfl) (by kernel_rfl) ?_
            replace hst := hst.drew
            refine idx_q rfl rfl ?_; go_wp2_with fail
            refine idx_q rfl rfl ?_; go_wp2_with (first | (refine L_idxS (d := some 101) rfl rfl rfl (by rfl) (by rfl) Tryd.underlying44 el_int (by first | exact hst.old (by decide) hB | assumption | exact hst.sl 0 rfl | exact hst.sl 1 rfl | exact hst.old (by decide) (by assumption)) (by omega) (by omega) ?_; intro o101 p101 ha101 hr101; (first | subst ha101 | (obtain ⟨h1, h2⟩ := some_addr ha101; subst h1; subst h2; clear ha101) | skip)) | fail)
            refine idx_q rfl rfl ?_; go_wp2_with (first | (refine L_load1 (d := some 102) rfl rfl rfl (by rfl) Tryd.underlying3 rfl (cell_of_range1 hr101 (k := 7) (by first | decide | omega) (show v.ints[7]? = some (iW v.h) from rfl)) ?_) | (refine L_load1 (d := some 102) rfl rfl rfl (by rfl) Tryd.underlying3 rfl (by first | assumption | exact cell_of (hst.get 0 rfl) rfl | exact cell_of (hst.get 1 rfl) rfl) ?_) | fail)
            refine idx_q rfl rfl ?_; go_wp2_with fail
            refine idx_q rfl rfl ?_; go_wp2_with fail
            refine idx_q rfl rfl ?_; go_wp2_with fail
            refine idx_q rfl rfl ?_; go_wp2_with fail
            refine idx_q rfl rfl ?_; go_wp2_with fail
            refine idx_q rfl rfl ?_; go_wp2_with (first | (refine L_idxS (d := some 114) rfl rfl rfl (by rfl) (by rfl) Tryd.underlying44 el_int (by first | exact hst.old (by decide) hB | assumption | exact hst.sl 0 rfl | exact hst.sl 1 rfl | exact hst.old (by decide) (by assumption)) (by omega) (by omega) ?_; intro o114 p114 ha114 hr114; (first | subst ha114 | (obtain ⟨h1, h2⟩ := some_addr ha114; subst h1; subst h2; clear ha114) | skip)) | fail)
            refine idx_q rfl rfl ?_; go_wp2_with (first | (refine L_load1 (d := some 115) rfl rfl rfl (by rfl) Tryd.underlying3 rfl (cell_of_range1 hr114 (k := 5) (by first | decide | omega) (show v.ints[5]? = some (iW v.f) from rfl)) ?_) | (refine L_load1 (d := some 115) rfl rfl rfl (by rfl) Tryd.underlying3 rfl (by first | assumption | exact cell_of (hst.get 0 rfl) rfl | exact cell_of (hst.get 1 rfl) rfl) ?_) | fail)
            refine idx_q rfl rfl ?_; go_wp2_with fail
            refine idx_q rfl rfl ?_; go_wp2_with fail
            refine idx_q rfl rfl ?_; go_wp2_with fail
            refine idx_q rfl rfl ?_; go_wp2_with fail
            refine idx_q rfl rfl ?_; go_wp2_with (first | (refine L_idxS (d := some 120) rfl rfl rfl (by rfl) (by rfl) Tryd.underlying44 el_int (by first | exact hst.old (by decide) hB | assumption | exact hst.sl 0 rfl | exact hst.sl 1 rfl | exact hst.old (by decide) (by assumption)) (by omega) (by omega) ?_; intro o120 p120 ha120 hr120; (first | subst ha120 | (obtain ⟨h1, h2⟩ := some_addr ha120; subst h1; subst h2; clear ha120) | skip)) | fail)
            refine idx_q rfl rfl ?_; go_wp2_with (first | (refine L_load1 (d := some 121) rfl rfl rfl (by rfl) Tryd.underlying3 rfl (cell_of_range1 hr120 (k := 6) (by first | decide | omega) (show v.ints[6]? = some (iW v.g) from rfl)) ?_) | (refine L_load1 (d := some 121) rfl rfl rfl (by rfl) Tryd.underlying3 rfl (by first | assumption | exact cell_of (hst.get 0 rfl) rfl | exact cell_of (hst.get 1 rfl) rfl) ?_) | fail)
            refine idx_q rfl rfl ?_; go_wp2_with fail
            refine idx_q rfl rfl ?_; go_wp2_with fail
            refine idx_q rfl rfl ?_; go_wp2_with fail
            refine idx_q rfl rfl ?_; go_wp2_with fail
            refine idx_q rfl rfl ?_; go_wp2_with (first | (refine L_idxS (d := some 127) rfl rfl rfl (by rfl) (by rfl) Tryd.underlying44 el_int (by first | exact hst.old (by decide) hB | assumption | exact hst.sl 0 rfl | exact hst.sl 1 rfl | exact hst.old (by decide) (by assumption)) (by omega) (by omega) ?_; intro o127 p127 ha127 hr127; (first | subst ha127 | (obtain ⟨h1, h2⟩ := some_addr ha127; subst h1; subst h2; clear ha127) | skip)) | fail)
            refine idx_q rfl rfl ?_; go_wp2_with (first | (refine L_load1 (d := some 128) rfl rfl rfl (by rfl) Tryd.underlying3 rfl (cell_of_range1 hr127 (k := t) (by first | decide | omega) HK.out) ?_) | (refine L_load1 (d := some 128) rfl rfl rfl (by rfl) Tryd.underlying3 rfl (by first | assumption | exact cell_of (hst.get 0 rfl) rfl | exact cell_of (hst.get 1 rfl) rfl) ?_) | fail)
            refine idx_q rfl rfl ?_; go_wp2_with fail
            refine idx_q rfl rfl ?_; go_wp2_with fail
            refine idx_q rfl rfl ?_; go_wp2_with (first | (refine L_idxS (d := some 132) rfl rfl rfl (by rfl) (by rfl) Tryd.underlying44 el_int (by first | exact hst.old (by decide) hB | assumption | exact hst.sl 0 rfl | exact hst.sl 1 rfl | exact hst.old (by decide) (by assumption)) (by omega) (by omega) ?_; intro o132 p132 ha132 hr132; (first | subst ha132 | (obtain ⟨h1, h2⟩ := some_addr ha132; subst h1; subst h2; clear ha132) | skip)) | fail)
            refine idx_q rfl rfl ?_; go_wp2_with (first | (refine L_load1 (d := some 133) rfl rfl rfl (by rfl) Tryd.underlying3 rfl (cell_of_range1 hr132 (k := t) (by first | decide | omega) HW.out) ?_) | (refine L_load1 (d := some 133) rfl rfl rfl (by rfl) Tryd.underlying3 rfl (by first | assumption | exact cell_of (hst.get 0 rfl) rfl | exact cell_of (hst.get 1 rfl) rfl) ?_) | fail)
            refine idx_g rfl ?_; go_wp2_with (first | (refine L_load1 (d := some 102) rfl rfl rfl (by rfl) Tryd.underlying3 rfl (cell_of_range1 hr101 (k := 7) (by first | decide | omega) (show v.ints[7]? = some (iW v.h) from rfl)) ?_) | (refine L_load1 (d := some 115) rfl rfl rfl (by rfl) Tryd.underlying3 rfl (cell_of_range1 hr114 (k := 5) (by first | decide | omega) (show v.ints[5]? = some (iW v.f) from rfl)) ?_) | (refine L_load1 (d := some 121) rfl rfl rfl (by rfl) Tryd.underlying3 rfl (cell_of_range1 hr120 (k := 6) (by first | decide | omega) (show v.ints[6]? = some (iW v.g) from rfl)) ?_) | (refine L_load1 (d := some 128) rfl rfl rfl (by rfl) Tryd.underlying3 rfl (cell_of_range1 hr127 (k := t) (by first | decide | omega) HK.out) ?_) | (refine L_load1 (d := some 133) rfl rfl rfl (by rfl) Tryd.underlying3 rfl (cell_of_range1 hr132 (k := t) (by first | decide | omega) HW.out) ?_) | (go_at_call_of 79 (Value.int .i64 6); (try clear hnew); refine (rturn_any v.e 6 (by decide) (by decide) _).mono ?_; rintro e W38 ⟨rfl, hnew⟩; replace hst := hst.keep hnew) | (go_at_call_of 79 (Value.int .i64 11); (try clear hnew); refine (rturn_any v.e 11 (by decide) (by decide) _).mono ?_; rintro e W38 ⟨rfl, hnew⟩; replace hst := hst.keep hnew) | (go_at_call_of 79 (Value.int .i64 25); (try clear hnew); refine (rturn_any v.e 25 (by decide) (by decide) _).mono ?_; rintro e W38 ⟨rfl, hnew⟩; replace hst := hst.keep hnew) | fail); refine ⟨by first | exact Below.refl _ _ | exact hnew.below, ?_⟩
            refine idx_g rfl ?_; go_wp2_with (first | (refine L_load1 (d := some 102) rfl rfl rfl (by rfl) Tryd.underlying3 rfl (cell_of_range1 hr101 (k := 7) (by first | decide | omega) (show v.ints[7]? = some (iW v.h) from rfl)) ?_) | (refine L_load1 (d := some 115) rfl rfl rfl (by rfl) Tryd.underlying3 rfl (cell_of_range1 hr114 (k := 5) (by first | decide | omega) (show v.ints[5]? = some (iW v.f) from rfl)) ?_) | (refine L_load1 (d := some 121) rfl rfl rfl (by rfl) Tryd.underlying3 rfl (cell_of_range1 hr120 (k := 6) (by first | decide | omega) (show v.ints[6]? = some (iW v.g) from rfl)) ?_) | (refine L_load1 (d := some 128) rfl rfl rfl (by rfl) Tryd.underlying3 rfl (cell_of_range1 hr127 (k := t) (by first | decide | omega) HK.out) ?_) | (refine L_load1 (d := some 133) rfl rfl rfl (by rfl) Tryd.underlying3 rfl (cell_of_range1 hr132 (k := t) (by first | decide | omega) HW.out) ?_) | (go_at_call_of 79 (Value.int .i64 6); (try clear hnew); refine (rturn_any v.e 6 (by decide) (by decide) _).mono ?_; rintro e W38 ⟨rfl, hnew⟩; replace hst := hst.keep hnew) | (go_at_call_of 79 (Value.int .i64 11); (try clear hnew); refine (rturn_any v.e 11 (by decide) (by decide) _).mono ?_; rintro e W38 ⟨rfl, hnew⟩; replace hst := hst.keep hnew) | (go_at_call_of 79 (Value.int .i64 25); (try clear hnew); refine (rturn_any v.e 25 (by decide) (by decide) _).mono ?_; rintro e W38 ⟨rfl, hnew⟩; replace hst := hst.keep hnew) | fail); refine ⟨by first | exact Below.refl _ _ | exact hnew.below, ?_⟩
            refine idx_q rfl rfl ?_; go_wp2_with fail
            refine idx_g rfl ?_; go_wp2_with (first | (refine L_load1 (d := some 102) rfl rfl rfl (by rfl) Tryd.underlying3 rfl (cell_of_range1 hr101 (k := 7) (by first | decide | omega) (show v.ints[7]? = some (iW v.h) from rfl)) ?_) | (refine L_load1 (d := some 115) rfl rfl rfl (by rfl) Tryd.underlying3 rfl (cell_of_range1 hr114 (k := 5) (by first | decide | omega) (show v.ints[5]? = some (iW v.f) from rfl)) ?_) | (refine L_load1 (d := some 121) rfl rfl rfl (by rfl) Tryd.underlying3 rfl (cell_of_range1 hr120 (k := 6) (by first | decide | omega) (show v.ints[6]? = some (iW v.g) from rfl)) ?_) | (refine L_load1 (d := some 128) rfl rfl rfl (by rfl) Tryd.underlying3 rfl (cell_of_range1 hr127 (k := t) (by first | decide | omega) HK.out) ?_) | (refine L_load1 (d := some 133) rfl rfl rfl (by rfl) Tryd.underlying3 rfl (cell_of_range1 hr132 (k := t) (by first | decide | omega) HW.out) ?_) | (go_at_call_of 79 (Value.int .i64 6); (try clear hnew); refine (rturn_any v.e 6 (by decide) (by decide) _).mono ?_; rintro e W38 ⟨rfl, hnew⟩; replace hst := hst.keep hnew) | (go_at_call_of 79 (Value.int .i64 11); (try clear hnew); refine (rturn_any v.e 11 (by decide) (by decide) _).mono ?_; rintro e W38 ⟨rfl, hnew⟩; replace hst := hst.keep hnew) | (go_at_call_of 79 (Value.int .i64 25); (try clear hnew); refine (rturn_any v.e 25 (by decide) (by decide) _).mono ?_; rintro e W38 ⟨rfl, hnew⟩; replace hst := hst.keep hnew) | fail); refine ⟨by first | exact Below.refl _ _ | exact hnew.below, ?_⟩
            refine idx_g rfl ?_; go_wp2_with fail; refine ⟨by first | exact Below.refl _ _ | exact hnew.below, ?_⟩
            refine idx_g rfl ?_; go_wp2_with fail; refine ⟨by first | exact Below.refl _ _ | exact hnew.below, ?_⟩
            refine idx_g rfl ?_; go_wp2_with fail; refine ⟨by first | exact Below.refl _ _ | exact hnew.below, ?_⟩
            refine idx_g rfl ?_; go_wp2_with fail; refine ⟨by first | exact Below.refl _ _ | exact hnew.below, ?_⟩
            refine idx_g rfl ?_; go_wp2_with fail; refine ⟨by first | exact Below.refl _ _ | exact hnew.below, ?_⟩
            refine idx_g rfl ?_; go_wp2_with fail; refine ⟨by first | exact Below.refl _ _ | exact hnew.below, ?_⟩
            refine idx_nil ?_
            go_wp2_with fail
            clear hpn hnew b1 b2 b3 b4 b5 hnot hr98 hr101 hr114 hr120 hr127 hr132
            have b6 := (((v.a.rot 2).xor (v.a.rot 13)).xor (v.a.rot 22)).h
            have b7 := (((v.a.and v.b).xor (v.a.and v.c)).xor (v.b.and v.c)).h
            refine wp_region_idx [(0, 0), (2, 0), (5, 0), (8, 0), (9, 0), (10, 0), (11, 0), (12, 0), (13, 0), (14, 0), (15, 0), (16, 0), (17, 0), (18, 0), (19, 0), (20, 0), (21, 0), (22, 0), (23, 0), (24, 0), (25, 0), (26, 0), (1, 2), (3, 2), (4, 0), (6, 2), (7, 2), (27, 2), (28, 2)] (by kernel_rfl) (by kernel_rfl) ?_
            replace hst := hst.drew
            refine idx_q rfl rfl ?_; go_wp2_with fail
            refine idx_q rfl rfl ?_; go_wp2_with fail
            refine idx_q rfl rfl ?_; go_wp2_with fail
            refine idx_q rfl rfl ?_; go_wp2_with fail
            refine idx_q rfl rfl ?_; go_wp2_with fail
            refine idx_q rfl rfl ?_; go_wp2_with (first | (refine L_idxS (d := some 145) rfl rfl rfl (by rfl) (by rfl) Tryd.underlying44 el_int (by first | assumption | exact hst.sl 0 rfl | exact hst.sl 1 rfl | exact hst.old (by decide) (by assumption)) (by omega) (by omega) ?_; intro o145 p145 ha145 hr145; (first | subst ha145 | (obtain ⟨h1, h2⟩ := some_addr ha145; subst h1; subst h2; clear ha145) | skip)) | fail)
            refine idx_q rfl rfl ?_; go_wp2_with (first | (refine L_load1 (d := some 146) rfl rfl rfl (by rfl) Tryd.underlying3 rfl (cell_of_range1 hr145 (k := 1) (by first | decide | omega) (show v.ints[1]? = some (iW v.b) from rfl)) ?_) | (refine L_load1 (d := some 146) rfl rfl rfl (by rfl) Tryd.underlying3 rfl (by first | assumption | exact cell_of (hst.get 0 rfl) rfl | exact cell_of (hst.get 1 rfl) rfl) ?_) | fail)
            refine idx_q rfl rfl ?_; go_wp2_with fail
            refine idx_q rfl rfl ?_; go_wp2_with fail
            refine idx_q rfl rfl ?_; go_wp2_with fail
            refine idx_q rfl rfl ?_; go_wp2_with (first | (refine L_idxS (d := some 150) rfl rfl rfl (by rfl) (by rfl) Tryd.underlying44 el_int (by first | assumption | exact hst.sl 0 rfl | exact hst.sl 1 rfl | exact hst.old (by decide) (by assumption)) (by omega) (by omega) ?_; intro o150 p150 ha150 hr150; (first | subst ha150 | (obtain ⟨h1, h2⟩ := some_addr ha150; subst h1; subst h2; clear ha150) | skip)) | fail)
            refine idx_q rfl rfl ?_; go_wp2_with (first | (refine L_load1 (d := some 151) rfl rfl rfl (by rfl) Tryd.underlying3 rfl (cell_of_range1 hr150 (k := 2) (by first | decide | omega) (show v.ints[2]? = some (iW v.c) from rfl)) ?_) | (refine L_load1 (d := some 151) rfl rfl rfl (by rfl) Tryd.underlying3 rfl (by first | assumption | exact cell_of (hst.get 0 rfl) rfl | exact cell_of (hst.get 1 rfl) rfl) ?_) | fail)
            refine idx_q rfl rfl ?_; go_wp2_with fail
            refine idx_q rfl rfl ?_; go_wp2_with fail
            refine idx_q rfl rfl ?_; go_wp2_with fail
            refine idx_q rfl rfl ?_; go_wp2_with (first | (refine L_idxS (d := some 155) rfl rfl rfl (by rfl) (by rfl) Tryd.underlying44 el_int (by first | assumption | exact hst.sl 0 rfl | exact hst.sl 1 rfl | exact hst.old (by decide) (by assumption)) (by omega) (by omega) ?_; intro o155 p155 ha155 hr155; (first | subst ha155 | (obtain ⟨h1, h2⟩ := some_addr ha155; subst h1; subst h2; clear ha155) | skip)) | fail)
            refine idx_q rfl rfl ?_; go_wp2_with (first | (refine L_load1 (d := some 156) rfl rfl rfl (by rfl) Tryd.underlying3 rfl (cell_of_range1 hr155 (k := 1) (by first | decide | omega) (show v.ints[1]? = some (iW v.b) from rfl)) ?_) | (refine L_load1 (d := some 156) rfl rfl rfl (by rfl) Tryd.underlying3 rfl (by first | assumption | exact cell_of (hst.get 0 rfl) rfl | exact cell_of (hst.get 1 rfl) rfl) ?_) | fail)
            refine idx_q rfl rfl ?_; go_wp2_with fail
            refine idx_q rfl rfl ?_; go_wp2_with (first | (refine L_idxS (d := some 158) rfl rfl rfl (by rfl) (by rfl) Tryd.underlying44 el_int (by first | assumption | exact hst.sl 0 rfl | exact hst.sl 1 rfl | exact hst.old (by decide) (by assumption)) (by omega) (by omega) ?_; intro o158 p158 ha158 hr158; (first | subst ha158 | (obtain ⟨h1, h2⟩ := some_addr ha158; subst h1; subst h2; clear ha158) | skip)) | fail)
            refine idx_q rfl rfl ?_; go_wp2_with (first | (refine L_load1 (d := some 159) rfl rfl rfl (by rfl) Tryd.underlying3 rfl (cell_of_range1 hr158 (k := 2) (by first | decide | omega) (show v.ints[2]? = some (iW v.c) from rfl)) ?_) | (refine L_load1 (d := some 159) rfl rfl rfl (by rfl) Tryd.underlying3 rfl (by first | assumption | exact cell_of (hst.get 0 rfl) rfl | exact cell_of (hst.get 1 rfl) rfl) ?_) | fail)
            refine idx_q rfl rfl ?_; go_wp2_with fail
            refine idx_q rfl rfl ?_; go_wp2_with fail
            refine idx_g rfl ?_; go_wp2_with (first | (refine L_load1 (d := some 146) rfl rfl rfl (by rfl) Tryd.underlying3 rfl (cell_of_range1 hr145 (k := 1) (by first | decide | omega) (show v.ints[1]? = some (iW v.b) from rfl)) ?_) | (refine L_load1 (d := some 151) rfl rfl rfl (by rfl) Tryd.underlying3 rfl (cell_of_range1 hr150 (k := 2) (by first | decide | omega) (show v.ints[2]? = some (iW v.c) from rfl)) ?_) | (refine L_load1 (d := some 156) rfl rfl rfl (by rfl) Tryd.underlying3 rfl (cell_of_range1 hr155 (k := 1) (by first | decide | omega) (show v.ints[1]? = some (iW v.b) from rfl)) ?_) | (refine L_load1 (d := some 159) rfl rfl rfl (by rfl) Tryd.underlying3 rfl (cell_of_range1 hr158 (k := 2) (by first | decide | omega) (show v.ints[2]? = some (iW v.c) from rfl)) ?_) | (go_at_call_of 79 (Value.int .i64 2); (try clear hnew); refine (rturn_any v.a 2 (by decide) (by decide) _).mono ?_; rintro e W38 ⟨rfl, hnew⟩; replace hst := hst.keep hnew) | (go_at_call_of 79 (Value.int .i64 13); (try clear hnew); refine (rturn_any v.a 13 (by decide) (by decide) _).mono ?_; rintro e W38 ⟨rfl, hnew⟩; replace hst := hst.keep hnew) | (go_at_call_of 79 (Value.int .i64 22); (try clear hnew); refine (rturn_any v.a 22 (by decide) (by decide) _).mono ?_; rintro e W38 ⟨rfl, hnew⟩; replace hst := hst.keep hnew) | fail); refine ⟨by first | exact Below.refl _ _ | exact hnew.below, ?_⟩
            refine idx_g rfl ?_; go_wp2_with (first | (refine L_load1 (d := some 146) rfl rfl rfl (by rfl) Tryd.underlying3 rfl (cell_of_range1 hr145 (k := 1) (by first | decide | omega) (show v.ints[1]? = some (iW v.b) from rfl)) ?_) | (refine L_load1 (d := some 151) rfl rfl rfl (by rfl) Tryd.underlying3 rfl (cell_of_range1 hr150 (k := 2) (by first | decide | omega) (show v.ints[2]? = some (iW v.c) from rfl)) ?_) | (refine L_load1 (d := some 156) rfl rfl rfl (by rfl) Tryd.underlying3 rfl (cell_of_range1 hr155 (k := 1) (by first | decide | omega) (show v.ints[1]? = some (iW v.b) from rfl)) ?_) | (refine L_load1 (d := some 159) rfl rfl rfl (by rfl) Tryd.underlying3 rfl (cell_of_range1 hr158 (k := 2) (by first | decide | omega) (show v.ints[2]? = some (iW v.c) from rfl)) ?_) | (go_at_call_of 79 (Value.int .i64 2); (try clear hnew); refine (rturn_any v.a 2 (by decide) (by decide) _).mono ?_; rintro e W38 ⟨rfl, hnew⟩; replace hst := hst.keep hnew) | (go_at_call_of 79 (Value.int .i64 13); (try clear hnew); refine (rturn_any v.a 13 (by decide) (by decide) _).mono ?_; rintro e W38 ⟨rfl, hnew⟩; replace hst := hst.keep hnew) | (go_at_call_of 79 (Value.int .i64 22); (try clear hnew); refine (rturn_any v.a 22 (by decide) (by decide) _).mono ?_; rintro e W38 ⟨rfl, hnew⟩; replace hst := hst.keep hnew) | fail); refine ⟨by first | exact Below.refl _ _ | exact hnew.below, ?_⟩
            refine idx_q rfl rfl ?_; go_wp2_with fail
            refine idx_g rfl ?_; go_wp2_with (first | (refine L_load1 (d := some 146) rfl rfl rfl (by rfl) Tryd.underlying3 rfl (cell_of_range1 hr145 (k := 1) (by first | decide | omega) (show v.ints[1]? = some (iW v.b) from rfl)) ?_) | (refine L_load1 (d := some 151) rfl rfl rfl (by rfl) Tryd.underlying3 rfl (cell_of_range1 hr150 (k := 2) (by first | decide | omega) (show v.ints[2]? = some (iW v.c) from rfl)) ?_) | (refine L_load1 (d := some 156) rfl rfl rfl (by rfl) Tryd.underlying3 rfl (cell_of_range1 hr155 (k := 1) (by first | decide | omega) (show v.ints[1]? = some (iW v.b) from rfl)) ?_) | (refine L_load1 (d := some 159) rfl rfl rfl (by rfl) Tryd.underlying3 rfl (cell_of_range1 hr158 (k := 2) (by first | decide | omega) (show v.ints[2]? = some (iW v.c) from rfl)) ?_) | (go_at_call_of 79 (Value.int .i64 2); (try clear hnew); refine (rturn_any v.a 2 (by decide) (by decide) _).mono ?_; rintro e W38 ⟨rfl, hnew⟩; replace hst := hst.keep hnew) | (go_at_call_of 79 (Value.int .i64 13); (try clear hnew); refine (rturn_any v.a 13 (by decide) (by decide) _).mono ?_; rintro e W38 ⟨rfl, hnew⟩; replace hst := hst.keep hnew) | (go_at_call_of 79 (Value.int .i64 22); (try clear hnew); refine (rturn_any v.a 22 (by decide) (by decide) _).mono ?_; rintro e W38 ⟨rfl, hnew⟩; replace hst := hst.keep hnew) | fail); refine ⟨by first | exact Below.refl _ _ | exact hnew.below, ?_⟩
            refine idx_g rfl ?_; go_wp2_with fail; refine ⟨by first | exact Below.refl _ _ | exact hnew.below, ?_⟩
            refine idx_g rfl ?_; go_wp2_with fail; refine ⟨by first | exact Below.refl _ _ | exact hnew.below, ?_⟩
            refine idx_g rfl ?_; go_wp2_with fail; refine ⟨by first | exact Below.refl _ _ | exact hnew.below, ?_⟩
            refine idx_nil ?_
            go_wp2_with fail
            clear hqn hnew b6 b7 hxor hand hr145 hr150 hr155 hr158
            go_wp2_with (first
              | fail)
            have hst : St w W38 [.row (some ⟨o95, p95, none⟩) 8 c89 3 1 (shV v 7), .row (some ⟨o132, p132, none⟩) 64 64 3 1 wl] := hst
            obtain ⟨gko, rfl⟩ : ∃ x, x = gk := ⟨_, rfl⟩
            go_loopg [19] 7 (fun gk s19 wr => ∃ i : Nat, Hid (i = gk) ∧ i ≤ 7 ∧ s19 = .int .i64 (i : Int) ∧ St w wr [.row (some ⟨o95, p95, none⟩) 8 c89 3 1 (shV v i), .row (some ⟨o132, p132, none⟩) 64 64 3 1 wl])
            case atStart => exact ⟨7, Lib.hid rfl, by decide, rfl, hst⟩
            case round =>
              clear hst
              obtain ⟨i, HI, hi7, rfl, hst⟩ := hrel
              by_cases hi0 : 0 < i
              · obtain ⟨i, rfl⟩ : ∃ k, i = k + 1 := ⟨i - 1, by omega⟩
                have HA := Lib.hid (shV_at v i (by omega))
                have HS := Lib.hid (shV_set v i (by omega))
                generalize v.get i = x at HA HS
                go_wp2_with (first
                  | (refine L_load1 (d := some 173) rfl rfl rfl (by rfl) Tryd.underlying3 rfl (cell_of_range1 hr172 (k := i) (by omega) HA.out) ?_)
                  | (refine L_idxS (d := some 172) rfl rfl rfl (by rfl) (by rfl) Tryd.underlying44 el_int (by first | assumption | exact hst.sl 0 rfl | exact hst.old (by decide) (by assumption)) (by omega) (by omega) ?_; intro o172 p172 ha172 hr172; (first | subst ha172 | (obtain ⟨h1, h2⟩ := some_addr ha172; subst h1; subst h2; clear ha172) | skip))
                  | (refine L_load1 (d := some 173) rfl rfl rfl (by rfl) Tryd.underlying3 rfl (by first | assumption | exact cell_of (hst.get 0 rfl) rfl) ?_)
                  | (first | (refine L_idxO (d := some 174) rfl rfl hst rfl (by rfl) (by rfl) Tryd.underlying44 el_int 0 rfl (by first | rfl | omega) (by omega) (by omega) ?_; intro o174 p174 ha174; (first | subst ha174 | (obtain ⟨h1, h2⟩ := some_addr ha174; subst h1; subst h2; clear ha174) | skip)))
                  | (refine wpl_at (.store 3 (.tmp 174) (.tmp 173)) rfl ?_; first | (refine L_store1 rfl rfl hst rfl (by rfl) (ev_tmp rfl) rfl el_int 0 rfl (by first | exact of_decide_eq_true rfl | omega | (simp; done) | (simp; omega)) ?_; clear hst; intro WS8 hst; simp only [List.set_cons_zero, List.set_cons_succ] at hst) | (refine L_storeR rfl rfl hst rfl (by rfl) (ev_tmp rfl) rfl el_int 0 rfl (by first | omega | (simp; done) | (simp; omega)) ?_; clear hst; intro WS8 hst; simp only [List.set_cons_zero, List.set_cons_succ] at hst) | (refine L_storeR (i := 0) rfl rfl hst rfl (by rfl) (ev_tmp rfl) rfl el_int 0 rfl (by first | omega | (simp; done) | (simp; omega)) ?_; clear hst; intro WS8 hst; simp only [List.set_cons_zero, List.set_cons_succ] at hst))
                  | fail)
                go_roundg (gk - 1)
                case measure => have hi := HI.out; omega
                case rel =>
                  have hi := HI.out
                  refine ⟨i, Lib.hid (by omega), by omega, by go_num, ?_⟩
                  rw [← HS.out]
                  simpa using hst
              · obtain rfl : i = 0 := by omega
                have b8 := v.d.h
                have hm4 := hm4.out
                have hm0 := hm0.out
                go_wp2_with (first
                  | (refine L_load1 (d := some 178) rfl rfl rfl (by rfl) Tryd.underlying3 rfl (cell_of_range1 hr177 (k := 4) (by decide) (shV_4 v)) ?_)
                  | (refine L_idxS (d := some 177) rfl rfl rfl (by rfl) (by rfl) Tryd.underlying44 el_int (by first | assumption | exact hst.sl 0 rfl | exact hst.old (by decide) (by assumption)) (by omega) (by omega) ?_; intro o177 p177 ha177 hr177; (first | subst ha177 | (obtain ⟨h1, h2⟩ := some_addr ha177; subst h1; subst h2; clear ha177) | skip))
                  | (refine L_load1 (d := some 178) rfl rfl rfl (by rfl) Tryd.underlying3 rfl (by first | assumption | exact cell_of (hst.get 0 rfl) rfl) ?_)
                  | (first | (refine L_idxO (d := some 182) rfl rfl hst rfl (by rfl) (by rfl) Tryd.underlying44 el_int 0 rfl (by first | rfl | omega) (by omega) (by omega) ?_; intro o182 p182 ha182; (first | subst ha182 | (obtain ⟨h1, h2⟩ := some_addr ha182; subst h1; subst h2; clear ha182) | skip)))
                  | (refine wpl_at (.store 3 (.tmp 182) (.tmp 181)) rfl ?_; first | (refine L_store1 rfl rfl hst rfl (by rfl) (ev_tmp rfl) rfl el_int 0 rfl (by first | exact of_decide_eq_true rfl | omega | (simp; done) | (simp; omega)) ?_; clear hst; intro WS8 hst; simp only [List.set_cons_zero, List.set_cons_succ] at hst) | (refine L_storeR rfl rfl hst rfl (by rfl) (ev_tmp rfl) rfl el_int 0 rfl (by first | omega | (simp; done) | (simp; omega)) ?_; clear hst; intro WS8 hst; simp only [List.set_cons_zero, List.set_cons_succ] at hst) | (refine L_storeR (i := 0) rfl rfl hst rfl (by rfl) (ev_tmp rfl) rfl el_int 0 rfl (by first | omega | (simp; done) | (simp; omega)) ?_; clear hst; intro WS8 hst; simp only [List.set_cons_zero, List.set_cons_succ] at hst))
                  | (first | (refine L_idxO (d := some 188) rfl rfl hst rfl (by rfl) (by rfl) Tryd.underlying44 el_int 0 rfl (by first | rfl | omega) (by omega) (by omega) ?_; intro o188 p188 ha188; (first | subst ha188 | (obtain ⟨h1, h2⟩ := some_addr ha188; subst h1; subst h2; clear ha188) | skip)))
                  | (refine wpl_at (.store 3 (.tmp 188) (.tmp 187)) rfl ?_; first | (refine L_store1 rfl rfl hst rfl (by rfl) (ev_tmp rfl) rfl el_int 0 rfl (by first | exact of_decide_eq_true rfl | omega | (simp; done) | (simp; omega)) ?_; clear hst; intro WS6 hst; simp only [List.set_cons_zero, List.set_cons_succ] at hst) | (refine L_storeR rfl rfl hst rfl (by rfl) (ev_tmp rfl) rfl el_int 0 rfl (by first | omega | (simp; done) | (simp; omega)) ?_; clear hst; intro WS6 hst; simp only [List.set_cons_zero, List.set_cons_succ] at hst) | (refine L_storeR (i := 0) rfl rfl hst rfl (by rfl) (ev_tmp rfl) rfl el_int 0 rfl (by first | omega | (simp; done) | (simp; omega)) ?_; clear hst; intro WS6 hst; simp only [List.set_cons_zero, List.set_cons_succ] at hst))
                  | fail)
                go_roundg (gko - 1)
                case measure => have ht := HT.out; omega
                case rel =>
                  have ht := HT.out
                  refine ⟨t + 1, Lib.hid (by omega), by go_num, ?_⟩
                  rw [HR.out]
                  exact hst
          · obtain rfl : t = 64 := by omega
            clear ht HT hlt
            go_wp2_with (first
              | fail)
            generalize R 64 = v at *
            have hst : St w wr [.row A89 8 c89 3 1 (addV v s 0), .row g21 64 64 3 1 wl] := hst
            go_loopg [20] 8 (fun gk s20 wr => ∃ i : Nat, Hid (i + gk = 8) ∧ s20 = .int .i64 (i : Int) ∧ St w wr [.row A89 8 c89 3 1 (addV v s i), .row g21 64 64 3 1 wl])
            case atStart => exact ⟨0, Lib.hid rfl, rfl, hst⟩
            case round =>
              clear hst
              obtain ⟨i, HI, rfl, hst⟩ := hrel
              have hi := HI.out
              by_cases hi8 : i < 8
              · clear hi
                have HA := Lib.hid (addV_at v s i hi8)
                have HB := Lib.hid (s.ints_at i hi8)
                have HS := Lib.hid (addV_set v s i hi8)
                generalize v.get i = x at *
                generalize s.get i = y at *
                have b1 := x.h
                have b2 := y.h
                have hm := iw_sum2 x y
                go_wp2_with (first
                  | fail)
                refine wp_region_idx [(0, 0), (1, 0), (2, 0), (3, 0), (4, 0), (5, 0), (6, 0), (7, 2), (8, 2), (9, 2), (10, 2), (11, 2), (12, 2), (13, 1)] (by kernel_rfl) (by kernel_rfl) ?_
                replace hst := hst.drew
                refine idx_q rfl rfl ?_; go_wp2_with fail
                refine idx_q rfl rfl ?_; go_wp2_with fail
                refine idx_q rfl rfl ?_; go_wp2_with fail
                refine idx_q rfl rfl ?_; go_wp2_with fail
                refine idx_q rfl rfl ?_; go_wp2_with (first | (refine L_idxS (d := some 197) rfl rfl rfl (by rfl) (by rfl) Tryd.underlying44 el_int (by first | exact hst.old (by decide) hA | assumption | exact hst.sl 0 rfl | exact hst.old (by decide) (by assumption)) (by omega) (by omega) ?_; intro o197 p197 ha197 hr197; (first | subst ha197 | (obtain ⟨h1, h2⟩ := some_addr ha197; subst h1; subst h2; clear ha197) | skip)) | fail)
                refine idx_q rfl rfl ?_; go_wp2_with (first | (refine L_load1 (d := some 198) rfl rfl rfl (by rfl) Tryd.underlying3 rfl (cell_of_range1 hr197 (k := i) (by omega) HA.out) ?_) | (refine L_load1 (d := some 198) rfl rfl rfl (by rfl) Tryd.underlying3 rfl (by first | assumption | exact cell_of (hst.get 0 rfl) rfl) ?_) | fail)
                refine idx_q rfl rfl ?_; go_wp2_with fail
                refine idx_g rfl ?_; go_wp2_with fail; refine ⟨by first | exact Below.refl _ _ | exact hnew.below, ?_⟩
                refine idx_g rfl ?_; go_wp2_with (first | (refine L_idxS (d := some 201) rfl rfl rfl (by rfl) (by rfl) Tryd.underlying44 el_int (by first | exact hst.old (by decide) hA | assumption | exact hst.sl 0 rfl | exact hst.old (by decide) (by assumption)) (by omega) (by omega) ?_; intro o201 p201 ha201 hr201; (first | subst ha201 | (obtain ⟨h1, h2⟩ := some_addr ha201; subst h1; subst h2; clear ha201) | skip)) | fail); refine ⟨by first | exact Below.refl _ _ | exact hnew.below, ?_⟩
                refine idx_g rfl ?_; go_wp2_with (first | (refine L_load1 (d := some 202) rfl rfl rfl (by rfl) Tryd.underlying3 rfl (cell_of_range1 hr201 (k := i) (by omega) HB.out) ?_) | (refine L_load1 (d := some 202) rfl rfl rfl (by rfl) Tryd.underlying3 rfl (by first | assumption | exact cell_of (hst.get 0 rfl) rfl) ?_) | fail); refine ⟨by first | exact Below.refl _ _ | exact hnew.below, ?_⟩
                refine idx_g rfl ?_; go_wp2_with fail; refine ⟨by first | exact Below.refl _ _ | exact hnew.below, ?_⟩
                refine idx_g rfl ?_; go_wp2_with fail; refine ⟨by first | exact Below.refl _ _ | exact hnew.below, ?_⟩
                refine idx_g rfl ?_; go_wp2_with (first | (first | (refine L_idxO (d := some 205) rfl rfl hst rfl (by rfl) (by rfl) Tryd.underlying44 el_int 0 rfl (by first | rfl | omega) (by omega) (by omega) ?_; intro o205 p205 ha205; (first | subst ha205 | (obtain ⟨h1, h2⟩ := some_addr ha205; subst h1; subst h2; clear ha205) | skip))) | fail); refine ⟨by first | exact Below.refl _ _ | exact hnew.below, ?_⟩
                refine idx_e rfl ?_; go_wp2_with (first | (refine wpl_at (.store 3 (.tmp 205) (.tmp 204)) rfl ?_; first | (refine L_store1 rfl rfl hst rfl (by rfl) (ev_tmp rfl) rfl el_int 0 rfl (by first | exact of_decide_eq_true rfl | omega | (simp; done) | (simp; omega)) ?_; clear hst; intro WS13 hst; simp only [List.set_cons_zero, List.set_cons_succ] at hst) | (refine L_storeR rfl rfl hst rfl (by rfl) (ev_tmp rfl) rfl el_int 0 rfl (by first | omega | (simp; done) | (simp; omega)) ?_; clear hst; intro WS13 hst; simp only [List.set_cons_zero, List.set_cons_succ] at hst) | (refine L_storeR (i := 0) rfl rfl hst rfl (by rfl) (ev_tmp rfl) rfl el_int 0 rfl (by first | omega | (simp; done) | (simp; omega)) ?_; clear hst; intro WS13 hst; simp only [List.set_cons_zero, List.set_cons_succ] at hst)) | fail)
                refine idx_nil ?_
                go_wp2_with (first
                  | fail)
                go_roundg (gk - 1)
                case measure => have hi := HI.out; omega
                case rel =>
                  have hi := HI.out
                  refine ⟨i + 1, Lib.hid (by omega), by go_num, ?_⟩
                  rw [← HS.out]
                  simpa using hst
              · obtain rfl : i = 8 := by omega
                clear hi HI
                go_wp2_with (first
                  | fail)
                rw [addV_end, HRE.out] at hst
                go_ret
                exact ⟨_, _, rfl, hst.pick [0] (by decide)⟩
end Go.Proofs.YtkbleigmfcleaaaDoor
