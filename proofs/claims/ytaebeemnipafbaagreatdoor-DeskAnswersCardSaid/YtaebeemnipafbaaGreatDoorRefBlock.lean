/-
  Proved here: the contract of the reference's block of 64 bytes. Condition: the lists have their lengths.
-/
import Derived.Test.YtaebeemnipafbaaGreatDoorRefNum
import Derived.Test.YtaebeemnipafbaaGreatDoorRefTurn
import Derived.Test.YtaebeemnipafbaaGreatDoorRefRounds
import Derived.Test.YtaebeemnipafbaaGreatDoorRefPlainB
import Derived.Test.YtaebeemnipafbaaGreatDoorChain
import Derived.Deep.DeepCutAuto
import Derived.Deep.RegionWith
import Derived.Test.YtaebeemnipafbaaGreatDoorSq
set_option linter.unusedSimpArgs false
set_option linter.unusedVariables false
set_option maxRecDepth 100000
set_option maxHeartbeats 200000000
namespace Go.Proofs.YtaebeemnipafbaaGreatDoor
open Go.RowKit
theorem Hx {W : World} {g off : Nat} {i : Int} {k : Nat} {xs : List Value} {v : Value} (h : W.rangeAt g (off + i.toNat * 1) ((xs.drop (i.toNat * 1)).take 1)) (hk : i.toNat = k) (hv : xs[k]? = some v) : W.cell? ⟨g, off + i.toNat * 1, none⟩ = some v := by
 have := h 0 v (by rw [List.getElem?_take, if_pos (by omega), List.getElem?_drop, hk]; simpa using hv)
 simpa using this
theorem rblock_any (s : S8) (b : List UInt8) (tb : List Value) (htb : Hid (∀ t, t < 64 → tb[t]? = some (iW (tbl t)))) (A B C : Option Addr) (ca cb cc : Nat) (w : World) (hA : SlR w A 8 ca 1 s.ints) (hB : SlR w B 64 cb 1 tb) (hC : SlR w C 64 cc 1 (GK b)) :
  Calls Tryz.prog 117 #[.slice A 8 ca, .slice B 64 cb, .slice C 64 cc] w fun e w' => ∃ D c, e = .returned (.slice D 8 c) ∧ St w w' [.row D 8 c 3 1 (Nc s b).ints] := by
 have Ga := St.refl w
 have hl := hC.1
 rw [G7, Nat.mul_one] at hl
 have Hl := Gg hl
 clear hl
 have hcap := hC.2.1
 go_enter Tryz.func117, Tryz.ntmps117
 go_wp2_with (refine L_makeS (d := some 21) (n := 64) rfl rfl rfl (by rfl) (by rfl) uz183 Jo rfl (by omega) (by (decide)) ?_; (try clear Gb); intro g21 W21 Gb; replace Ga := Ga.tr1 Gb)
 have Ga : St w W21 [.row g21 64 64 3 1 (wRow b 0)] := by rw [wRow_start]; exact Ga
 go_loopg [8] 64 (fun gk s8 wr => ∃ t : Nat, Hid (t + gk = 64) ∧ s8 = .int .i64 (t : Int) ∧ St w wr [.row g21 64 64 3 1 (wRow b t)])
 case atStart => exact ⟨0, Lib.hid rfl, rfl, Ga⟩
 case round =>
  clear Ga
  obtain ⟨t, HT, rfl, Ga⟩ := hrel
  have ht := HT.out
  by_cases h16 : t < 16
  ·clear ht
   have HS := Gg (wRow_set b t (by omega) (word b t) (by rw [JD, if_pos h16]))
   have HN := Gg (natE_word b t (by rw [Hl.out]; omega))
   have HX := Gg (show ((GK b).drop (4 * t * 1)).take ((4 * t + 4 - 4 * t) * 1) = GK ((b.drop (4 * t)).take 4) by rw [Nu, show 4 * t + 4 - 4 * t = 4 by omega])
   go_wp2_with (first | (go_at_call 77; refine (rnum_any ((b.drop (4 * t)).take 4) A37 4 c37 _ (by rw [← HX.out]; simpa using hs37) (by decide) (by decide)).mono ?_; rintro e W38 ⟨rfl, Gb⟩; rw [HN.out]; replace Ga := Ga.keep Gb; clear Gb) | (refine L_cutS (d := some 37) rfl rfl rfl (by rfl) uz22 GF (by decide) (Ga.old (by decide) hC) (4*t) (4*t+4) _ (Or.inr ⟨_, _, rfl, by (exact Gw rfl)⟩) (Or.inr ⟨_, _, rfl, by (exact Gw rfl)⟩) (Or.inl ⟨rfl, rfl⟩) (by omega) (by omega) (by omega) (by omega) ?_; intro A37 c37 hs37) | (refine MZ (d := some 41) rfl rfl Ga rfl (by rfl) (by rfl) uz183 Jo 0 rfl (by rfl) (by omega) (by omega) ?_; intro o41 p41 ha41; ((subst ha41))) | (refine GB (.store 3 (.tmp 41) (.tmp 39)) rfl ?_; (refine Mv rfl rfl Ga rfl (by rfl) (Gw rfl) rfl Jo 0 rfl (by (omega)) ?_; clear Ga; intro WS14 Ga; simp only [Ge, Gf] at Ga)))
   go_roundg (gk - 1)
   case measure => have ht := HT.out; omega
   case rel =>
    have ht := HT.out
    refine ⟨t + 1, Gg (by omega), by go_num, ?_⟩
    rw [← HS.out]
    simpa using Ga
  ·by_cases hlt : t < 64
   ·clear ht
    have hnx := wRow_set b t hlt (nextW (JD b t)) (by rw [JD, if_neg h16])
    have hls := Ks b t
    unfold nextW sig0 sig1 at hnx
    rw [hls] at hnx
    have HS := Gg hnx
    have h15 := wRow_at b t (t - 15) (by omega)
    have h2 := wRow_at b t (t - 2) (by omega)
    have h7 := wRow_at b t (t - 7) (by omega)
    have h0 := wRow_at b t (t - 16) (by omega)
    have H15 := Gg h15
    have H2 := Gg h2
    have H7 := Gg h7
    have H0 := Gg h0
    clear hnx hls h15 h2 h7 h0
    generalize (JD b t).getD (t - 15) zW = x at *
    generalize (JD b t).getD (t - 2) zW = y at *
    generalize (JD b t).getD (t - 7) zW = w7 at *
    generalize (JD b t).getD (t - 16) zW = w0 at *
    have hxor := iw_xor
    have hs3 : ∀ x : Wd, (x.n : Int) / 8 = ((x.shr 3).n : Int) := fun x => iw_shr x 3
    have hs10 : ∀ x : Wd, (x.n : Int) / 1024 = ((x.shr 10).n : Int) := fun x => iw_shr x 10
    go_wp2_with (first | (refine Gj 46 rfl (by rfl) uz3 rfl (Hx hr45 (k := t - 15) (by omega) H15.out) ?_) | (refine Gj 51 rfl (by rfl) uz3 rfl (Hx hr50 (k := t - 2) (by omega) H2.out) ?_) | (go_at_call_of 139 (Value.int .i64 7); refine (Mf x 7 (by decide) (by decide) _).mono ?_; rintro e W38 ⟨rfl, Gb⟩; replace Ga := Ga.keep Gb; clear Gb) | (go_at_call_of 139 (Value.int .i64 18); refine (Mf x 18 (by decide) (by decide) _).mono ?_; rintro e W38 ⟨rfl, Gb⟩; replace Ga := Ga.keep Gb; clear Gb) | (go_at_call_of 139 (Value.int .i64 17); refine (Mf y 17 (by decide) (by decide) _).mono ?_; rintro e W38 ⟨rfl, Gb⟩; replace Ga := Ga.keep Gb; clear Gb) | (go_at_call_of 139 (Value.int .i64 19); refine (Mf y 19 (by decide) (by decide) _).mono ?_; rintro e W38 ⟨rfl, Gb⟩; replace Ga := Ga.keep Gb; clear Gb) | (refine Gp 45 rfl (by rfl) (by rfl) uz183 Jo (Ga.sl 0 rfl) (by omega) (by omega) ?_; intro o45 p45 ha45 hr45; ((subst ha45))) | (refine Gp 50 rfl (by rfl) (by rfl) uz183 Jo (Ga.sl 0 rfl) (by omega) (by omega) ?_; intro o50 p50 ha50 hr50; ((obtain ⟨h1, h2⟩ := Jb ha50; subst h1; subst h2; clear ha50))))
    clear hxor hs3 hs10 hr45 hr50
    generalize ((y.rot 17).xor (y.rot 19)).xor (y.shr 10) = s1 at *
    generalize ((x.rot 7).xor (x.rot 18)).xor (x.shr 3) = s0 at *
    have b1 := s1.h
    have b2 := s0.h
    have b3 := w7.h
    have b4 := w0.h
    have hsum := iw_sum4 s1 w7 s0 w0
    refine GO [(0, 0), (1, 0), (2, 0), (3, 0), (4, 0), (5, 0), (6, 0), (7, 0), (8, 0), (9, 0), (10, 0), (11, 0), (12, 2), (13, 2), (14, 2), (15, 2), (16, 2), (17, 2), (18, 2), (19, 1)] (by kernel_rfl) (by kernel_rfl) ?_
    replace Ga := Ga.drew
    refine GG rfl rfl ?_; go_wp2_with fail
    refine GG rfl rfl ?_; go_wp2_with fail
    refine GG rfl rfl ?_; go_wp2_with fail
    refine GG rfl rfl ?_; go_wp2_with fail
    refine GG rfl rfl ?_; go_wp2_with fail
    refine GG rfl rfl ?_; go_wp2_with fail
    refine GG rfl rfl ?_; go_wp2_with (refine Gp 74 rfl (by rfl) (by rfl) uz183 Jo (Ga.sl 0 rfl) (by omega) (by omega) ?_; intro o74 p74 ha74 hr74; ((obtain ⟨h1, h2⟩ := Jb ha74; subst h1; subst h2; clear ha74)))
    refine GG rfl rfl ?_; go_wp2_with (refine Gj 75 rfl (by rfl) uz3 rfl (Hx hr74 (k := t - 7) (by omega) H7.out) ?_)
    refine GG rfl rfl ?_; go_wp2_with fail
    refine GG rfl rfl ?_; go_wp2_with fail
    refine GG rfl rfl ?_; go_wp2_with fail
    refine GG rfl rfl ?_; go_wp2_with fail
    refine GA rfl ?_; go_wp2_with fail; refine Gh ?_
    refine GA rfl ?_; go_wp2_with fail; refine Gh ?_
    refine GA rfl ?_; go_wp2_with (refine Gp 82 rfl (by rfl) (by rfl) uz183 Jo (Ga.sl 0 rfl) (by omega) (by omega) ?_; intro o82 p82 ha82 hr82; ((obtain ⟨h1, h2⟩ := Jb ha82; subst h1; subst h2; clear ha82))); refine Gh ?_
    refine GA rfl ?_; go_wp2_with (refine Gj 83 rfl (by rfl) uz3 rfl (Hx hr82 (k := t - 16) (by omega) H0.out) ?_); refine Gh ?_
    refine GA rfl ?_; go_wp2_with fail; refine Gh ?_
    refine GA rfl ?_; go_wp2_with fail; refine Gh ?_
    refine GA rfl ?_; go_wp2_with ((refine MZ (d := some 86) rfl rfl Ga rfl (by rfl) (by rfl) uz183 Jo 0 rfl (by rfl) (by omega) (by omega) ?_; intro o86 p86 ha86; ((obtain ⟨h1, h2⟩ := Jb ha86; subst h1; subst h2; clear ha86)))); refine Gh ?_
    refine J6 rfl ?_; go_wp2_with (refine GB (.store 3 (.tmp 86) (.tmp 85)) rfl ?_; (refine Mv rfl rfl Ga rfl (by rfl) (Gw rfl) rfl Jo 0 rfl (by (omega)) ?_; clear Ga; intro WS19 Ga; simp only [Ge, Gf] at Ga))
    refine G5 ?_
    clear hsum b1 b2 b3 b4
    go_wp2_with (fail)
    go_roundg (gk - 1)
    case measure => have ht := HT.out; omega
    case rel =>
     have ht := HT.out
     refine ⟨t + 1, Gg (by omega), by go_num, ?_⟩
     rw [← HS.out]
     simpa using Ga
   ·obtain rfl : t = 64 := by omega
    clear ht HT h16 hlt
    go_wp2_with (first | (refine Gq 87 rfl [] (bs_0 ) rfl uz183 Jo rfl (by (simp [Value.cells]; done)) (by decide) (by decide) ?_; (try clear Gb); intro g87 W87 Gb; replace Ga := Ga.tr1 Gb; simp only [List.flatMap_cons, List.flatMap_nil, List.append_nil, Value.cells, List.toList_toArray] at Ga) | (refine GY (d := some 89) rfl rfl Ga rfl (by rfl) (by rfl) uz183 Jo rfl (by decide) (by decide) 0 rfl (by rfl) (Ga.old (by decide) hA) (s.ints_one) (by omega) ?_; clear Ga; intro A89 c89 W89 Ga; simp only [Ge, Gf, List.nil_append, Nat.zero_add] at Ga))
    obtain ⟨R, ws, wl, HR0, HRS, HWS, HRE, hst2⟩ : ∃ (R : Nat → S8) (ws : Nat → Wd) (wl : List Value), R 0 = s ∧ Hid (∀ t, R (t + 1) = rnd (R t) (tbl t) (ws t)) ∧ Hid (∀ t, t < 64 → wl[t]? = some (iW (ws t))) ∧ Hid ((R 64).add s = Nc s b) ∧ St w W89 [.row A89 8 c89 3 1 s.ints, .row g21 64 64 3 1 wl] :=
     ⟨rounds b s, fun t => (JD b 64).getD t zW, wRow b 64, rfl, Lib.hid fun _ => rfl, Lib.hid fun t ht => wRow_at b 64 t ht, Lib.hid rfl, Ga⟩
    clear Ga
    have Ga : St w W89 [.row A89 8 c89 3 1 (R 0).ints, .row g21 64 64 3 1 wl] := by rw [HR0]; exact hst2
    clear hst2 HR0
    clear Gb
    go_loopg [14, 15, 16, 17, 18, 19] 64 (fun gk s14 s15 s16 s17 s18 s19 wr => ∃ t : Nat, Hid (t + gk = 64) ∧ s14 = .int .i64 (t : Int) ∧ St w wr [.row A89 8 c89 3 1 (R t).ints, .row g21 64 64 3 1 wl])
    case atStart => exact ⟨0, Lib.hid rfl, rfl, Ga⟩
    case round =>
     clear Ga
     obtain ⟨t, HT, rfl, Ga⟩ := hrel
     have ht := HT.out
     by_cases hlt : t < 64
     ·clear ht
      have HR := Gg (HRS.out t)
      unfold rnd at HR
      have HK := Gg (htb.out t hlt)
      have HW := Gg (HWS.out t hlt)
      generalize R t = v at *
      generalize tbl t = kt at *
      generalize ws t = wt at *
      have hxor := iw_xor
      have hand := iw_and
      have hnot := iw_not v.e
      go_wp2_with (first | (refine Gj 96 rfl (by rfl) uz3 rfl (Hx hr95 (k := 0) (by decide) (show v.ints[0]? = some (iW v.a) from rfl)) ?_) | (refine Gj 99 rfl (by rfl) uz3 rfl (Hx hr98 (k := 4) (by decide) (show v.ints[4]? = some (iW v.e) from rfl)) ?_) | (refine Gp 95 rfl (by rfl) (by rfl) uz183 Jo (Ga.sl 0 rfl) (by omega) (by omega) ?_; intro o95 p95 ha95 hr95; ((subst ha95))) | (refine Gp 98 rfl (by rfl) (by rfl) uz183 Jo (Ga.sl 0 rfl) (by omega) (by omega) ?_; intro o98 p98 ha98 hr98; ((obtain ⟨h1, h2⟩ := Jb ha98; subst h1; subst h2; clear ha98))))
      obtain ⟨pn, hpn, hpb, hpm⟩ := sum5 v.h (((v.e.rot 6).xor (v.e.rot 11)).xor (v.e.rot 25)) ((v.e.and v.f).xor (v.e.not.and v.g)) kt wt
      obtain ⟨qn, hqn, hqb, hqm⟩ := sum2 (((v.a.rot 2).xor (v.a.rot 13)).xor (v.a.rot 22)) (((v.a.and v.b).xor (v.a.and v.c)).xor (v.b.and v.c))
      have hm4 := Gg (iw_sumN v.d _ pn hpb hpm)
      have hm0 := Gg (iw_sumM _ _ pn qn hpb hqb hpm hqm)
      clear hpm hqm hr95
      have b1 := v.h.h
      have b2 := (((v.e.rot 6).xor (v.e.rot 11)).xor (v.e.rot 25)).h
      have b3 := ((v.e.and v.f).xor (v.e.not.and v.g)).h
      have b4 := kt.h
      have b5 := wt.h
      refine GO [(0, 0), (1, 0), (2, 0), (3, 0), (5, 0), (8, 0), (12, 0), (13, 0), (14, 0), (15, 0), (16, 0), (17, 0), (18, 0), (19, 0), (20, 0), (21, 0), (22, 0), (23, 0), (25, 0), (26, 0), (27, 0), (28, 0), (30, 0), (31, 0), (32, 0), (33, 0), (4, 2), (6, 2), (7, 0), (9, 2), (10, 2), (11, 2), (24, 2), (29, 2), (34, 2), (35, 2)] (by kernel_rfl) (by kernel_rfl) ?_
      replace Ga := Ga.drew
      refine GG rfl rfl ?_; go_wp2_with fail
      refine GG rfl rfl ?_; go_wp2_with (refine Gp 101 rfl (by rfl) (by rfl) uz183 Jo (Ga.sl 0 rfl) (by omega) (by omega) ?_; intro o101 p101 ha101 hr101; ((obtain ⟨h1, h2⟩ := Jb ha101; subst h1; subst h2; clear ha101)))
      refine GG rfl rfl ?_; go_wp2_with (refine Gj 102 rfl (by rfl) uz3 rfl (Hx hr101 (k := 7) (by (decide)) (show v.ints[7]? = some (iW v.h) from rfl)) ?_)
      refine GG rfl rfl ?_; go_wp2_with fail
      refine GG rfl rfl ?_; go_wp2_with fail
      refine GG rfl rfl ?_; go_wp2_with fail
      refine GG rfl rfl ?_; go_wp2_with fail
      refine GG rfl rfl ?_; go_wp2_with fail
      refine GG rfl rfl ?_; go_wp2_with (refine Gp 114 rfl (by rfl) (by rfl) uz183 Jo (Ga.sl 0 rfl) (by omega) (by omega) ?_; intro o114 p114 ha114 hr114; ((obtain ⟨h1, h2⟩ := Jb ha114; subst h1; subst h2; clear ha114)))
      refine GG rfl rfl ?_; go_wp2_with (refine Gj 115 rfl (by rfl) uz3 rfl (Hx hr114 (k := 5) (by (decide)) (show v.ints[5]? = some (iW v.f) from rfl)) ?_)
      refine GG rfl rfl ?_; go_wp2_with fail
      refine GG rfl rfl ?_; go_wp2_with fail
      refine GG rfl rfl ?_; go_wp2_with fail
      refine GG rfl rfl ?_; go_wp2_with fail
      refine GG rfl rfl ?_; go_wp2_with (refine Gp 120 rfl (by rfl) (by rfl) uz183 Jo (Ga.sl 0 rfl) (by omega) (by omega) ?_; intro o120 p120 ha120 hr120; ((obtain ⟨h1, h2⟩ := Jb ha120; subst h1; subst h2; clear ha120)))
      refine GG rfl rfl ?_; go_wp2_with (refine Gj 121 rfl (by rfl) uz3 rfl (Hx hr120 (k := 6) (by (decide)) (show v.ints[6]? = some (iW v.g) from rfl)) ?_)
      refine GG rfl rfl ?_; go_wp2_with fail
      refine GG rfl rfl ?_; go_wp2_with fail
      refine GG rfl rfl ?_; go_wp2_with fail
      refine GG rfl rfl ?_; go_wp2_with fail
      refine GG rfl rfl ?_; go_wp2_with (refine Gp 127 rfl (by rfl) (by rfl) uz183 Jo (Ga.old (by decide) hB) (by omega) (by omega) ?_; intro o127 p127 ha127 hr127; ((subst ha127)))
      refine GG rfl rfl ?_; go_wp2_with (refine Gj 128 rfl (by rfl) uz3 rfl (Hx hr127 (k := t) (by (omega)) HK.out) ?_)
      refine GG rfl rfl ?_; go_wp2_with fail
      refine GG rfl rfl ?_; go_wp2_with fail
      refine GG rfl rfl ?_; go_wp2_with (refine Gp 132 rfl (by rfl) (by rfl) uz183 Jo (Ga.sl 1 rfl) (by omega) (by omega) ?_; intro o132 p132 ha132 hr132; ((subst ha132)))
      refine GG rfl rfl ?_; go_wp2_with (refine Gj 133 rfl (by rfl) uz3 rfl (Hx hr132 (k := t) (by (omega)) HW.out) ?_)
      refine GA rfl ?_; go_wp2_with ((go_at_call_of 139 (Value.int .i64 6); (try clear Gb); refine (Mf v.e 6 (by decide) (by decide) _).mono ?_; rintro e W38 ⟨rfl, Gb⟩; replace Ga := Ga.keep Gb)); refine Gi Gb ?_
      refine GA rfl ?_; go_wp2_with ((go_at_call_of 139 (Value.int .i64 11); (try clear Gb); refine (Mf v.e 11 (by decide) (by decide) _).mono ?_; rintro e W38 ⟨rfl, Gb⟩; replace Ga := Ga.keep Gb)); refine Gi Gb ?_
      refine GG rfl rfl ?_; go_wp2_with fail
      refine GA rfl ?_; go_wp2_with ((go_at_call_of 139 (Value.int .i64 25); (try clear Gb); refine (Mf v.e 25 (by decide) (by decide) _).mono ?_; rintro e W38 ⟨rfl, Gb⟩; replace Ga := Ga.keep Gb)); refine Gi Gb ?_
      refine GA rfl ?_; go_wp2_with fail; refine Gh ?_
      refine GA rfl ?_; go_wp2_with fail; refine Gh ?_
      refine GA rfl ?_; go_wp2_with fail; refine Gh ?_
      refine GA rfl ?_; go_wp2_with fail; refine Gh ?_
      refine GA rfl ?_; go_wp2_with fail; refine Gh ?_
      refine GA rfl ?_; go_wp2_with fail; refine Gh ?_
      refine G5 ?_
      go_wp2_with fail
      clear hpn Gb b1 b2 b3 b4 b5 hnot hr98 hr101 hr114 hr120 hr127 hr132
      have b6 := (((v.a.rot 2).xor (v.a.rot 13)).xor (v.a.rot 22)).h
      have b7 := (((v.a.and v.b).xor (v.a.and v.c)).xor (v.b.and v.c)).h
      refine GO [(0, 0), (2, 0), (5, 0), (8, 0), (9, 0), (10, 0), (11, 0), (12, 0), (13, 0), (14, 0), (15, 0), (16, 0), (17, 0), (18, 0), (19, 0), (20, 0), (21, 0), (22, 0), (23, 0), (24, 0), (25, 0), (26, 0), (1, 2), (3, 2), (4, 0), (6, 2), (7, 2), (27, 2), (28, 2)] (by kernel_rfl) (by kernel_rfl) ?_
      replace Ga := Ga.drew
      refine GG rfl rfl ?_; go_wp2_with fail
      refine GG rfl rfl ?_; go_wp2_with fail
      refine GG rfl rfl ?_; go_wp2_with fail
      refine GG rfl rfl ?_; go_wp2_with fail
      refine GG rfl rfl ?_; go_wp2_with fail
      refine GG rfl rfl ?_; go_wp2_with (refine Gp 145 rfl (by rfl) (by rfl) uz183 Jo (Ga.sl 0 rfl) (by omega) (by omega) ?_; intro o145 p145 ha145 hr145; ((obtain ⟨h1, h2⟩ := Jb ha145; subst h1; subst h2; clear ha145)))
      refine GG rfl rfl ?_; go_wp2_with (refine Gj 146 rfl (by rfl) uz3 rfl (Hx hr145 (k := 1) (by (decide)) (show v.ints[1]? = some (iW v.b) from rfl)) ?_)
      refine GG rfl rfl ?_; go_wp2_with fail
      refine GG rfl rfl ?_; go_wp2_with fail
      refine GG rfl rfl ?_; go_wp2_with fail
      refine GG rfl rfl ?_; go_wp2_with (refine Gp 150 rfl (by rfl) (by rfl) uz183 Jo (Ga.sl 0 rfl) (by omega) (by omega) ?_; intro o150 p150 ha150 hr150; ((obtain ⟨h1, h2⟩ := Jb ha150; subst h1; subst h2; clear ha150)))
      refine GG rfl rfl ?_; go_wp2_with (refine Gj 151 rfl (by rfl) uz3 rfl (Hx hr150 (k := 2) (by (decide)) (show v.ints[2]? = some (iW v.c) from rfl)) ?_)
      refine GG rfl rfl ?_; go_wp2_with fail
      refine GG rfl rfl ?_; go_wp2_with fail
      refine GG rfl rfl ?_; go_wp2_with fail
      refine GG rfl rfl ?_; go_wp2_with (refine Gp 155 rfl (by rfl) (by rfl) uz183 Jo (Ga.sl 0 rfl) (by omega) (by omega) ?_; intro o155 p155 ha155 hr155; ((obtain ⟨h1, h2⟩ := Jb ha155; subst h1; subst h2; clear ha155)))
      refine GG rfl rfl ?_; go_wp2_with (refine Gj 156 rfl (by rfl) uz3 rfl (Hx hr155 (k := 1) (by (decide)) (show v.ints[1]? = some (iW v.b) from rfl)) ?_)
      refine GG rfl rfl ?_; go_wp2_with fail
      refine GG rfl rfl ?_; go_wp2_with (refine Gp 158 rfl (by rfl) (by rfl) uz183 Jo (Ga.sl 0 rfl) (by omega) (by omega) ?_; intro o158 p158 ha158 hr158; ((obtain ⟨h1, h2⟩ := Jb ha158; subst h1; subst h2; clear ha158)))
      refine GG rfl rfl ?_; go_wp2_with (refine Gj 159 rfl (by rfl) uz3 rfl (Hx hr158 (k := 2) (by (decide)) (show v.ints[2]? = some (iW v.c) from rfl)) ?_)
      refine GG rfl rfl ?_; go_wp2_with fail
      refine GG rfl rfl ?_; go_wp2_with fail
      refine GA rfl ?_; go_wp2_with ((go_at_call_of 139 (Value.int .i64 2); (try clear Gb); refine (Mf v.a 2 (by decide) (by decide) _).mono ?_; rintro e W38 ⟨rfl, Gb⟩; replace Ga := Ga.keep Gb)); refine Gi Gb ?_
      refine GA rfl ?_; go_wp2_with ((go_at_call_of 139 (Value.int .i64 13); (try clear Gb); refine (Mf v.a 13 (by decide) (by decide) _).mono ?_; rintro e W38 ⟨rfl, Gb⟩; replace Ga := Ga.keep Gb)); refine Gi Gb ?_
      refine GG rfl rfl ?_; go_wp2_with fail
      refine GA rfl ?_; go_wp2_with ((go_at_call_of 139 (Value.int .i64 22); (try clear Gb); refine (Mf v.a 22 (by decide) (by decide) _).mono ?_; rintro e W38 ⟨rfl, Gb⟩; replace Ga := Ga.keep Gb)); refine Gi Gb ?_
      refine GA rfl ?_; go_wp2_with fail; refine Gh ?_
      refine GA rfl ?_; go_wp2_with fail; refine Gh ?_
      refine GA rfl ?_; go_wp2_with fail; refine Gh ?_
      refine G5 ?_
      go_wp2_with fail
      clear hqn Gb b6 b7 hxor hand hr145 hr150 hr155 hr158
      go_wp2_with (fail)
      have Ga : St w W38 [.row (some ⟨o95, p95, none⟩) 8 c89 3 1 (shV v 7), .row (some ⟨o132, p132, none⟩) 64 64 3 1 wl] := Ga
      obtain ⟨gko, rfl⟩ : ∃ x, x = gk := ⟨_, rfl⟩
      go_loopg [19] 7 (fun gk s19 wr => ∃ i : Nat, Hid (i = gk) ∧ i ≤ 7 ∧ s19 = .int .i64 (i : Int) ∧ St w wr [.row (some ⟨o95, p95, none⟩) 8 c89 3 1 (shV v i), .row (some ⟨o132, p132, none⟩) 64 64 3 1 wl])
      case atStart => exact ⟨7, Lib.hid rfl, by decide, rfl, Ga⟩
      case round =>
       clear Ga
       obtain ⟨i, HI, hi7, rfl, Ga⟩ := hrel
       by_cases hi0 : 0 < i
       ·obtain ⟨i, rfl⟩ : ∃ k, i = k + 1 := ⟨i - 1, by omega⟩
        have HA := Gg (shV_at v i (by omega))
        have HS := Gg (shV_set v i (by omega))
        generalize v.get i = x at HA HS
        go_wp2_with (first | (refine Gj 173 rfl (by rfl) uz3 rfl (Hx hr172 (k := i) (by omega) HA.out) ?_) | (refine Gp 172 rfl (by rfl) (by rfl) uz183 Jo (Ga.sl 0 rfl) (by omega) (by omega) ?_; intro o172 p172 ha172 hr172; ((obtain ⟨h1, h2⟩ := Jb ha172; subst h1; subst h2; clear ha172))) | (refine MZ (d := some 174) rfl rfl Ga rfl (by rfl) (by rfl) uz183 Jo 0 rfl (by rfl) (by omega) (by omega) ?_; intro o174 p174 ha174; ((obtain ⟨h1, h2⟩ := Jb ha174; subst h1; subst h2; clear ha174))) | (refine GB (.store 3 (.tmp 174) (.tmp 173)) rfl ?_; (refine Mv rfl rfl Ga rfl (by rfl) (Gw rfl) rfl Jo 0 rfl (by (omega)) ?_; clear Ga; intro WS8 Ga; simp only [Ge, Gf] at Ga)))
        go_roundg (gk - 1)
        case measure => have hi := HI.out; omega
        case rel =>
         have hi := HI.out
         refine ⟨i, Gg (by omega), by omega, by go_num, ?_⟩
         rw [← HS.out]
         simpa using Ga
       ·obtain rfl : i = 0 := by omega
        have b8 := v.d.h
        have hm4 := hm4.out
        have hm0 := hm0.out
        go_wp2_with (first | (refine Gj 178 rfl (by rfl) uz3 rfl (Hx hr177 (k := 4) (by decide) (shV_4 v)) ?_) | (refine Gp 177 rfl (by rfl) (by rfl) uz183 Jo (Ga.sl 0 rfl) (by omega) (by omega) ?_; intro o177 p177 ha177 hr177; ((obtain ⟨h1, h2⟩ := Jb ha177; subst h1; subst h2; clear ha177))) | (refine MZ (d := some 182) rfl rfl Ga rfl (by rfl) (by rfl) uz183 Jo 0 rfl (by rfl) (by omega) (by omega) ?_; intro o182 p182 ha182; ((obtain ⟨h1, h2⟩ := Jb ha182; subst h1; subst h2; clear ha182))) | (refine GB (.store 3 (.tmp 182) (.tmp 181)) rfl ?_; (refine Mv rfl rfl Ga rfl (by rfl) (Gw rfl) rfl Jo 0 rfl (by (omega)) ?_; clear Ga; intro WS8 Ga; simp only [Ge, Gf] at Ga)) | (refine MZ (d := some 188) rfl rfl Ga rfl (by rfl) (by rfl) uz183 Jo 0 rfl (by rfl) (by omega) (by omega) ?_; intro o188 p188 ha188; ((obtain ⟨h1, h2⟩ := Jb ha188; subst h1; subst h2; clear ha188))) | (refine GB (.store 3 (.tmp 188) (.tmp 187)) rfl ?_; (refine Mv rfl rfl Ga rfl (by rfl) (Gw rfl) rfl Jo 0 rfl (by (omega)) ?_; clear Ga; intro WS6 Ga; simp only [Ge, Gf] at Ga)))
        go_roundg (gko - 1)
        case measure => have ht := HT.out; omega
        case rel =>
         have ht := HT.out
         refine ⟨t + 1, Gg (by omega), by go_num, ?_⟩
         rw [HR.out]
         exact Ga
     ·obtain rfl : t = 64 := by omega
      clear ht HT hlt
      go_wp2_with (fail)
      generalize R 64 = v at *
      have Ga : St w wr [.row A89 8 c89 3 1 (addV v s 0), .row g21 64 64 3 1 wl] := Ga
      go_loopg [20] 8 (fun gk s20 wr => ∃ i : Nat, Hid (i + gk = 8) ∧ s20 = .int .i64 (i : Int) ∧ St w wr [.row A89 8 c89 3 1 (addV v s i), .row g21 64 64 3 1 wl])
      case atStart => exact ⟨0, Lib.hid rfl, rfl, Ga⟩
      case round =>
       clear Ga
       obtain ⟨i, HI, rfl, Ga⟩ := hrel
       have hi := HI.out
       by_cases hi8 : i < 8
       ·clear hi
        have HA := Gg (addV_at v s i hi8)
        have HB := Gg (s.ints_at i hi8)
        have HS := Gg (addV_set v s i hi8)
        generalize v.get i = x at *
        generalize s.get i = y at *
        have b1 := x.h
        have b2 := y.h
        have hm := iw_sum2 x y
        go_wp2_with (fail)
        refine GO [(0, 0), (1, 0), (2, 0), (3, 0), (4, 0), (5, 0), (6, 0), (7, 2), (8, 2), (9, 2), (10, 2), (11, 2), (12, 2), (13, 1)] (by kernel_rfl) (by kernel_rfl) ?_
        replace Ga := Ga.drew
        refine GG rfl rfl ?_; go_wp2_with fail
        refine GG rfl rfl ?_; go_wp2_with fail
        refine GG rfl rfl ?_; go_wp2_with fail
        refine GG rfl rfl ?_; go_wp2_with fail
        refine GG rfl rfl ?_; go_wp2_with (refine Gp 197 rfl (by rfl) (by rfl) uz183 Jo (Ga.sl 0 rfl) (by omega) (by omega) ?_; intro o197 p197 ha197 hr197; ((subst ha197)))
        refine GG rfl rfl ?_; go_wp2_with (refine Gj 198 rfl (by rfl) uz3 rfl (Hx hr197 (k := i) (by omega) HA.out) ?_)
        refine GG rfl rfl ?_; go_wp2_with fail
        refine GA rfl ?_; go_wp2_with fail; refine Gh ?_
        refine GA rfl ?_; go_wp2_with (refine Gp 201 rfl (by rfl) (by rfl) uz183 Jo (Ga.old (by decide) hA) (by omega) (by omega) ?_; intro o201 p201 ha201 hr201; ((subst ha201))); refine Gh ?_
        refine GA rfl ?_; go_wp2_with (refine Gj 202 rfl (by rfl) uz3 rfl (Hx hr201 (k := i) (by omega) HB.out) ?_); refine Gh ?_
        refine GA rfl ?_; go_wp2_with fail; refine Gh ?_
        refine GA rfl ?_; go_wp2_with fail; refine Gh ?_
        refine GA rfl ?_; go_wp2_with ((refine MZ (d := some 205) rfl rfl Ga rfl (by rfl) (by rfl) uz183 Jo 0 rfl (by rfl) (by omega) (by omega) ?_; intro o205 p205 ha205; ((obtain ⟨h1, h2⟩ := Jb ha205; subst h1; subst h2; clear ha205)))); refine Gh ?_
        refine J6 rfl ?_; go_wp2_with (refine GB (.store 3 (.tmp 205) (.tmp 204)) rfl ?_; (refine Mv rfl rfl Ga rfl (by rfl) (Gw rfl) rfl Jo 0 rfl (by (omega)) ?_; clear Ga; intro WS13 Ga; simp only [Ge, Gf] at Ga))
        refine G5 ?_
        go_wp2_with (fail)
        go_roundg (gk - 1)
        case measure => have hi := HI.out; omega
        case rel =>
         have hi := HI.out
         refine ⟨i + 1, Gg (by omega), by go_num, ?_⟩
         rw [← HS.out]
         simpa using Ga
       ·obtain rfl : i = 8 := by omega
        clear hi HI
        go_wp2_with (fail)
        rw [addV_end, HRE.out] at Ga
        go_ret
        exact ⟨_, _, rfl, Ga.pick [0] (by decide)⟩
end Go.Proofs.YtaebeemnipafbaaGreatDoor
