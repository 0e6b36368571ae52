/-
  Proved here: LogTells: the law returns true for every input, and leaves its arguments as they were.
-/
import Derived.Test.YtaebeemnipafbaaDoorPkLookX
import Derived.Test.YtaebeemnipafbaaDoorSkip
import Derived.Deep.LoopGhost
import Derived.Test.YtaebeemnipafbaaDoorOpenB
import Derived.Test.YtaebeemnipafbaaDoorCards
import Derived.Test.YtaebeemnipafbaaDoorTie
import Derived.Deep.DeepHandedRow
import Derived.ProofKit
import Derived.OpenShut
set_option maxRecDepth 20000
set_option linter.unusedSimpArgs false
set_option linter.unusedVariables false
namespace Go.Proofs.YtaebeemnipafbaaDoor
open Go.RowKit
attribute [local simp] hdArr_size ntArr_size
def cntN (N : List NoteN) (s : List UInt8) : Nat := N.countP fun n => decide (n.name = s)
def lastK (N : List NoteN) (s : List UInt8) : Dig := match lastN? N s with | some n => n.key | none => zeroD
def noClash (N : List NoteN) (s : List UInt8) : Prop := ∀ n ∈ N, n.name ≠ s → idxN n.name ≠ idxN s
theorem cntN_add (N : List NoteN) (s u : List UInt8) (k : Dig) (h : addE N u = 0) : cntN (addL N u k) s = if u = s then cntN N s + 1 else cntN N s := by
 unfold addL cntN
 rw [if_pos h, List.countP_append, List.countP_singleton]
 by_cases hu : u = s
 ·simp [newN, hu]
 ·simp [newN, hu]
theorem lastK_add (N : List NoteN) (s u : List UInt8) (k : Dig) (h : addE N u = 0) : lastK (addL N u k) s = if u = s then k else lastK N s := by
 unfold addL lastK
 rw [if_pos h, lastN_snoc]
 by_cases hu : u = s
 ·simp [newN, hu]
 ·simp [newN, hu]
theorem noClash_add {N : List NoteN} {s u : List UInt8} {k : Dig} (h : addE N u = 0) (hc : noClash N s) (hu : u = s ∨ idxN u ≠ idxN s) : noClash (addL N u k) s := by
 unfold addL
 rw [if_pos h]
 intro n hn hne
 rcases List.mem_append.1 hn with hn | hn
 ·exact hc n hn hne
 ·rw [List.mem_singleton.1 hn] at hne ⊢
  rcases hu with rfl | hu
  ·exact absurd rfl hne
  ·exact hu
theorem cntN_le (N : List NoteN) (s : List UInt8) : cntN N s ≤ N.length := List.countP_le_length
theorem last_told {N : List NoteN} (h : Logged N) (s : List UInt8) : match lastN? N s with | some n => n.name = s ∧ n.key = lastK N s ∧ n.turn = (cntN N s : Int) - 1 ∧ 0 < cntN N s | none => cntN N s = 0 := by
 have ht := h.turnOf s
 cases hl : lastN? N s with
 | none =>
  simp only
  unfold turnN at ht
  rw [hl] at ht
  simp only at ht
  unfold cntN
  omega
 | some n =>
  simp only
  unfold turnN at ht
  rw [hl] at ht
  simp only at ht
  have hn : n.name = s := by
   unfold lastN? at hl
   cases hi : lastI N s with
   | none => rw [hi] at hl; cases hl
   | some i =>
    rw [hi] at hl
    simp only [Option.bind_some] at hl
    obtain ⟨m, h1, h2⟩ := lastI_some hi
    rw [hl] at h1
    rw [Option.some.inj h1]
    exact h2
  have hm : n ∈ N := by
   unfold lastN? at hl
   cases hi : lastI N s with
   | none => rw [hi] at hl; cases hl
   | some i => rw [hi] at hl; exact List.mem_of_getElem? hl
  have hp : 0 < cntN N s := List.countP_pos_iff.2 ⟨n, hm, by simp [hn]⟩
  refine ⟨hn, by unfold lastK; rw [hl], ?_, hp⟩
  unfold cntN at *
  omega
theorem told_look {N : List NoteN} (h : Logged N) {s : List UInt8} (hs : isNm s = true) (hc : noClash N s) : lookN (N.length : Int) (rootN (lvN N)) (mapN N) s (findN N s) = (0, lastN? N s) := by
 refine look_find h hs fun h0 n hn => hc n hn fun e => ?_
 unfold lastN? at h0
 cases hi : lastI N s with
 | none => exact lastI_none.1 hi n hn e
 | some i =>
  rw [hi] at h0
  have := lastI_lt hi
  simp only [Option.bind_some, List.getElem?_eq_none_iff] at h0
  omega
theorem find_turn {N : List NoteN} (h : Logged N) (s : List UInt8) : -9223372036854775808 ≤ (findN N s).note.turn ∧ (findN N s).note.turn ≤ 9223372036854775807 := by
 have h0 : zeroNt.turn = 0 := rfl
 unfold findN
 by_cases hs : isNm s = true
 ·rw [if_pos hs]
  cases hi : lastI N s with
  | none => simp only [h0]; omega
  | some i =>
   obtain ⟨n, h1, h2⟩ := lastI_some hi
   simp only [h1, Option.getD_some]
   have := h.ok n (List.mem_of_getElem? h1)
   unfold noteOk at this
   rw [Bool.and_eq_true] at this
   have := of_decide_eq_true this.2
   omega
 ·rw [if_neg hs]
  show -9223372036854775808 ≤ zeroNt.turn ∧ _
  simp only [zeroFd, h0]; omega
def TelInv (m gl i : Nat) (s : List UInt8) (N : List NoteN) (p : LgP) : Prop := N.length ≤ i ∧ Logged N ∧ MapsOf N p.nm p.am ∧ p.g = gl ∧ p.m = m ∧ noClash N s
theorem told_case {N : List NoteN} (h : Logged N) (s : List UInt8) : ∃ n1 n2 n3, (lastN? N s).getD zeroNt = ⟨n1, n2, n3⟩ ∧ (((lastN? N s).isSome = false ∧ cntN N s = 0) ∨ ((lastN? N s).isSome = true ∧ 0 < cntN N s ∧ n1 = s ∧ n2 = lastK N s ∧ n3 = (cntN N s : Int) - 1)) := by
 have ht := last_told h s
 cases hl : lastN? N s with
 | none => rw [hl] at ht; exact ⟨_, _, _, rfl, .inl ⟨rfl, ht⟩⟩
 | some n =>
  rw [hl] at ht
  obtain ⟨h1, h2, h3, h4⟩ := ht
  exact ⟨n.name, n.key, n.turn, rfl, .inr ⟨rfl, h4, h1, h2, h3⟩⟩
set_option maxHeartbeats 40000000 in
set_option maxRecDepth 100000 in
theorem logTells_any (w : World) (hT : Tb w) (key : List UInt8) (K : Option Addr) (m mc : Nat) (hk : SlR w K m mc 1 (bytesL key)) (hm0 : m * 1 ≤ 140737488351232) (ns : List NoteN) (A : Option Addr) (n nc : Nat) (hx : SlR w A n nc 34 (notesL ns))
  (s : List UInt8) (hsz : s.length ≤ 140737488351232) :
  Calls Tryd.prog 6 #[.slice K m mc, .slice A n nc, .string (bsOf s)] w fun e w' => e = .returned (.bool true) ∧ St w w' [] := by
 have hst := St.refl w
 have HT := Lib.hid hT
 have hl : ns.length = n := by have := hx.1; rw [length_notesL] at this; omega
 have HX := Lib.hid hx
 have HL := Lib.hid hl
 have HG := Lib.hid (fun w' (h : SlR w' K m mc 1 (bytesL key)) => lnew_any key K m mc w' h (by omega))
 have HIs := Lib.hid (fun w' => rindex_any s w' (by omega))
 have HNm := Lib.hid (fun w' => risname_any s w' (by omega))
 have hm : m ≤ 140737488351232 := by omega
 clear hT hx hl hm0 hsz
 go_enter Tryd.func6, Tryd.ntmps6
 by_cases h40 : 40 < (n : Int)
 ·skip
  go_upto_region 1 with (go_big_may; fail)
  go_upto_region 2 with (go_big_may; (go_at_call 11; refine (added_any _ (HT.out.of hst)).mono ?_; rintro e Wd ⟨rfl, hnew⟩; replace hst := hst.keep hnew; clear hnew))
  go_upto_region 3 with (go_big_may; (go_at_call 22; refine (HG.out _ (hst.old (by decide) hk)).mono ?_; rintro e Wl ⟨p, rfl, hpm, hmp, hnew⟩; replace hst := hst.trans hnew; clear hnew))
  go_upto_region 5 with (go_big_may; fail)
  go_upto_region 6 with (go_big_may; fail)
  go_wp2_with (fail)
  go_ret
  exact ⟨rfl, hst.forget⟩
 go_upto_region 1 with (go_big_may; fail)
 go_upto_region 2 with (go_big_may; (go_at_call 11; refine (added_any _ (HT.out.of hst)).mono ?_; rintro e Wd ⟨rfl, hnew⟩; replace hst := hst.keep hnew; clear hnew))
 go_upto_region 3 with (go_big_may; (go_at_call 22; refine (HG.out _ (hst.old (by decide) hk)).mono ?_; rintro e Wl ⟨p, rfl, hpm, hmp, hnew⟩; replace hst := hst.trans hnew; clear hnew))
 go_upto_region 5 with (go_big_may; fail)
 go_upto_region 7 with (go_big_may; fail)
 go_upto_region 8 with (go_big_may; fail)
 go_upto_region 9 with (go_big_may; (refine L_allocA (d := some 10) rfl rfl rfl el_api_Digest ?_; (try clear hnew); intro g10 W10 hnew; replace hst := hst.trans hnew; simp only [List.cons_append, List.nil_append] at hst))
 go_wp2_with (fail)
 clear HG
 have h40' : n ≤ 40 := by omega
 clear h40 hnew
 obtain ⟨gl, hgl⟩ : ∃ g, g = p.g := ⟨_, rfl⟩
 rw [← hgl]
 go_loopg [9, 11] n (fun gk s9 s11 wr => ∃ (i : Nat) (N : List NoteN) (q : LgP) (c : Nat) (lk : Dig), Hid (gk + i = n) ∧ Hid (TelInv m gl i s N q) ∧ Hid (c = cntN N s ∧ lk = lastK N s) ∧ s9 = .int .i64 (c : Int) ∧ s11 = .int .i64 (i : Int) ∧
  St w wr (.blk g10 30 lk.arr :: (lgL q key N ++ [])))
 case atStart => exact ⟨0, [], p, 0, zeroD, Lib.hid rfl, Lib.hid ⟨Nat.le_refl _, .nil, hmp, hgl.symm, hpm, by simp [noClash]⟩, Lib.hid ⟨rfl, rfl⟩, rfl, rfl, hst⟩
 case round =>
  clear hst hmp hpm hgl
  obtain ⟨i, N, q, c, lk, HI, HV, HC0, rfl, rfl, hst⟩ := hrel
  have hi := HI.out
  by_cases hlt : i < n
  ·obtain ⟨g, rfl⟩ : ∃ g, gk = g + 1 := ⟨gk - 1, by omega⟩
   have hil : i < ns.length := by rw [HL.out]; exact hlt
   have HC := Lib.hid (fun (W : World) (g off : Nat) h => note_name (W := W) (g := g) (off := off) (i := i) (ns := ns) h hil)
   have HC2 := Lib.hid (fun (W : World) (g off : Nat) h => note_key (W := W) (g := g) (off := off) (i := i) (ns := ns) h hil)
   obtain ⟨u, hu⟩ : ∃ q, q = ns[i].name := ⟨_, rfl⟩
   obtain ⟨k, hkk⟩ : ∃ q, q = ns[i].key := ⟨_, rfl⟩
   rw [← hu] at HC
   rw [← hkk] at HC2
   clear hu hkk hil
   obtain ⟨v1, v3, v4, v5, v6, v7⟩ := HV.out
   have hc40 : c ≤ 40 := by have := cntN_le N s; have := HC0.out.1; omega
   have HA := Lib.hid (fun (w' : World) (L : List Res) h => addU_any key N u k q w w' L HT.out h v4 v3)
   rw [v5, v6] at HA
   have v1' : (addL N u k).length ≤ i + 1 := by have := (length_addL N u k).2; omega
   have v3' := v3.addL u k
   replace hst := St.swap (X := [_]) (Y := lgL q key N) (L := []) hst
   by_cases h0 : addE N u = 0
   ·simp only [h0, if_true] at HA
    have hun := (isNm_len (addE_zero h0).1).2
    have HIu := Lib.hid (fun w' => rindex_any u w' (by omega))
    have e1 := cntN_add N s u k h0
    have e2 := lastK_add N s u k h0
    have e3 := fun h => noClash_add (k := k) h0 v7 h
    generalize addL N u k = N1 at *
    obtain ⟨ze, hze⟩ : ∃ z, z = addE N u := ⟨_, rfl⟩
    clear h0 v1 v3 v4 v5 v6 v7 hi HV hun hze
    by_cases hus : u = s
    ·have HS := Lib.hid (show decide (u = s) = true from decide_eq_true hus)
     have HSn := Lib.hid (show (!decide (u = s)) = false by simp [hus])
     rw [if_pos hus] at e1 e2
     have v7' := e3 (.inl hus)
     have HE := Lib.hid (And.intro e1 e2)
     clear hus e1 e2 e3
     go_upto_region 12 with (go_big_may; fail)
     refine wp_region_idxT [(0, 0), (1, 0), (2, 0), (3, 0), (4, 0), (5, 0), (6, 0), (7, 2), (8, 2), (9, 2), (10, 2), (11, 1), (12, 2), (13, 0), (14, 0), (15, 2), (16, 2)] (by kernel_rfl) (by kernel_rfl) ?_
     replace hst := hst.drew
     refine idx_q rfl rfl ?_; go_wp2_with fail
     refine idx_q rfl rfl ?_; go_wp2_with fail
     refine idx_q rfl rfl ?_; go_wp2_with fail
     refine idx_q rfl rfl ?_; go_wp2_with ((refine L_idxS (d := some 40) rfl rfl rfl (by rfl) (by rfl) Tryd.underlying23 el_api_Note (by (exact hst.old (by decide) HX.out)) (by omega) (by omega) ?_; intro o40 p40 ha40 hr40; ((subst ha40))))
     refine idx_qf rfl rfl (by kernel_rfl) ?_; go_wp2_with fail
     refine idx_q rfl rfl ?_; go_wp2_with ((refine L_load1 (d := some 42) rfl rfl rfl (by rfl) Tryd.underlying9 rfl (HC.out _ _ _ hr40) ?_))
     refine idx_q rfl rfl ?_; go_wp2_with fail
     refine idx_g rfl ?_; go_wp2_with fail; refine ⟨by (exact Below.refl _ _), ?_⟩
     refine idx_g rfl ?_; go_wp2_with ((refine L_idxS (d := some 45) rfl rfl rfl (by rfl) (by rfl) Tryd.underlying23 el_api_Note (by (exact hst.old (by decide) HX.out)) (by omega) (by omega) ?_; intro o45 p45 ha45 hr45; ((obtain ⟨h1, h2⟩ := some_addr ha45; subst h1; subst h2; clear ha45)))); refine ⟨by (exact Below.refl _ _), ?_⟩
     refine idx_g rfl ?_; go_wp2_with fail; refine ⟨by (exact Below.refl _ _), ?_⟩
     refine idx_g rfl ?_; go_wp2_with ((refine L_loadM (d := some 47) rfl rfl rfl (by rfl) Tryd.underlying30 rfl el_api_Digest (HC2.out _ _ _ hr45) (Dig.size _) ?_)); refine ⟨by (exact Below.refl _ _), ?_⟩
     refine idx_e rfl ?_; go_wp2_with ((go_at_call 24; refine (HA.out _ _ hst).mono ?_; rintro e Wa ⟨rfl, q1, u1, u2, u3, hst'⟩; clear hst; have hst := hst'; clear hst'))
     refine idx_g rfl ?_; go_wp2_with fail; refine ⟨by (exact Below.refl _ _), ?_⟩
     refine idx_q rfl rfl ?_; go_wp2_with fail
     refine idx_q rfl rfl ?_; go_wp2_with fail
     refine idx_g rfl ?_; go_wp2_with fail; refine ⟨by (exact Below.refl _ _), ?_⟩
     refine idx_g rfl ?_; go_wp2_with fail; refine ⟨by (exact Below.refl _ _), ?_⟩
     refine idx_nil ?_
     have HV := Lib.hid (show TelInv m gl (i + 1) s N1 q1 from ⟨v1', v3', u3, u1, u2, v7'⟩)
     clear u1 u2 u3 v1' v3' v7'
     replace hst := St.swap (X := lgL q1 key N1) (Y := [_]) (L := []) hst
     simp only [List.cons_append, List.nil_append] at hst
     go_upto_region 14 with (go_big_may; first | (refine L_load1 (d := some 58) rfl rfl rfl (by rfl) Tryd.underlying9 rfl (HC.out _ _ _ hr56) ?_) | (refine L_idxS (d := some 56) rfl rfl rfl (by rfl) (by rfl) Tryd.underlying23 el_api_Note (by (exact hst.old (by decide) HX.out)) (by omega) (by omega) ?_; intro o56 p56 ha56 hr56; ((obtain ⟨h1, h2⟩ := some_addr ha56; subst h1; subst h2; clear ha56))) | (refine L_eqStr (d := some 60) rfl rfl rfl eqG_str Tryd.underlying9 (ev_tmp rfl) (ev_tmp rfl) ?_; (try rw [HS.out])))
     go_upto_region 15 with (go_big_may; fail)
     go_upto_region 16 with (go_big_may; first | (refine L_loadM (d := some 68) rfl rfl rfl (by rfl) Tryd.underlying30 rfl el_api_Digest (HC2.out _ _ _ hr66) (Dig.size _) ?_) | (refine L_idxS (d := some 66) rfl rfl rfl (by rfl) (by rfl) Tryd.underlying23 el_api_Note (by (exact hst.old (by decide) HX.out)) (by omega) (by omega) ?_; intro o66 p66 ha66 hr66; ((obtain ⟨h1, h2⟩ := some_addr ha66; subst h1; subst h2; clear ha66))) | (refine wpl_at (.store 30 (.tmp 10) (.tmp 68)) rfl ?_; (refine L_storeA rfl rfl hst rfl (by rfl) (ev_tmp rfl) (by (exact Dig.one _)) el_api_Digest (by (exact Dig.size _)) 0 rfl (by (exact Dig.size _)) ?_; clear hst; intro WS5 hst; simp only [List.set_cons_zero, List.set_cons_succ] at hst)))
     go_upto_region 11 with (first | (with_reducible refine L_pass (t := 81) rfl (by kernel_rfl) ?_) | (with_reducible refine L_pass (t := 82) rfl (by kernel_rfl) ?_) | (with_reducible refine L_pass (t := 83) rfl (by kernel_rfl) ?_) | (with_reducible refine L_pass (t := 84) rfl (by kernel_rfl) ?_) | (with_reducible refine L_pass (t := 85) rfl (by kernel_rfl) ?_) | (with_reducible refine L_pass (t := 86) rfl (by kernel_rfl) ?_) | (with_reducible refine L_pass (t := 87) rfl (by kernel_rfl) ?_) | (with_reducible refine L_pass (t := 88) rfl (by kernel_rfl) ?_) | (with_reducible refine L_pass (t := 89) rfl (by kernel_rfl) ?_) | (go_big_may; first | (refine L_load1 (d := some 76) rfl rfl rfl (by rfl) Tryd.underlying9 rfl (HC.out _ _ _ hr74) ?_) | (refine L_idxS (d := some 74) rfl rfl rfl (by rfl) (by rfl) Tryd.underlying23 el_api_Note (by (exact hst.old (by decide) HX.out)) (by omega) (by omega) ?_; intro o74 p74 ha74 hr74; ((obtain ⟨h1, h2⟩ := some_addr ha74; subst h1; subst h2; clear ha74))) | (refine L_neStr (d := some 78) rfl rfl rfl eqG_str Tryd.underlying9 (ev_tmp rfl) (ev_tmp rfl) ?_; (try rw [HSn.out]))))
     go_wp2_with (fail)
     go_roundg g
     case measure => omega
     case rel => exact ⟨i + 1, N1, q1, c + 1, k, Lib.hid (by have := HI.out; omega), HV, Lib.hid ⟨by rw [HE.out.1, HC0.out.1], HE.out.2.symm⟩, by go_num, by go_num, hst⟩
    ·have HS := Lib.hid (show decide (u = s) = false from decide_eq_false hus)
     have HSn := Lib.hid (show (!decide (u = s)) = true by simp [hus])
     rw [if_neg hus] at e1 e2
     have HE := Lib.hid (And.intro e1 e2)
     have HE3 := Lib.hid (fun h => e3 (.inr h))
     clear hus e1 e2 e3
     obtain ⟨iu, hiu⟩ : ∃ q, q = idxN u := ⟨_, rfl⟩
     obtain ⟨is, his⟩ : ∃ q, q = idxN s := ⟨_, rfl⟩
     rw [← hiu] at HIu HE3
     rw [← his] at HE3
     have HIs' := Lib.hid HIs.out
     rw [← his] at HIs'
     clear hiu his
     go_upto_region 12 with (go_big_may; fail)
     refine wp_region_idxT [(0, 0), (1, 0), (2, 0), (3, 0), (4, 0), (5, 0), (6, 0), (7, 2), (8, 2), (9, 2), (10, 2), (11, 1), (12, 2), (13, 0), (14, 0), (15, 2), (16, 2)] (by kernel_rfl) (by kernel_rfl) ?_
     replace hst := hst.drew
     refine idx_q rfl rfl ?_; go_wp2_with fail
     refine idx_q rfl rfl ?_; go_wp2_with fail
     refine idx_q rfl rfl ?_; go_wp2_with fail
     refine idx_q rfl rfl ?_; go_wp2_with ((refine L_idxS (d := some 40) rfl rfl rfl (by rfl) (by rfl) Tryd.underlying23 el_api_Note (by (exact hst.old (by decide) HX.out)) (by omega) (by omega) ?_; intro o40 p40 ha40 hr40; ((subst ha40))))
     refine idx_qf rfl rfl (by kernel_rfl) ?_; go_wp2_with fail
     refine idx_q rfl rfl ?_; go_wp2_with ((refine L_load1 (d := some 42) rfl rfl rfl (by rfl) Tryd.underlying9 rfl (HC.out _ _ _ hr40) ?_))
     refine idx_q rfl rfl ?_; go_wp2_with fail
     refine idx_g rfl ?_; go_wp2_with fail; refine ⟨by (exact Below.refl _ _), ?_⟩
     refine idx_g rfl ?_; go_wp2_with ((refine L_idxS (d := some 45) rfl rfl rfl (by rfl) (by rfl) Tryd.underlying23 el_api_Note (by (exact hst.old (by decide) HX.out)) (by omega) (by omega) ?_; intro o45 p45 ha45 hr45; ((obtain ⟨h1, h2⟩ := some_addr ha45; subst h1; subst h2; clear ha45)))); refine ⟨by (exact Below.refl _ _), ?_⟩
     refine idx_g rfl ?_; go_wp2_with fail; refine ⟨by (exact Below.refl _ _), ?_⟩
     refine idx_g rfl ?_; go_wp2_with ((refine L_loadM (d := some 47) rfl rfl rfl (by rfl) Tryd.underlying30 rfl el_api_Digest (HC2.out _ _ _ hr45) (Dig.size _) ?_)); refine ⟨by (exact Below.refl _ _), ?_⟩
     refine idx_e rfl ?_; go_wp2_with ((go_at_call 24; refine (HA.out _ _ hst).mono ?_; rintro e Wa ⟨rfl, q1, u1, u2, u3, hst'⟩; clear hst; have hst := hst'; clear hst'))
     refine idx_g rfl ?_; go_wp2_with fail; refine ⟨by (exact Below.refl _ _), ?_⟩
     refine idx_q rfl rfl ?_; go_wp2_with fail
     refine idx_q rfl rfl ?_; go_wp2_with fail
     refine idx_g rfl ?_; go_wp2_with fail; refine ⟨by (exact Below.refl _ _), ?_⟩
     refine idx_g rfl ?_; go_wp2_with fail; refine ⟨by (exact Below.refl _ _), ?_⟩
     refine idx_nil ?_
     replace hst := St.swap (X := lgL q1 key N1) (Y := [_]) (L := []) hst
     simp only [List.cons_append, List.nil_append] at hst
     go_upto_region 16 with (go_big_may; first | (refine L_load1 (d := some 58) rfl rfl rfl (by rfl) Tryd.underlying9 rfl (HC.out _ _ _ hr56) ?_) | (refine L_idxS (d := some 56) rfl rfl rfl (by rfl) (by rfl) Tryd.underlying23 el_api_Note (by (exact hst.old (by decide) HX.out)) (by omega) (by omega) ?_; intro o56 p56 ha56 hr56; ((obtain ⟨h1, h2⟩ := some_addr ha56; subst h1; subst h2; clear ha56))) | (refine L_eqStr (d := some 60) rfl rfl rfl eqG_str Tryd.underlying9 (ev_tmp rfl) (ev_tmp rfl) ?_; (try rw [HS.out])))
     by_cases hix : iu = is
     ·have hx1 : ((iu : Int) == (is : Int)) = true := by simp [hix]
      go_upto_region 17 with (go_big_may; first | (refine L_load1 (d := some 76) rfl rfl rfl (by rfl) Tryd.underlying9 rfl (HC.out _ _ _ hr74) ?_) | (refine L_load1 (d := some 85) rfl rfl rfl (by rfl) Tryd.underlying9 rfl (HC.out _ _ _ hr83) ?_) | (go_at_call_of 21 (Value.string (bsOf u)); (try clear hnew); refine (HIu.out _).mono ?_; rintro e Wk1 ⟨rfl, hnew⟩; replace hst := hst.keep hnew) | (go_at_call_of 21 (Value.string (bsOf s)); (try clear hnew); refine (HIs'.out _).mono ?_; rintro e Wk2 ⟨rfl, hnew⟩; replace hst := hst.keep hnew) | (refine L_idxS (d := some 74) rfl rfl rfl (by rfl) (by rfl) Tryd.underlying23 el_api_Note (by (exact hst.old (by decide) HX.out)) (by omega) (by omega) ?_; intro o74 p74 ha74 hr74; ((obtain ⟨h1, h2⟩ := some_addr ha74; subst h1; subst h2; clear ha74))) | (refine L_neStr (d := some 78) rfl rfl rfl eqG_str Tryd.underlying9 (ev_tmp rfl) (ev_tmp rfl) ?_; (try rw [HSn.out])) | (refine L_idxS (d := some 83) rfl rfl rfl (by rfl) (by rfl) Tryd.underlying23 el_api_Note (by (exact hst.old (by decide) HX.out)) (by omega) (by omega) ?_; intro o83 p83 ha83 hr83; ((obtain ⟨h1, h2⟩ := some_addr ha83; subst h1; subst h2; clear ha83))))
      go_wp2_with (fail)
      go_ret
      exact ⟨rfl, hst.forget⟩
     ·have hx1 : ((iu : Int) == (is : Int)) = false := by simp; omega
      have v7' := HE3.out hix
      have HV := Lib.hid (show TelInv m gl (i + 1) s N1 q1 from ⟨v1', v3', u3, u1, u2, v7'⟩)
      clear u1 u2 u3 v1' v3' v7' hix
      go_upto_region 11 with (go_big_may; first | (refine L_load1 (d := some 76) rfl rfl rfl (by rfl) Tryd.underlying9 rfl (HC.out _ _ _ hr74) ?_) | (refine L_load1 (d := some 85) rfl rfl rfl (by rfl) Tryd.underlying9 rfl (HC.out _ _ _ hr83) ?_) | (go_at_call_of 21 (Value.string (bsOf u)); (try clear hnew); refine (HIu.out _).mono ?_; rintro e Wk3 ⟨rfl, hnew⟩; replace hst := hst.keep hnew) | (go_at_call_of 21 (Value.string (bsOf s)); (try clear hnew); refine (HIs'.out _).mono ?_; rintro e Wk4 ⟨rfl, hnew⟩; replace hst := hst.keep hnew) | (refine L_idxS (d := some 74) rfl rfl rfl (by rfl) (by rfl) Tryd.underlying23 el_api_Note (by (exact hst.old (by decide) HX.out)) (by omega) (by omega) ?_; intro o74 p74 ha74 hr74; ((obtain ⟨h1, h2⟩ := some_addr ha74; subst h1; subst h2; clear ha74))) | (refine L_neStr (d := some 78) rfl rfl rfl eqG_str Tryd.underlying9 (ev_tmp rfl) (ev_tmp rfl) ?_; (try rw [HSn.out])) | (refine L_idxS (d := some 83) rfl rfl rfl (by rfl) (by rfl) Tryd.underlying23 el_api_Note (by (exact hst.old (by decide) HX.out)) (by omega) (by omega) ?_; intro o83 p83 ha83 hr83; ((obtain ⟨h1, h2⟩ := some_addr ha83; subst h1; subst h2; clear ha83))))
      go_wp2_with (fail)
      go_roundg g
      case measure => omega
      case rel => exact ⟨i + 1, N1, q1, c, lk, Lib.hid (by have := HI.out; omega), HV, Lib.hid ⟨by rw [HE.out.1, HC0.out.1], by rw [HE.out.2, HC0.out.2]⟩, rfl, by go_num, hst⟩
   ·have hL1 : addL N u k = N := by unfold addL; rw [if_neg h0]
    rw [hL1] at HA v1' v3'
    simp only [h0, if_false, errV] at HA
    generalize addE N u = r at *
    clear h0 hL1 v1 v3 v4 v5 v6 hi HV
    go_upto_region 12 with (go_big_may; fail)
    refine wp_region_idxT [(0, 0), (1, 0), (2, 0), (3, 0), (4, 0), (5, 0), (6, 0), (7, 2), (8, 2), (9, 2), (10, 2), (11, 1), (12, 2), (13, 0), (14, 0), (15, 2), (16, 2)] (by kernel_rfl) (by kernel_rfl) ?_
    replace hst := hst.drew
    refine idx_q rfl rfl ?_; go_wp2_with fail
    refine idx_q rfl rfl ?_; go_wp2_with fail
    refine idx_q rfl rfl ?_; go_wp2_with fail
    refine idx_q rfl rfl ?_; go_wp2_with ((refine L_idxS (d := some 40) rfl rfl rfl (by rfl) (by rfl) Tryd.underlying23 el_api_Note (by (exact hst.old (by decide) HX.out)) (by omega) (by omega) ?_; intro o40 p40 ha40 hr40; ((subst ha40))))
    refine idx_qf rfl rfl (by kernel_rfl) ?_; go_wp2_with fail
    refine idx_q rfl rfl ?_; go_wp2_with ((refine L_load1 (d := some 42) rfl rfl rfl (by rfl) Tryd.underlying9 rfl (HC.out _ _ _ hr40) ?_))
    refine idx_q rfl rfl ?_; go_wp2_with fail
    refine idx_g rfl ?_; go_wp2_with fail; refine ⟨by (exact Below.refl _ _), ?_⟩
    refine idx_g rfl ?_; go_wp2_with ((refine L_idxS (d := some 45) rfl rfl rfl (by rfl) (by rfl) Tryd.underlying23 el_api_Note (by (exact hst.old (by decide) HX.out)) (by omega) (by omega) ?_; intro o45 p45 ha45 hr45; ((obtain ⟨h1, h2⟩ := some_addr ha45; subst h1; subst h2; clear ha45)))); refine ⟨by (exact Below.refl _ _), ?_⟩
    refine idx_g rfl ?_; go_wp2_with fail; refine ⟨by (exact Below.refl _ _), ?_⟩
    refine idx_g rfl ?_; go_wp2_with ((refine L_loadM (d := some 47) rfl rfl rfl (by rfl) Tryd.underlying30 rfl el_api_Digest (HC2.out _ _ _ hr45) (Dig.size _) ?_)); refine ⟨by (exact Below.refl _ _), ?_⟩
    refine idx_e rfl ?_; go_wp2_with ((go_at_call 24; refine (HA.out _ _ hst).mono ?_; rintro e Wa ⟨rfl, q1, u1, u2, u3, hst'⟩; clear hst; have hst := hst'; clear hst'))
    refine idx_g rfl ?_; go_wp2_with fail; refine ⟨by (exact Below.refl _ _), ?_⟩
    refine idx_q rfl rfl ?_; go_wp2_with fail
    refine idx_q rfl rfl ?_; go_wp2_with fail
    refine idx_g rfl ?_; go_wp2_with fail; refine ⟨by (exact Below.refl _ _), ?_⟩
    refine idx_g rfl ?_; go_wp2_with fail; refine ⟨by (exact Below.refl _ _), ?_⟩
    refine idx_nil ?_
    have HV := Lib.hid (show TelInv m gl (i + 1) s N q1 from ⟨v1', v3', u3, u1, u2, v7⟩)
    clear u1 u2 u3 v1' v3' v7
    replace hst := St.swap (X := lgL q1 key N) (Y := [_]) (L := []) hst
    simp only [List.cons_append, List.nil_append] at hst
    go_upto_region 16 with (first | (with_reducible refine L_pass (t := 54) rfl (by kernel_rfl) ?_) | (with_reducible refine L_pass (t := 55) rfl (by kernel_rfl) ?_) | (with_reducible refine L_pass (t := 56) rfl (by kernel_rfl) ?_) | (with_reducible refine L_pass (t := 57) rfl (by kernel_rfl) ?_) | (with_reducible refine L_pass (t := 58) rfl (by kernel_rfl) ?_) | (with_reducible refine L_pass (t := 59) rfl (by kernel_rfl) ?_) | (with_reducible refine L_pass (t := 60) rfl (by kernel_rfl) ?_))
    go_upto_region 11 with (first | (with_reducible refine L_pass (t := 72) rfl (by kernel_rfl) ?_) | (with_reducible refine L_pass (t := 73) rfl (by kernel_rfl) ?_) | (with_reducible refine L_pass (t := 74) rfl (by kernel_rfl) ?_) | (with_reducible refine L_pass (t := 75) rfl (by kernel_rfl) ?_) | (with_reducible refine L_pass (t := 76) rfl (by kernel_rfl) ?_) | (with_reducible refine L_pass (t := 77) rfl (by kernel_rfl) ?_) | (with_reducible refine L_pass (t := 78) rfl (by kernel_rfl) ?_) | (with_reducible refine L_pass (t := 81) rfl (by kernel_rfl) ?_) | (with_reducible refine L_pass (t := 82) rfl (by kernel_rfl) ?_) | (with_reducible refine L_pass (t := 83) rfl (by kernel_rfl) ?_) | (with_reducible refine L_pass (t := 84) rfl (by kernel_rfl) ?_) | (with_reducible refine L_pass (t := 85) rfl (by kernel_rfl) ?_) | (with_reducible refine L_pass (t := 86) rfl (by kernel_rfl) ?_) | (with_reducible refine L_pass (t := 87) rfl (by kernel_rfl) ?_) | (with_reducible refine L_pass (t := 88) rfl (by kernel_rfl) ?_) | (with_reducible refine L_pass (t := 89) rfl (by kernel_rfl) ?_))
    go_wp2_with (fail)
    go_roundg g
    case measure => omega
    case rel => exact ⟨i + 1, N, q1, c, lk, Lib.hid (by have := HI.out; omega), HV, HC0, rfl, by go_num, hst⟩
  ·obtain rfl : gk = 0 := by omega
   obtain rfl : i = n := by omega
   clear hi
   obtain ⟨v1, v3, v4, v5, v6, v7⟩ := HV.out
   replace hst := St.swap (X := [_]) (Y := lgL q key N) (L := []) hst
   by_cases hs : isNm s = true
   case neg =>
    have hs' : isNm s = false := by simpa using hs
    have HF := Lib.hid (fun (w' : World) (L : List Res) h => find_no key N s q w w' L h hs')
    rw [v5] at HF
    rw [hs'] at HNm
    clear hs hs' v1 v3 v4 v5 v6 v7 HV
    go_upto_region 18 with (go_big_may; fail)
    go_upto_region 19 with (go_big_may; first | (go_at_call 30; refine (HF.out _ _ hst).mono ?_; unfold errV; rintro e Wf ⟨rfl, hst'⟩; clear hst; have hst := hst'; clear hst') | (refine L_allocA (d := some 14) rfl rfl rfl el_api_Found ?_; (try clear hnew); intro g14 W14 hnew; replace hst := hst.trans hnew; simp only [List.cons_append, List.nil_append] at hst) | (refine wpl_at (.store 44 (.tmp 14) (.tmp 95)) rfl ?_; (refine L_storeA rfl rfl hst rfl (by rfl) (ev_tmp rfl) (by (exact fdArr_all _ _ _ _ _ _ _ _ _ _)) el_api_Found (by (rfl)) 0 rfl (by (rfl)) ?_; clear hst; intro WS7 hst; simp only [List.set_cons_zero, List.set_cons_succ] at hst)))
    go_upto_region 20 with (go_big_may; fail)
    go_wp2_with ((go_at_call 31; (try clear hnew); refine (HNm.out _).mono ?_; rintro e Wk5 ⟨rfl, hnew⟩; replace hst := hst.keep hnew))
    go_ret
    exact ⟨rfl, hst.forget⟩
   have HF := Lib.hid (fun (w' : World) (L : List Res) h => by
    have := findU_any key N s q w w' L HT.out h v4 v3 hs
    unfold FindEnd at this
    rw [v5] at this
    exact this)
   have HH := Lib.hid (fun (w' : World) (ht : Tb w') (h : LgAt w' q key N) => by
    have := headK_any key N q w' ht h v4 v3 (by omega)
    rw [v5] at this
    exact this)
   have ht1 := find_turn v3 s
   have hlk := told_look v3 hs v7
   have HLk := Lib.hid (fun (w' : World) (z : Dig) (P1 : Option Addr) (c1 : Nat) (P2 : Option Addr) (c2 : Nat) (ht : Tb w') (h1 : SlR w' P1 (findN N s).path.length c1 32 (digsL (findN N s).path)) (h2 : SlR w' P2 (findN N s).mpath.length c2 32 (digsL (findN N s).mpath)) => by
    have := look_any (N.length : Int) (rootN (lvN N)) (mapN N) z s (findN N s) P1 _ c1 P2 _ c2 w' ht h1 h2 ht1.1 ht1.2
    rw [hlk] at this
    exact this)
   obtain ⟨n1, n2, n3, hn, hcase⟩ := told_case v3 s
   have hlv : lookV (0, lastN? N s) = .tuple #[.agg (ntArr n1 n2 n3), .bool (lastN? N s).isSome, .nilIface] := by
    unfold lookV
    rw [hn]
    rfl
   rw [hlv] at HLk
   rw [← HC0.out.1, ← HC0.out.2] at hcase
   have hcn : c ≤ 40 := by have := cntN_le N s; have := HC0.out.1; omega
   have HCase := Lib.hid hcase
   clear hs v1 v3 v4 v5 v6 v7 HV hlv hn ht1 hlk HNm HC0 hcase
   generalize (lastN? N s).isSome = rb at HLk HCase
   generalize headR key N = hd4 at HH
   generalize rootN (lvN N) = hd2 at HH HLk
   generalize mapN N = hd3 at HH HLk
   generalize findN N s = F at HF HLk
   obtain ⟨⟨f1, f2, f3⟩, f4, f5, f6⟩ := F
   simp only at HF HLk
   go_upto_region 18 with (go_big_may; fail)
   go_upto_region 19 with (go_big_may; first | (go_at_call 30; refine (HF.out _ _ hst).mono ?_; rintro e Wf ⟨P1, c1, P2, c2, rfl, hst'⟩; clear hst; have hst := hst'; clear hst'; simp only [lgL, List.cons_append, List.nil_append] at hst) | (refine L_allocA (d := some 14) rfl rfl rfl el_api_Found ?_; (try clear hnew); intro g14 W14 hnew; replace hst := hst.trans hnew; simp only [List.cons_append, List.nil_append] at hst) | (refine wpl_at (.store 44 (.tmp 14) (.tmp 95)) rfl ?_; (refine L_storeA rfl rfl hst rfl (by rfl) (ev_tmp rfl) (by (exact fdArr_all _ _ _ _ _ _ _ _ _ _)) el_api_Found (by (exact fdArr_size _ _ _ _ _ _ _ _ _ _)) 0 rfl (by (rfl)) ?_; clear hst; intro WS7 hst; simp only [List.set_cons_zero, List.set_cons_succ] at hst)))
   go_upto_region 21 with (go_big_may; fail)
   go_cut [16, 17, 15] (fun s16 s17 s15 wx => ∃ g16, s16 = .pointer (some ⟨g16, 0, none⟩) ∧ s17 = .bool rb ∧ s15 = .nilIface ∧ St w wx [.blk g16 35 (ntArr n1 n2 n3), .blk g10 30 lk.arr])
   case first =>
    clear hnew
    refine wp_region_pm (.one 0 3 (.one 2 3 (.one 3 0 (.two 1 2 (.two 4 2 (.one 5 3 (.one 6 3 (.one 7 3 (.one 8 3 (.one 9 2 (.one 10 1 (.one 11 2 (.one 12 2 .nil)))))))) 9 2 (.one 4 2 (.one 5 2 (.one 6 3 (.one 7 3 (.one 8 3 (.one 10 1 (.one 11 2 (.one 12 2 .nil))))))))) 9 2 (.one 1 2 (.one 4 2 (.one 5 2 (.one 6 3 (.one 7 3 (.one 8 3 (.one 10 1 (.one 11 2 (.one 12 2 .nil))))))))))))) (by kernel_rfl) (by kernel_rfl) ?_
    replace hst := hst.drew
    refine pm_p rfl rfl ?_; go_wp2_with fail
    refine pm_p rfl rfl ?_; go_wp2_with fail
    refine pm_q rfl rfl ?_; go_wp2_with (((refine L_loadA (d := some 106) rfl rfl rfl (by rfl) Tryd.underlying44 rfl el_api_Found (by (exact hst.get 0 rfl)) (by (exact fdArr_size _ _ _ _ _ _ _ _ _ _)) ?_)))
    refine pm_two (ki := 2) (kj := 2) rfl rfl ?_ ?_
    ·go_wp2_with ((go_at_call 14; (try clear hnew); refine (HH.out _ (HT.out.of hst) (by (exact ⟨hst.get 3 rfl, hst.sl 4 rfl, hst.sl 5 rfl, hst.obj 6 rfl, hst.obj 7 rfl⟩))).mono ?_; rintro e Wk6 ⟨rfl, hnew⟩; replace hst := hst.keep hnew)); refine ⟨fun _ => (by (exact hnew.below)), ?_⟩
     refine pm_two (ki := 2) (kj := 2) rfl rfl ?_ ?_
     ·go_wp2_with ((go_at_call 18; (try clear hnew); refine (HLk.out _ _ _ _ _ _ (HT.out.of hst) (by (exact hst.sl 1 rfl)) (by (exact hst.sl 2 rfl))).mono ?_; rintro e Wk7 ⟨rfl, hnew⟩; replace hst := hst.keep hnew)); refine ⟨fun _ => (by (exact hnew.below)), ?_⟩
      refine pm_p rfl rfl ?_; go_wp2_with fail
      refine pm_p rfl rfl ?_; go_wp2_with fail
      refine pm_p rfl rfl ?_; go_wp2_with fail
      refine pm_p rfl rfl ?_; go_wp2_with fail
      refine pm_g rfl ?_; go_wp2_with ((refine L_allocA (d := some 16) rfl rfl rfl el_api_Note ?_; (try clear hnew); intro g16 W16 hnew; replace hst := hst.trans hnew; simp only [List.cons_append, List.nil_append] at hst)); refine ⟨by (exact hnew.below), ?_⟩
      refine pm_e rfl ?_; go_wp2_with ((refine wpl_at (.store 35 (.tmp 16) (.tmp 108)) rfl ?_; (refine L_storeA rfl rfl hst rfl (by rfl) (ev_tmp rfl) (by (exact ntArr_all _ _ _)) el_api_Note (by (exact ntArr_size _ _ _)) 0 rfl (by (rfl)) ?_; clear hst; intro WS10 hst; simp only [List.set_cons_zero, List.set_cons_succ] at hst)))
      refine pm_g rfl ?_; go_wp2_with fail; refine ⟨by (exact Below.refl _ _), ?_⟩
      refine pm_g rfl ?_; go_wp2_with fail; refine ⟨by (exact Below.refl _ _), ?_⟩
      refine pm_nil ?_
      go_wp2_with fail
      go_meet
      case rel => exact ⟨_, rfl, rfl, rfl, hst.pick [0, 9] (by decide)⟩
     ·go_wp2_with ((refine L_allocA (d := some 16) rfl rfl rfl el_api_Note ?_; (try clear hnew); intro g16 W16 hnew; replace hst := hst.trans hnew; simp only [List.cons_append, List.nil_append] at hst)); refine ⟨fun _ => (by (exact hnew.below)), ?_⟩
      refine pm_g rfl ?_; go_wp2_with ((go_at_call 18; (try clear hnew); refine (HLk.out _ _ _ _ _ _ (HT.out.of hst) (by (exact hst.sl 2 rfl)) (by (exact hst.sl 3 rfl))).mono ?_; rintro e Wk7 ⟨rfl, hnew⟩; replace hst := hst.keep hnew)); refine ⟨by (exact hnew.below), ?_⟩
      refine pm_g rfl ?_; go_wp2_with fail; refine ⟨by (exact Below.refl _ _), ?_⟩
      refine pm_p rfl rfl ?_; go_wp2_with fail
      refine pm_p rfl rfl ?_; go_wp2_with fail
      refine pm_p rfl rfl ?_; go_wp2_with fail
      refine pm_e rfl ?_; go_wp2_with ((refine wpl_at (.store 35 (.tmp 16) (.tmp 108)) rfl ?_; (refine L_storeA rfl rfl hst rfl (by rfl) (ev_tmp rfl) (by (exact ntArr_all _ _ _)) el_api_Note (by (exact ntArr_size _ _ _)) 0 rfl (by (rfl)) ?_; clear hst; intro WS10 hst; simp only [List.set_cons_zero, List.set_cons_succ] at hst)))
      refine pm_g rfl ?_; go_wp2_with fail; refine ⟨by (exact Below.refl _ _), ?_⟩
      refine pm_g rfl ?_; go_wp2_with fail; refine ⟨by (exact Below.refl _ _), ?_⟩
      refine pm_nil ?_
      go_wp2_with fail
      go_meet
      case rel => exact ⟨_, rfl, rfl, rfl, hst.pick [0, 9] (by decide)⟩
    ·go_wp2_with ((refine L_allocA (d := some 16) rfl rfl rfl el_api_Note ?_; (try clear hnew); intro g16 W16 hnew; replace hst := hst.trans hnew; simp only [List.cons_append, List.nil_append] at hst)); refine ⟨fun _ => (by (exact hnew.below)), ?_⟩
     refine pm_g rfl ?_; go_wp2_with ((go_at_call 14; (try clear hnew); refine (HH.out _ (HT.out.of hst) (by (exact ⟨hst.get 4 rfl, hst.sl 5 rfl, hst.sl 6 rfl, hst.obj 7 rfl, hst.obj 8 rfl⟩))).mono ?_; rintro e Wk6 ⟨rfl, hnew⟩; replace hst := hst.keep hnew)); refine ⟨by (exact hnew.below), ?_⟩
     refine pm_g rfl ?_; go_wp2_with ((go_at_call 18; (try clear hnew); refine (HLk.out _ _ _ _ _ _ (HT.out.of hst) (by (exact hst.sl 2 rfl)) (by (exact hst.sl 3 rfl))).mono ?_; rintro e Wk7 ⟨rfl, hnew⟩; replace hst := hst.keep hnew)); refine ⟨by (exact hnew.below), ?_⟩
     refine pm_g rfl ?_; go_wp2_with fail; refine ⟨by (exact Below.refl _ _), ?_⟩
     refine pm_p rfl rfl ?_; go_wp2_with fail
     refine pm_p rfl rfl ?_; go_wp2_with fail
     refine pm_p rfl rfl ?_; go_wp2_with fail
     refine pm_e rfl ?_; go_wp2_with ((refine wpl_at (.store 35 (.tmp 16) (.tmp 108)) rfl ?_; (refine L_storeA rfl rfl hst rfl (by rfl) (ev_tmp rfl) (by (exact ntArr_all _ _ _)) el_api_Note (by (exact ntArr_size _ _ _)) 0 rfl (by (rfl)) ?_; clear hst; intro WS10 hst; simp only [List.set_cons_zero, List.set_cons_succ] at hst)))
     refine pm_g rfl ?_; go_wp2_with fail; refine ⟨by (exact Below.refl _ _), ?_⟩
     refine pm_g rfl ?_; go_wp2_with fail; refine ⟨by (exact Below.refl _ _), ?_⟩
     refine pm_nil ?_
     go_wp2_with fail
     go_meet
     case rel => exact ⟨_, rfl, rfl, rfl, hst.pick [0, 9] (by decide)⟩
   case rest =>
    obtain ⟨g16, rfl, rfl, rfl, hst⟩ := hcut
    clear HF HH HLk HIs
    rcases HCase.out with ⟨h1, h2⟩ | ⟨h1, h2, h3, h4, h5⟩
    ·subst h1
     subst h2
     go_upto_region 24 with (go_big_may; fail)
     go_wp2_with (first | (with_reducible refine L_pass (t := 122) rfl (by kernel_rfl) ?_) | (with_reducible refine L_pass (t := 123) rfl (by kernel_rfl) ?_) | (with_reducible refine L_pass (t := 125) rfl (by kernel_rfl) ?_) | (with_reducible refine L_pass (t := 127) rfl (by kernel_rfl) ?_) | (with_reducible refine L_pass (t := 128) rfl (by kernel_rfl) ?_) | (with_reducible refine L_pass (t := 129) rfl (by kernel_rfl) ?_) | (with_reducible refine L_pass (t := 130) rfl (by kernel_rfl) ?_))
     go_ret
     exact ⟨rfl, hst.forget⟩
    ·subst h1
     subst h3
     subst h4
     subst h5
     have h2' : (0 : Int) < (c : Int) := by omega
     have HSS := Lib.hid (show decide (n1 = n1) = true from decide_eq_true rfl)
     have HDD := Lib.hid (show decide (n2 = n2) = true from decide_eq_true rfl)
     go_upto_region 24 with (go_big_may; fail)
     go_wp2_with (first | (refine L_load1 (d := some 123) rfl rfl rfl (by rfl) Tryd.underlying9 rfl (by (exact cell_of (hst.get 0 rfl) ntArr_0)) ?_) | (refine L_eqStr (d := some 125) rfl rfl rfl eqG_str Tryd.underlying9 (ev_tmp rfl) (ev_tmp rfl) ?_; (try rw [HSS.out])) | ((refine L_loadM (d := some 128) rfl rfl rfl (by rfl) Tryd.underlying30 rfl el_api_Digest (by (exact ntArr_key (hst.get 0 rfl))) (by (exact Dig.size _)) ?_)) | ((refine L_loadA (d := some 129) rfl rfl rfl (by rfl) Tryd.underlying30 rfl el_api_Digest (by (exact hst.get 1 rfl)) (by (exact Dig.size _)) ?_)) | (refine L_eqD (d := some 130) rfl rfl rfl Tryd.underlying30 Tryd.underlying5 el_uint8 eqG_D (ev_tmp rfl) (ev_tmp rfl) ?_; (try rw [HDD.out])) | (refine L_load1 (d := some 134) rfl rfl rfl (by rfl) Tryd.underlying3 rfl (by (exact cell_of (hst.get 0 rfl) ntArr_33)) ?_))
     go_ret
     exact ⟨rfl, hst.forget⟩
end Go.Proofs.YtaebeemnipafbaaDoor

namespace Go.Proofs.YtaebeemnipafbaaDoor.logTells
open Go.ChangeShapes Go.WideShapes Go.ChangeAt Go.RowKit
theorem own : ownKnob Tryd.prog.godebug = none := by kernel_rfl
theorem laidOut : laidOutB Tryd.prog = true := by kernel_rfl
theorem cellsD : Tryd.prog.cellsOf 30 = 32 := by kernel_rfl
theorem cells8 : Tryd.prog.cellsOf 5 = 1 := by kernel_rfl
set_option maxHeartbeats 4000000 in
set_option maxRecDepth 100000 in
theorem contract (H : Type) (enc : TypeId × Value → H) (W : World) (base : Nat) (args : Array Value) (ds gs : List (DataW H)) (before : List MemPlace)
  (hval : ∀ (j : Nat) t v, Tryd.f6.params[j]? = some t → args[j]? = some v → Value.okWide Tryd.prog W .any base t v)
  (hW : DataW.Whole enc Tryd.prog Tryd.f6.params.toList Rows.logTellsSpec.vars false W args.toList ds gs before) (hT : Tb W)
  (hz : (DataW.weightsEach Tryd.prog (Tryd.f6.params.toList ++ (OpenSpec.ofChange Rows.logTellsSpec).bare.plain.varTypes Tryd.prog) (ds ++ gs)).all (· ≤ reachBytes) = true) :
  Calls Tryd.prog 6 args W fun e W' => ∃ v, e = .returned v ∧ Rows.logTellsSpec.post enc Tryd.prog Tryd.f6 false true false false W args v W' := by
 have hW' := hW
 obtain ⟨p, q, hA0, hV, rfl, hfz, hnd⟩ := hW
 have hA : DataW.TrodAll enc Tryd.prog W 0 (fun _ => true) true Tryd.f6.params.toList args.toList ds p := hA0
 rw [Tryd.params6] at hA hval hz
 obtain ⟨v0, vs0, d0, ds0, p0, q0, hargs, rfl, rfl, h0, r0⟩ := trodAll_cons hA
 obtain ⟨v1, vs1, d1, ds1, p1, q1, rfl, rfl, rfl, h1, r1⟩ := trodAll_cons r0
 obtain ⟨v2, vs2, d2, ds2, p2, q2, rfl, rfl, rfl, h2, r2⟩ := trodAll_cons r1
 obtain ⟨rfl, rfl, rfl⟩ := trodAll_nil r2
 obtain rfl : args = #[v0, v1, v2] := by cases args; simp_all
 obtain ⟨rfl, rfl⟩ := trodVars_none hV
 obtain ⟨A0, n0, c0, a0, rfl, hs0, hd0⟩ := open_bytesS Tryd.underlying22 Tryd.underlying5 cells8 (hval 0 _ v0 rfl rfl) h0
 have hn0 : n0 * 1 ≤ 140737488351232 := by
  rcases hd0 with ⟨_, h0⟩ | ⟨el, sp, rfl, hel⟩
  ·rw [h0]; decide
  ·have := sized_slice hz (j := 0) (e := 5) rfl rfl Tryd.underlying22
   rw [show Tryd.prog.bytesOf 5 = 1 from by kernel_rfl] at this
   have := reach_le this
   rw [← hel]
   omega
 obtain ⟨A1, n1, c1, a1, rfl, hs1, hw1, hd1⟩ := open_notesS Tryd.underlying23 Tryd.underlying35 Tryd.underlying9 rfl Tryd.underlying3 Tryd.underlying30 Tryd.underlying5 cells8 cellsD rfl rfl rfl (by kernel_rfl) (by kernel_rfl) (by kernel_rfl) (hval 1 _ v1 rfl rfl) h1
 obtain ⟨b2, rfl, rfl, rfl, ws2⟩ := Go.ChangeMaps.open_string Tryd.underlying9 (hval 2 _ v2 rfl rfl) h2
 obtain ⟨a2, ha2⟩ : ∃ a, b2 = bsOf a := ⟨_, bsOf_eta b2⟩
 subst ha2
 have hn2 : a2.length ≤ 140737488351232 := by
  have h := sized_string hz (j := 2) rfl rfl
  rw [bsOf_list] at h
  have := reach_le (n := a2.length) (b := 1) (by rw [Nat.mul_one]; exact h)
  omega
 have lt0 : ∀ x ∈ p0, x.block < W.heap.size := by obtain ⟨m, hm⟩ := h0; exact DataW.trod_lt m _ _ _ hm
 have lt1 : ∀ x ∈ p1, x.block < W.heap.size := by obtain ⟨m, hm⟩ := h1; exact DataW.trod_lt m _ _ _ hm
 clear hA0
 refine (logTells_any W hT a0 A0 n0 c0 hs0 hn0 a1 A1 n1 c1 hs1 a2 hn2).mono fun e W' ⟨he, hst⟩ => ?_
 have bel := hst.below
 subst he
 exact ⟨_, rfl, _, _, _, [], _, [], hW', trodAll_mk1 (shut_bool Tryd.underlying4 _),
  (trodAll_cons_mk (Below.trod laidOut (by kernel_rfl) (of_decide_eq_true (by kernel_rfl)) h0 bel lt0) (trodAll_cons_mk (Below.trod laidOut (by kernel_rfl) (of_decide_eq_true (by kernel_rfl)) h1 bel lt1) (trodAll_cons_mk (Go.ChangeMaps.shut_string Tryd.underlying9 ws2) trodAll_mk0))), rfl, bel.frame _, fun h => by cases h⟩
noncomputable def laidWorld (os : Os) : World :=
 { World.holding Tryd.prog os ⟨#[], #[], []⟩ with heap := (World.holding Tryd.prog os ⟨#[], #[], []⟩).heap.modify 1 fun
   | .cells _ t frozen => .cells tblArr t frozen
   | o => o }
theorem laid_met (os : Os) : laidMet Tryd.prog Rows.logTellsRow.laid ((laidWorld os).forCall (fun _ _ => 0) ⟨#[], #[.slice none 0 0, .slice none 0 0, .string ⟨#[]⟩], []⟩).memory :=
 laidMet_of_run' 8 (by kernel_rfl) (by kernel_rfl)
theorem reads (os : Os) {H : Type} (enc : TypeId × Value → H) : ∃ places, DataW.whole enc Tryd.prog ((laidWorld os).forCall (fun _ _ => 0) ⟨#[], #[.slice none 0 0, .slice none 0 0, .string ⟨#[]⟩], []⟩).memory Tryd.f6.params.toList Rows.logTellsSpec.vars false (#[.slice none 0 0, .slice none 0 0, .string ⟨#[]⟩] : Array Value).toList 8 = some ([.nil, .nil, .lit (.string [])], [], places) :=
 ⟨[], by kernel_rfl⟩
set_option maxRecDepth 100000 in
theorem lifted (os : Os) (started : os.Started) (H : Type) (enc : TypeId × Value → H) (F : Stop.Interp) :
  ReturnsInHanded {} Tryd.checked os 6 .any ((OpenSpec.ofChange Rows.logTellsSpec).preRow enc Tryd.prog Tryd.f6 Rows.logTellsRow.domain false Rows.logTellsRow.laid) (((OpenSpec.ofChange Rows.logTellsSpec).at F).post enc Tryd.prog Tryd.f6 false true false false) := by
 obtain ⟨places, hx⟩ := reads os enc
 refine returnsInHanded_of_row (C := Tryd.checked) (s := (OpenSpec.ofChange Rows.logTellsSpec)) own started (by kernel_rfl) Tryd.func6
  (witness_row_at (enc := enc) (C := Tryd.checked) false (laidWorld os) #[.slice none 0 0, .slice none 0 0, .string ⟨#[]⟩] rfl (by kernel_rfl) (by kernel_rfl) (by kernel_rfl)
   (OpenSpec.preRow_of_cond 8 hx (by kernel_rfl) (fun k hk => by cases hk) (by kernel_rfl) (laid_met os))) ?_
 intro W base args ds gs before hval hW _ _ hz hL _ _
 exact contract H enc W base args ds gs before hval hW (tb_of hL) hz
theorem said : Rows.LogTellsSaid :=
 OpenClaim.holds_of_cond 6 Tryd.f6 rfl rfl rfl rfl rfl rfl rfl ⟨rfl, rfl, rfl, rfl, rfl⟩ rfl rfl rfl rfl rfl (by kernel_rfl) Tryd.func6 (by kernel_rfl)
  (of_decide_eq_true (by kernel_rfl)) (by unfold Func.isWrapper; first | (rw [if_pos (by decide +kernel)]; kernel_rfl) | (rw [if_neg (by decide +kernel)]; exact ⟨rfl, rfl⟩))
  (fun os started H enc _ F => by rw [OpenClaim.pre_eq_preRow]; exact lifted os started H enc F)
theorem plain (f : FuncId) (fn : Func) (hf : Tryd.pinned.checked.prog.funcNamed "oathbook/oathbooklaw3.LogTells" = some f) (hfn : Tryd.pinned.checked.prog.funcs[f]? = some fn) :
  true = Tryd.pinned.checked.prog.looks [] ∧ ∀ (j : Nat) t, fn.params[j]? = some t → Tryd.pinned.checked.prog.wantsStandIn t = false := by
 obtain rfl : f = 6 := Option.some.inj ((show Tryd.prog.funcNamed "oathbook/oathbooklaw3.LogTells" = some 6 by kernel_rfl).symm.trans hf) |>.symm
 obtain rfl : fn = Tryd.f6 := (Option.some.inj (Tryd.func6.symm.trans hfn)).symm
 refine ⟨by kernel_rfl, fun j t ht => ?_⟩
 rw [Tryd.params6] at ht
 have hm := Array.mem_of_getElem? ht
 have ha : ∀ t ∈ #[22, 23, 9], Tryd.prog.wantsStandIn t = false := by
  intro t ht
  simp only [List.mem_toArray, List.mem_cons, List.not_mem_nil, or_false] at ht
  rcases ht with rfl | rfl | rfl <;> kernel_rfl
 exact ha t hm
theorem proved : Rows.LogTellsCardSaid :=
 Claim7.holds_tied_plain_at .later [] _ _ _ _ said (fun _ h => by cases h) (by kernel_rfl) (fun _ h => by cases h) logTells_row_tie rfl ⟨rfl, rfl⟩ (by kernel_rfl) rfl plain (by kernel_rfl)
#print axioms proved
end Go.Proofs.YtaebeemnipafbaaDoor.logTells
