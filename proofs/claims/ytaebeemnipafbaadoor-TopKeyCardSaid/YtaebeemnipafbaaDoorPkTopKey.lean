/-
  Proved here: TopKey: the law returns true for every input, and leaves its arguments as they were.
-/
import Derived.Test.YtaebeemnipafbaaDoorPkLookX
import Derived.Test.YtaebeemnipafbaaDoorSkip
import Derived.Deep.LoopGhost
import Derived.Test.YtaebeemnipafbaaDoorPkPinHonestA
import Derived.Test.YtaebeemnipafbaaDoorForkM
import Derived.Test.YtaebeemnipafbaaDoorMac
import Derived.Test.YtaebeemnipafbaaDoorOpenB
import Derived.Test.YtaebeemnipafbaaDoorCards
import Derived.Test.YtaebeemnipafbaaDoorTie
import Derived.Deep.DeepHandedRow
import Derived.ProofKit
import Derived.OpenShut
set_option maxRecDepth 20000
set_option linter.unusedSimpArgs false
set_option linter.unusedVariables false
namespace Go.Proofs.YtaebeemnipafbaaDoor
open Go.RowKit
attribute [local simp] hdArr_size ntArr_size
def cntN (N : List NoteN) (s : List UInt8) : Nat := N.countP fun n => decide (n.name = s)
def lastK (N : List NoteN) (s : List UInt8) : Dig := match lastN? N s with | some n => n.key | none => zeroD
def noClash (N : List NoteN) (s : List UInt8) : Prop := ∀ n ∈ N, n.name ≠ s → idxN n.name ≠ idxN s
theorem cntN_add (N : List NoteN) (s u : List UInt8) (k : Dig) (h : addE N u = 0) : cntN (addL N u k) s = if u = s then cntN N s + 1 else cntN N s := by
 unfold addL cntN
 rw [if_pos h, List.countP_append, List.countP_singleton]
 by_cases hu : u = s
 ·simp [newN, hu]
 ·simp [newN, hu]
theorem lastK_add (N : List NoteN) (s u : List UInt8) (k : Dig) (h : addE N u = 0) : lastK (addL N u k) s = if u = s then k else lastK N s := by
 unfold addL lastK
 rw [if_pos h, lastN_snoc]
 by_cases hu : u = s
 ·simp [newN, hu]
 ·simp [newN, hu]
theorem noClash_add {N : List NoteN} {s u : List UInt8} {k : Dig} (h : addE N u = 0) (hc : noClash N s) (hu : u = s ∨ idxN u ≠ idxN s) : noClash (addL N u k) s := by
 unfold addL
 rw [if_pos h]
 intro n hn hne
 rcases List.mem_append.1 hn with hn | hn
 ·exact hc n hn hne
 ·rw [List.mem_singleton.1 hn] at hne ⊢
  rcases hu with rfl | hu
  ·exact absurd rfl hne
  ·exact hu
theorem cntN_le (N : List NoteN) (s : List UInt8) : cntN N s ≤ N.length := List.countP_le_length
theorem last_told {N : List NoteN} (h : Logged N) (s : List UInt8) : match lastN? N s with | some n => n.name = s ∧ n.key = lastK N s ∧ n.turn = (cntN N s : Int) - 1 ∧ 0 < cntN N s | none => cntN N s = 0 := by
 have ht := h.turnOf s
 cases hl : lastN? N s with
 | none =>
  simp only
  unfold turnN at ht
  rw [hl] at ht
  simp only at ht
  unfold cntN
  omega
 | some n =>
  simp only
  unfold turnN at ht
  rw [hl] at ht
  simp only at ht
  have hn : n.name = s := by
   unfold lastN? at hl
   cases hi : lastI N s with
   | none => rw [hi] at hl; cases hl
   | some i =>
    rw [hi] at hl
    simp only [Option.bind_some] at hl
    obtain ⟨m, h1, h2⟩ := lastI_some hi
    rw [hl] at h1
    rw [Option.some.inj h1]
    exact h2
  have hm : n ∈ N := by
   unfold lastN? at hl
   cases hi : lastI N s with
   | none => rw [hi] at hl; cases hl
   | some i => rw [hi] at hl; exact List.mem_of_getElem? hl
  have hp : 0 < cntN N s := List.countP_pos_iff.2 ⟨n, hm, by simp [hn]⟩
  refine ⟨hn, by unfold lastK; rw [hl], ?_, hp⟩
  unfold cntN at *
  omega
theorem told_look {N : List NoteN} (h : Logged N) {s : List UInt8} (hs : isNm s = true) (hc : noClash N s) : lookN (N.length : Int) (rootN (lvN N)) (mapN N) s (findN N s) = (0, lastN? N s) := by
 refine look_find h hs fun h0 n hn => hc n hn fun e => ?_
 unfold lastN? at h0
 cases hi : lastI N s with
 | none => exact lastI_none.1 hi n hn e
 | some i =>
  rw [hi] at h0
  have := lastI_lt hi
  simp only [Option.bind_some, List.getElem?_eq_none_iff] at h0
  omega
theorem find_turn {N : List NoteN} (h : Logged N) (s : List UInt8) : -9223372036854775808 ≤ (findN N s).note.turn ∧ (findN N s).note.turn ≤ 9223372036854775807 := by
 have h0 : zeroNt.turn = 0 := rfl
 unfold findN
 by_cases hs : isNm s = true
 ·rw [if_pos hs]
  cases hi : lastI N s with
  | none => simp only [h0]; omega
  | some i =>
   obtain ⟨n, h1, h2⟩ := lastI_some hi
   simp only [h1, Option.getD_some]
   have := h.ok n (List.mem_of_getElem? h1)
   unfold noteOk at this
   rw [Bool.and_eq_true] at this
   have := of_decide_eq_true this.2
   omega
 ·rw [if_neg hs]
  show -9223372036854775808 ≤ zeroNt.turn ∧ _
  simp only [zeroFd, h0]; omega
def TelInv (m gl i : Nat) (s : List UInt8) (N : List NoteN) (p : LgP) : Prop := N.length ≤ i ∧ Logged N ∧ MapsOf N p.nm p.am ∧ p.g = gl ∧ p.m = m ∧ noClash N s
theorem told_case {N : List NoteN} (h : Logged N) (s : List UInt8) : ∃ n1 n2 n3, (lastN? N s).getD zeroNt = ⟨n1, n2, n3⟩ ∧ (((lastN? N s).isSome = false ∧ cntN N s = 0) ∨ ((lastN? N s).isSome = true ∧ 0 < cntN N s ∧ n1 = s ∧ n2 = lastK N s ∧ n3 = (cntN N s : Int) - 1)) := by
 have ht := last_told h s
 cases hl : lastN? N s with
 | none => rw [hl] at ht; exact ⟨_, _, _, rfl, .inl ⟨rfl, ht⟩⟩
 | some n =>
  rw [hl] at ht
  obtain ⟨h1, h2, h3, h4⟩ := ht
  exact ⟨n.name, n.key, n.turn, rfl, .inr ⟨rfl, h4, h1, h2, h3⟩⟩
set_option maxHeartbeats 40000000 in
set_option maxRecDepth 100000 in
theorem logTells_any (w : World) (hT : Tb w) (key : List UInt8) (K : Option Addr) (m mc : Nat) (hk : SlR w K m mc 1 (bytesL key)) (hm0 : m * 1 ≤ 140737488351232) (ns : List NoteN) (A : Option Addr) (n nc : Nat) (hx : SlR w A n nc 34 (notesL ns))
  (s : List UInt8) (hsz : s.length ≤ 140737488351232) :
  Calls Tryd.prog 6 #[.slice K m mc, .slice A n nc, .string (bsOf s)] w fun e w' => e = .returned (.bool true) ∧ St w w' [] := by
 have hst := St.refl w
 have HT := Lib.hid hT
 have hl : ns.length = n := by have := hx.1; rw [length_notesL] at this; omega
 have HX := Lib.hid hx
 have HL := Lib.hid hl
 have HG := Lib.hid (fun w' (h : SlR w' K m mc 1 (bytesL key)) => lnew_any key K m mc w' h (by omega))
 have HIs := Lib.hid (fun w' => rindex_any s w' (by omega))
 have HNm := Lib.hid (fun w' => risname_any s w' (by omega))
 have hm : m ≤ 140737488351232 := by omega
 clear hT hx hl hm0 hsz
 go_enter Tryd.func6, Tryd.ntmps6
 by_cases h40 : 40 < (n : Int)
 ·skip
  go_upto_region 1 with (go_big_may; fail)
  go_upto_region 2 with (go_big_may; (go_at_call 11; refine (added_any _ (HT.out.of hst)).mono ?_; rintro e Wd ⟨rfl, hnew⟩; replace hst := hst.keep hnew; clear hnew))
  go_upto_region 3 with (go_big_may; (go_at_call 22; refine (HG.out _ (hst.old (by decide) hk)).mono ?_; rintro e Wl ⟨p, rfl, hpm, hmp, hnew⟩; replace hst := hst.trans hnew; clear hnew))
  go_upto_region 5 with (go_big_may; fail)
  go_upto_region 6 with (go_big_may; fail)
  go_wp2_with (fail)
  go_ret
  exact ⟨rfl, hst.forget⟩
 go_upto_region 1 with (go_big_may; fail)
 go_upto_region 2 with (go_big_may; (go_at_call 11; refine (added_any _ (HT.out.of hst)).mono ?_; rintro e Wd ⟨rfl, hnew⟩; replace hst := hst.keep hnew; clear hnew))
 go_upto_region 3 with (go_big_may; (go_at_call 22; refine (HG.out _ (hst.old (by decide) hk)).mono ?_; rintro e Wl ⟨p, rfl, hpm, hmp, hnew⟩; replace hst := hst.trans hnew; clear hnew))
 go_upto_region 5 with (go_big_may; fail)
 go_upto_region 7 with (go_big_may; fail)
 go_upto_region 8 with (go_big_may; fail)
 go_upto_region 9 with (go_big_may; (refine L_allocA (d := some 10) rfl rfl rfl el_api_Digest ?_; (try clear hnew); intro g10 W10 hnew; replace hst := hst.trans hnew; simp only [List.cons_append, List.nil_append] at hst))
 go_wp2_with (fail)
 clear HG
 have h40' : n ≤ 40 := by omega
 clear h40 hnew
 obtain ⟨gl, hgl⟩ : ∃ g, g = p.g := ⟨_, rfl⟩
 rw [← hgl]
 go_loopg [9, 11] n (fun gk s9 s11 wr => ∃ (i : Nat) (N : List NoteN) (q : LgP) (c : Nat) (lk : Dig), Hid (gk + i = n) ∧ Hid (TelInv m gl i s N q) ∧ Hid (c = cntN N s ∧ lk = lastK N s) ∧ s9 = .int .i64 (c : Int) ∧ s11 = .int .i64 (i : Int) ∧
  St w wr (.blk g10 30 lk.arr :: (lgL q key N ++ [])))
 case atStart => exact ⟨0, [], p, 0, zeroD, Lib.hid rfl, Lib.hid ⟨Nat.le_refl _, .nil, hmp, hgl.symm, hpm, by simp [noClash]⟩, Lib.hid ⟨rfl, rfl⟩, rfl, rfl, hst⟩
 case round =>
  clear hst hmp hpm hgl
  obtain ⟨i, N, q, c, lk, HI, HV, HC0, rfl, rfl, hst⟩ := hrel
  have hi := HI.out
  by_cases hlt : i < n
  ·obtain ⟨g, rfl⟩ : ∃ g, gk = g + 1 := ⟨gk - 1, by omega⟩
   have hil : i < ns.length := by rw [HL.out]; exact hlt
   have HC := Lib.hid (fun (W : World) (g off : Nat) h => note_name (W := W) (g := g) (off := off) (i := i) (ns := ns) h hil)
   have HC2 := Lib.hid (fun (W : World) (g off : Nat) h => note_key (W := W) (g := g) (off := off) (i := i) (ns := ns) h hil)
   obtain ⟨u, hu⟩ : ∃ q, q = ns[i].name := ⟨_, rfl⟩
   obtain ⟨k, hkk⟩ : ∃ q, q = ns[i].key := ⟨_, rfl⟩
   rw [← hu] at HC
   rw [← hkk] at HC2
   clear hu hkk hil
   obtain ⟨v1, v3, v4, v5, v6, v7⟩ := HV.out
   have hc40 : c ≤ 40 := by have := cntN_le N s; have := HC0.out.1; omega
   have HA := Lib.hid (fun (w' : World) (L : List Res) h => addU_any key N u k q w w' L HT.out h v4 v3)
   rw [v5, v6] at HA
   have v1' : (addL N u k).length ≤ i + 1 := by have := (length_addL N u k).2; omega
   have v3' := v3.addL u k
   replace hst := St.swap (X := [_]) (Y := lgL q key N) (L := []) hst
   by_cases h0 : addE N u = 0
   ·simp only [h0, if_true] at HA
    have hun := (isNm_len (addE_zero h0).1).2
    have HIu := Lib.hid (fun w' => rindex_any u w' (by omega))
    have e1 := cntN_add N s u k h0
    have e2 := lastK_add N s u k h0
    have e3 := fun h => noClash_add (k := k) h0 v7 h
    generalize addL N u k = N1 at *
    obtain ⟨ze, hze⟩ : ∃ z, z = addE N u := ⟨_, rfl⟩
    clear h0 v1 v3 v4 v5 v6 v7 hi HV hun hze
    by_cases hus : u = s
    ·have HS := Lib.hid (show decide (u = s) = true from decide_eq_true hus)
     have HSn := Lib.hid (show (!decide (u = s)) = false by simp [hus])
     rw [if_pos hus] at e1 e2
     have v7' := e3 (.inl hus)
     have HE := Lib.hid (And.intro e1 e2)
     clear hus e1 e2 e3
     go_upto_region 12 with (go_big_may; fail)
     refine wp_region_idxT [(0, 0), (1, 0), (2, 0), (3, 0), (4, 0), (5, 0), (6, 0), (7, 2), (8, 2), (9, 2), (10, 2), (11, 1), (12, 2), (13, 0), (14, 0), (15, 2), (16, 2)] (by kernel_rfl) (by kernel_rfl) ?_
     replace hst := hst.drew
     refine idx_q rfl rfl ?_; go_wp2_with fail
     refine idx_q rfl rfl ?_; go_wp2_with fail
     refine idx_q rfl rfl ?_; go_wp2_with fail
     refine idx_q rfl rfl ?_; go_wp2_with ((refine L_idxS (d := some 40) rfl rfl rfl (by rfl) (by rfl) Tryd.underlying23 el_api_Note (by (exact hst.old (by decide) HX.out)) (by omega) (by omega) ?_; intro o40 p40 ha40 hr40; ((subst ha40))))
     refine idx_qf rfl rfl (by kernel_rfl) ?_; go_wp2_with fail
     refine idx_q rfl rfl ?_; go_wp2_with ((refine L_load1 (d := some 42) rfl rfl rfl (by rfl) Tryd.underlying9 rfl (HC.out _ _ _ hr40) ?_))
     refine idx_q rfl rfl ?_; go_wp2_with fail
     refine idx_g rfl ?_; go_wp2_with fail; refine ⟨by (exact Below.refl _ _), ?_⟩
     refine idx_g rfl ?_; go_wp2_with ((refine L_idxS (d := some 45) rfl rfl rfl (by rfl) (by rfl) Tryd.underlying23 el_api_Note (by (exact hst.old (by decide) HX.out)) (by omega) (by omega) ?_; intro o45 p45 ha45 hr45; ((obtain ⟨h1, h2⟩ := some_addr ha45; subst h1; subst h2; clear ha45)))); refine ⟨by (exact Below.refl _ _), ?_⟩
     refine idx_g rfl ?_; go_wp2_with fail; refine ⟨by (exact Below.refl _ _), ?_⟩
     refine idx_g rfl ?_; go_wp2_with ((refine L_loadM (d := some 47) rfl rfl rfl (by rfl) Tryd.underlying30 rfl el_api_Digest (HC2.out _ _ _ hr45) (Dig.size _) ?_)); refine ⟨by (exact Below.refl _ _), ?_⟩
     refine idx_e rfl ?_; go_wp2_with ((go_at_call 24; refine (HA.out _ _ hst).mono ?_; rintro e Wa ⟨rfl, q1, u1, u2, u3, hst'⟩; clear hst; have hst := hst'; clear hst'))
     refine idx_g rfl ?_; go_wp2_with fail; refine ⟨by (exact Below.refl _ _), ?_⟩
     refine idx_q rfl rfl ?_; go_wp2_with fail
     refine idx_q rfl rfl ?_; go_wp2_with fail
     refine idx_g rfl ?_; go_wp2_with fail; refine ⟨by (exact Below.refl _ _), ?_⟩
     refine idx_g rfl ?_; go_wp2_with fail; refine ⟨by (exact Below.refl _ _), ?_⟩
     refine idx_nil ?_
     have HV := Lib.hid (show TelInv m gl (i + 1) s N1 q1 from ⟨v1', v3', u3, u1, u2, v7'⟩)
     clear u1 u2 u3 v1' v3' v7'
     replace hst := St.swap (X := lgL q1 key N1) (Y := [_]) (L := []) hst
     simp only [List.cons_append, List.nil_append] at hst
     go_upto_region 14 with (go_big_may; first | (refine L_load1 (d := some 58) rfl rfl rfl (by rfl) Tryd.underlying9 rfl (HC.out _ _ _ hr56) ?_) | (refine L_idxS (d := some 56) rfl rfl rfl (by rfl) (by rfl) Tryd.underlying23 el_api_Note (by (exact hst.old (by decide) HX.out)) (by omega) (by omega) ?_; intro o56 p56 ha56 hr56; ((obtain ⟨h1, h2⟩ := some_addr ha56; subst h1; subst h2; clear ha56))) | (refine L_eqStr (d := some 60) rfl rfl rfl eqG_str Tryd.underlying9 (ev_tmp rfl) (ev_tmp rfl) ?_; (try rw [HS.out])))
     go_upto_region 15 with (go_big_may; fail)
     go_upto_region 16 with (go_big_may; first | (refine L_loadM (d := some 68) rfl rfl rfl (by rfl) Tryd.underlying30 rfl el_api_Digest (HC2.out _ _ _ hr66) (Dig.size _) ?_) | (refine L_idxS (d := some 66) rfl rfl rfl (by rfl) (by rfl) Tryd.underlying23 el_api_Note (by (exact hst.old (by decide) HX.out)) (by omega) (by omega) ?_; intro o66 p66 ha66 hr66; ((obtain ⟨h1, h2⟩ := some_addr ha66; subst h1; subst h2; clear ha66))) | (refine wpl_at (.store 30 (.tmp 10) (.tmp 68)) rfl ?_; (refine L_storeA rfl rfl hst rfl (by rfl) (ev_tmp rfl) (by (exact Dig.one _)) el_api_Digest (by (exact Dig.size _)) 0 rfl (by (exact Dig.size _)) ?_; clear hst; intro WS5 hst; simp only [List.set_cons_zero, List.set_cons_succ] at hst)))
     go_upto_region 11 with (first | (with_reducible refine L_pass (t := 81) rfl (by kernel_rfl) ?_) | (with_reducible refine L_pass (t := 82) rfl (by kernel_rfl) ?_) | (with_reducible refine L_pass (t := 83) rfl (by kernel_rfl) ?_) | (with_reducible refine L_pass (t := 84) rfl (by kernel_rfl) ?_) | (with_reducible refine L_pass (t := 85) rfl (by kernel_rfl) ?_) | (with_reducible refine L_pass (t := 86) rfl (by kernel_rfl) ?_) | (with_reducible refine L_pass (t := 87) rfl (by kernel_rfl) ?_) | (with_reducible refine L_pass (t := 88) rfl (by kernel_rfl) ?_) | (with_reducible refine L_pass (t := 89) rfl (by kernel_rfl) ?_) | (go_big_may; first | (refine L_load1 (d := some 76) rfl rfl rfl (by rfl) Tryd.underlying9 rfl (HC.out _ _ _ hr74) ?_) | (refine L_idxS (d := some 74) rfl rfl rfl (by rfl) (by rfl) Tryd.underlying23 el_api_Note (by (exact hst.old (by decide) HX.out)) (by omega) (by omega) ?_; intro o74 p74 ha74 hr74; ((obtain ⟨h1, h2⟩ := some_addr ha74; subst h1; subst h2; clear ha74))) | (refine L_neStr (d := some 78) rfl rfl rfl eqG_str Tryd.underlying9 (ev_tmp rfl) (ev_tmp rfl) ?_; (try rw [HSn.out]))))
     go_wp2_with (fail)
     go_roundg g
     case measure => omega
     case rel => exact ⟨i + 1, N1, q1, c + 1, k, Lib.hid (by have := HI.out; omega), HV, Lib.hid ⟨by rw [HE.out.1, HC0.out.1], HE.out.2.symm⟩, by go_num, by go_num, hst⟩
    ·have HS := Lib.hid (show decide (u = s) = false from decide_eq_false hus)
     have HSn := Lib.hid (show (!decide (u = s)) = true by simp [hus])
     rw [if_neg hus] at e1 e2
     have HE := Lib.hid (And.intro e1 e2)
     have HE3 := Lib.hid (fun h => e3 (.inr h))
     clear hus e1 e2 e3
     obtain ⟨iu, hiu⟩ : ∃ q, q = idxN u := ⟨_, rfl⟩
     obtain ⟨is, his⟩ : ∃ q, q = idxN s := ⟨_, rfl⟩
     rw [← hiu] at HIu HE3
     rw [← his] at HE3
     have HIs' := Lib.hid HIs.out
     rw [← his] at HIs'
     clear hiu his
     go_upto_region 12 with (go_big_may; fail)
     refine wp_region_idxT [(0, 0), (1, 0), (2, 0), (3, 0), (4, 0), (5, 0), (6, 0), (7, 2), (8, 2), (9, 2), (10, 2), (11, 1), (12, 2), (13, 0), (14, 0), (15, 2), (16, 2)] (by kernel_rfl) (by kernel_rfl) ?_
     replace hst := hst.drew
     refine idx_q rfl rfl ?_; go_wp2_with fail
     refine idx_q rfl rfl ?_; go_wp2_with fail
     refine idx_q rfl rfl ?_; go_wp2_with fail
     refine idx_q rfl rfl ?_; go_wp2_with ((refine L_idxS (d := some 40) rfl rfl rfl (by rfl) (by rfl) Tryd.underlying23 el_api_Note (by (exact hst.old (by decide) HX.out)) (by omega) (by omega) ?_; intro o40 p40 ha40 hr40; ((subst ha40))))
     refine idx_qf rfl rfl (by kernel_rfl) ?_; go_wp2_with fail
     refine idx_q rfl rfl ?_; go_wp2_with ((refine L_load1 (d := some 42) rfl rfl rfl (by rfl) Tryd.underlying9 rfl (HC.out _ _ _ hr40) ?_))
     refine idx_q rfl rfl ?_; go_wp2_with fail
     refine idx_g rfl ?_; go_wp2_with fail; refine ⟨by (exact Below.refl _ _), ?_⟩
     refine idx_g rfl ?_; go_wp2_with ((refine L_idxS (d := some 45) rfl rfl rfl (by rfl) (by rfl) Tryd.underlying23 el_api_Note (by (exact hst.old (by decide) HX.out)) (by omega) (by omega) ?_; intro o45 p45 ha45 hr45; ((obtain ⟨h1, h2⟩ := some_addr ha45; subst h1; subst h2; clear ha45)))); refine ⟨by (exact Below.refl _ _), ?_⟩
     refine idx_g rfl ?_; go_wp2_with fail; refine ⟨by (exact Below.refl _ _), ?_⟩
     refine idx_g rfl ?_; go_wp2_with ((refine L_loadM (d := some 47) rfl rfl rfl (by rfl) Tryd.underlying30 rfl el_api_Digest (HC2.out _ _ _ hr45) (Dig.size _) ?_)); refine ⟨by (exact Below.refl _ _), ?_⟩
     refine idx_e rfl ?_; go_wp2_with ((go_at_call 24; refine (HA.out _ _ hst).mono ?_; rintro e Wa ⟨rfl, q1, u1, u2, u3, hst'⟩; clear hst; have hst := hst'; clear hst'))
     refine idx_g rfl ?_; go_wp2_with fail; refine ⟨by (exact Below.refl _ _), ?_⟩
     refine idx_q rfl rfl ?_; go_wp2_with fail
     refine idx_q rfl rfl ?_; go_wp2_with fail
     refine idx_g rfl ?_; go_wp2_with fail; refine ⟨by (exact Below.refl _ _), ?_⟩
     refine idx_g rfl ?_; go_wp2_with fail; refine ⟨by (exact Below.refl _ _), ?_⟩
     refine idx_nil ?_
     replace hst := St.swap (X := lgL q1 key N1) (Y := [_]) (L := []) hst
     simp only [List.cons_append, List.nil_append] at hst
     go_upto_region 16 with (go_big_may; first | (refine L_load1 (d := some 58) rfl rfl rfl (by rfl) Tryd.underlying9 rfl (HC.out _ _ _ hr56) ?_) | (refine L_idxS (d := some 56) rfl rfl rfl (by rfl) (by rfl) Tryd.underlying23 el_api_Note (by (exact hst.old (by decide) HX.out)) (by omega) (by omega) ?_; intro o56 p56 ha56 hr56; ((obtain ⟨h1, h2⟩ := some_addr ha56; subst h1; subst h2; clear ha56))) | (refine L_eqStr (d := some 60) rfl rfl rfl eqG_str Tryd.underlying9 (ev_tmp rfl) (ev_tmp rfl) ?_; (try rw [HS.out])))
     by_cases hix : iu = is
     ·have hx1 : ((iu : Int) == (is : Int)) = true := by simp [hix]
      go_upto_region 17 with (go_big_may; first | (refine L_load1 (d := some 76) rfl rfl rfl (by rfl) Tryd.underlying9 rfl (HC.out _ _ _ hr74) ?_) | (refine L_load1 (d := some 85) rfl rfl rfl (by rfl) Tryd.underlying9 rfl (HC.out _ _ _ hr83) ?_) | (go_at_call_of 21 (Value.string (bsOf u)); (try clear hnew); refine (HIu.out _).mono ?_; rintro e Wk1 ⟨rfl, hnew⟩; replace hst := hst.keep hnew) | (go_at_call_of 21 (Value.string (bsOf s)); (try clear hnew); refine (HIs'.out _).mono ?_; rintro e Wk2 ⟨rfl, hnew⟩; replace hst := hst.keep hnew) | (refine L_idxS (d := some 74) rfl rfl rfl (by rfl) (by rfl) Tryd.underlying23 el_api_Note (by (exact hst.old (by decide) HX.out)) (by omega) (by omega) ?_; intro o74 p74 ha74 hr74; ((obtain ⟨h1, h2⟩ := some_addr ha74; subst h1; subst h2; clear ha74))) | (refine L_neStr (d := some 78) rfl rfl rfl eqG_str Tryd.underlying9 (ev_tmp rfl) (ev_tmp rfl) ?_; (try rw [HSn.out])) | (refine L_idxS (d := some 83) rfl rfl rfl (by rfl) (by rfl) Tryd.underlying23 el_api_Note (by (exact hst.old (by decide) HX.out)) (by omega) (by omega) ?_; intro o83 p83 ha83 hr83; ((obtain ⟨h1, h2⟩ := some_addr ha83; subst h1; subst h2; clear ha83))))
      go_wp2_with (fail)
      go_ret
      exact ⟨rfl, hst.forget⟩
     ·have hx1 : ((iu : Int) == (is : Int)) = false := by simp; omega
      have v7' := HE3.out hix
      have HV := Lib.hid (show TelInv m gl (i + 1) s N1 q1 from ⟨v1', v3', u3, u1, u2, v7'⟩)
      clear u1 u2 u3 v1' v3' v7' hix
      go_upto_region 11 with (go_big_may; first | (refine L_load1 (d := some 76) rfl rfl rfl (by rfl) Tryd.underlying9 rfl (HC.out _ _ _ hr74) ?_) | (refine L_load1 (d := some 85) rfl rfl rfl (by rfl) Tryd.underlying9 rfl (HC.out _ _ _ hr83) ?_) | (go_at_call_of 21 (Value.string (bsOf u)); (try clear hnew); refine (HIu.out _).mono ?_; rintro e Wk3 ⟨rfl, hnew⟩; replace hst := hst.keep hnew) | (go_at_call_of 21 (Value.string (bsOf s)); (try clear hnew); refine (HIs'.out _).mono ?_; rintro e Wk4 ⟨rfl, hnew⟩; replace hst := hst.keep hnew) | (refine L_idxS (d := some 74) rfl rfl rfl (by rfl) (by rfl) Tryd.underlying23 el_api_Note (by (exact hst.old (by decide) HX.out)) (by omega) (by omega) ?_; intro o74 p74 ha74 hr74; ((obtain ⟨h1, h2⟩ := some_addr ha74; subst h1; subst h2; clear ha74))) | (refine L_neStr (d := some 78) rfl rfl rfl eqG_str Tryd.underlying9 (ev_tmp rfl) (ev_tmp rfl) ?_; (try rw [HSn.out])) | (refine L_idxS (d := some 83) rfl rfl rfl (by rfl) (by rfl) Tryd.underlying23 el_api_Note (by (exact hst.old (by decide) HX.out)) (by omega) (by omega) ?_; intro o83 p83 ha83 hr83; ((obtain ⟨h1, h2⟩ := some_addr ha83; subst h1; subst h2; clear ha83))))
      go_wp2_with (fail)
      go_roundg g
      case measure => omega
      case rel => exact ⟨i + 1, N1, q1, c, lk, Lib.hid (by have := HI.out; omega), HV, Lib.hid ⟨by rw [HE.out.1, HC0.out.1], by rw [HE.out.2, HC0.out.2]⟩, rfl, by go_num, hst⟩
   ·have hL1 : addL N u k = N := by unfold addL; rw [if_neg h0]
    rw [hL1] at HA v1' v3'
    simp only [h0, if_false, errV] at HA
    generalize addE N u = r at *
    clear h0 hL1 v1 v3 v4 v5 v6 hi HV
    go_upto_region 12 with (go_big_may; fail)
    refine wp_region_idxT [(0, 0), (1, 0), (2, 0), (3, 0), (4, 0), (5, 0), (6, 0), (7, 2), (8, 2), (9, 2), (10, 2), (11, 1), (12, 2), (13, 0), (14, 0), (15, 2), (16, 2)] (by kernel_rfl) (by kernel_rfl) ?_
    replace hst := hst.drew
    refine idx_q rfl rfl ?_; go_wp2_with fail
    refine idx_q rfl rfl ?_; go_wp2_with fail
    refine idx_q rfl rfl ?_; go_wp2_with fail
    refine idx_q rfl rfl ?_; go_wp2_with ((refine L_idxS (d := some 40) rfl rfl rfl (by rfl) (by rfl) Tryd.underlying23 el_api_Note (by (exact hst.old (by decide) HX.out)) (by omega) (by omega) ?_; intro o40 p40 ha40 hr40; ((subst ha40))))
    refine idx_qf rfl rfl (by kernel_rfl) ?_; go_wp2_with fail
    refine idx_q rfl rfl ?_; go_wp2_with ((refine L_load1 (d := some 42) rfl rfl rfl (by rfl) Tryd.underlying9 rfl (HC.out _ _ _ hr40) ?_))
    refine idx_q rfl rfl ?_; go_wp2_with fail
    refine idx_g rfl ?_; go_wp2_with fail; refine ⟨by (exact Below.refl _ _), ?_⟩
    refine idx_g rfl ?_; go_wp2_with ((refine L_idxS (d := some 45) rfl rfl rfl (by rfl) (by rfl) Tryd.underlying23 el_api_Note (by (exact hst.old (by decide) HX.out)) (by omega) (by omega) ?_; intro o45 p45 ha45 hr45; ((obtain ⟨h1, h2⟩ := some_addr ha45; subst h1; subst h2; clear ha45)))); refine ⟨by (exact Below.refl _ _), ?_⟩
    refine idx_g rfl ?_; go_wp2_with fail; refine ⟨by (exact Below.refl _ _), ?_⟩
    refine idx_g rfl ?_; go_wp2_with ((refine L_loadM (d := some 47) rfl rfl rfl (by rfl) Tryd.underlying30 rfl el_api_Digest (HC2.out _ _ _ hr45) (Dig.size _) ?_)); refine ⟨by (exact Below.refl _ _), ?_⟩
    refine idx_e rfl ?_; go_wp2_with ((go_at_call 24; refine (HA.out _ _ hst).mono ?_; rintro e Wa ⟨rfl, q1, u1, u2, u3, hst'⟩; clear hst; have hst := hst'; clear hst'))
    refine idx_g rfl ?_; go_wp2_with fail; refine ⟨by (exact Below.refl _ _), ?_⟩
    refine idx_q rfl rfl ?_; go_wp2_with fail
    refine idx_q rfl rfl ?_; go_wp2_with fail
    refine idx_g rfl ?_; go_wp2_with fail; refine ⟨by (exact Below.refl _ _), ?_⟩
    refine idx_g rfl ?_; go_wp2_with fail; refine ⟨by (exact Below.refl _ _), ?_⟩
    refine idx_nil ?_
    have HV := Lib.hid (show TelInv m gl (i + 1) s N q1 from ⟨v1', v3', u3, u1, u2, v7⟩)
    clear u1 u2 u3 v1' v3' v7
    replace hst := St.swap (X := lgL q1 key N) (Y := [_]) (L := []) hst
    simp only [List.cons_append, List.nil_append] at hst
    go_upto_region 16 with (first | (with_reducible refine L_pass (t := 54) rfl (by kernel_rfl) ?_) | (with_reducible refine L_pass (t := 55) rfl (by kernel_rfl) ?_) | (with_reducible refine L_pass (t := 56) rfl (by kernel_rfl) ?_) | (with_reducible refine L_pass (t := 57) rfl (by kernel_rfl) ?_) | (with_reducible refine L_pass (t := 58) rfl (by kernel_rfl) ?_) | (with_reducible refine L_pass (t := 59) rfl (by kernel_rfl) ?_) | (with_reducible refine L_pass (t := 60) rfl (by kernel_rfl) ?_))
    go_upto_region 11 with (first | (with_reducible refine L_pass (t := 72) rfl (by kernel_rfl) ?_) | (with_reducible refine L_pass (t := 73) rfl (by kernel_rfl) ?_) | (with_reducible refine L_pass (t := 74) rfl (by kernel_rfl) ?_) | (with_reducible refine L_pass (t := 75) rfl (by kernel_rfl) ?_) | (with_reducible refine L_pass (t := 76) rfl (by kernel_rfl) ?_) | (with_reducible refine L_pass (t := 77) rfl (by kernel_rfl) ?_) | (with_reducible refine L_pass (t := 78) rfl (by kernel_rfl) ?_) | (with_reducible refine L_pass (t := 81) rfl (by kernel_rfl) ?_) | (with_reducible refine L_pass (t := 82) rfl (by kernel_rfl) ?_) | (with_reducible refine L_pass (t := 83) rfl (by kernel_rfl) ?_) | (with_reducible refine L_pass (t := 84) rfl (by kernel_rfl) ?_) | (with_reducible refine L_pass (t := 85) rfl (by kernel_rfl) ?_) | (with_reducible refine L_pass (t := 86) rfl (by kernel_rfl) ?_) | (with_reducible refine L_pass (t := 87) rfl (by kernel_rfl) ?_) | (with_reducible refine L_pass (t := 88) rfl (by kernel_rfl) ?_) | (with_reducible refine L_pass (t := 89) rfl (by kernel_rfl) ?_))
    go_wp2_with (fail)
    go_roundg g
    case measure => omega
    case rel => exact ⟨i + 1, N, q1, c, lk, Lib.hid (by have := HI.out; omega), HV, HC0, rfl, by go_num, hst⟩
  ·obtain rfl : gk = 0 := by omega
   obtain rfl : i = n := by omega
   clear hi
   obtain ⟨v1, v3, v4, v5, v6, v7⟩ := HV.out
   replace hst := St.swap (X := [_]) (Y := lgL q key N) (L := []) hst
   by_cases hs : isNm s = true
   case neg =>
    have hs' : isNm s = false := by simpa using hs
    have HF := Lib.hid (fun (w' : World) (L : List Res) h => find_no key N s q w w' L h hs')
    rw [v5] at HF
    rw [hs'] at HNm
    clear hs hs' v1 v3 v4 v5 v6 v7 HV
    go_upto_region 18 with (go_big_may; fail)
    go_upto_region 19 with (go_big_may; first | (go_at_call 30; refine (HF.out _ _ hst).mono ?_; unfold errV; rintro e Wf ⟨rfl, hst'⟩; clear hst; have hst := hst'; clear hst') | (refine L_allocA (d := some 14) rfl rfl rfl el_api_Found ?_; (try clear hnew); intro g14 W14 hnew; replace hst := hst.trans hnew; simp only [List.cons_append, List.nil_append] at hst) | (refine wpl_at (.store 44 (.tmp 14) (.tmp 95)) rfl ?_; (refine L_storeA rfl rfl hst rfl (by rfl) (ev_tmp rfl) (by (exact fdArr_all _ _ _ _ _ _ _ _ _ _)) el_api_Found (by (rfl)) 0 rfl (by (rfl)) ?_; clear hst; intro WS7 hst; simp only [List.set_cons_zero, List.set_cons_succ] at hst)))
    go_upto_region 20 with (go_big_may; fail)
    go_wp2_with ((go_at_call 31; (try clear hnew); refine (HNm.out _).mono ?_; rintro e Wk5 ⟨rfl, hnew⟩; replace hst := hst.keep hnew))
    go_ret
    exact ⟨rfl, hst.forget⟩
   have HF := Lib.hid (fun (w' : World) (L : List Res) h => by
    have := findU_any key N s q w w' L HT.out h v4 v3 hs
    unfold FindEnd at this
    rw [v5] at this
    exact this)
   have HH := Lib.hid (fun (w' : World) (ht : Tb w') (h : LgAt w' q key N) => by
    have := headK_any key N q w' ht h v4 v3 (by omega)
    rw [v5] at this
    exact this)
   have ht1 := find_turn v3 s
   have hlk := told_look v3 hs v7
   have HLk := Lib.hid (fun (w' : World) (z : Dig) (P1 : Option Addr) (c1 : Nat) (P2 : Option Addr) (c2 : Nat) (ht : Tb w') (h1 : SlR w' P1 (findN N s).path.length c1 32 (digsL (findN N s).path)) (h2 : SlR w' P2 (findN N s).mpath.length c2 32 (digsL (findN N s).mpath)) => by
    have := look_any (N.length : Int) (rootN (lvN N)) (mapN N) z s (findN N s) P1 _ c1 P2 _ c2 w' ht h1 h2 ht1.1 ht1.2
    rw [hlk] at this
    exact this)
   obtain ⟨n1, n2, n3, hn, hcase⟩ := told_case v3 s
   have hlv : lookV (0, lastN? N s) = .tuple #[.agg (ntArr n1 n2 n3), .bool (lastN? N s).isSome, .nilIface] := by
    unfold lookV
    rw [hn]
    rfl
   rw [hlv] at HLk
   rw [← HC0.out.1, ← HC0.out.2] at hcase
   have hcn : c ≤ 40 := by have := cntN_le N s; have := HC0.out.1; omega
   have HCase := Lib.hid hcase
   clear hs v1 v3 v4 v5 v6 v7 HV hlv hn ht1 hlk HNm HC0 hcase
   generalize (lastN? N s).isSome = rb at HLk HCase
   generalize headR key N = hd4 at HH
   generalize rootN (lvN N) = hd2 at HH HLk
   generalize mapN N = hd3 at HH HLk
   generalize findN N s = F at HF HLk
   obtain ⟨⟨f1, f2, f3⟩, f4, f5, f6⟩ := F
   simp only at HF HLk
   go_upto_region 18 with (go_big_may; fail)
   go_upto_region 19 with (go_big_may; first | (go_at_call 30; refine (HF.out _ _ hst).mono ?_; rintro e Wf ⟨P1, c1, P2, c2, rfl, hst'⟩; clear hst; have hst := hst'; clear hst'; simp only [lgL, List.cons_append, List.nil_append] at hst) | (refine L_allocA (d := some 14) rfl rfl rfl el_api_Found ?_; (try clear hnew); intro g14 W14 hnew; replace hst := hst.trans hnew; simp only [List.cons_append, List.nil_append] at hst) | (refine wpl_at (.store 44 (.tmp 14) (.tmp 95)) rfl ?_; (refine L_storeA rfl rfl hst rfl (by rfl) (ev_tmp rfl) (by (exact fdArr_all _ _ _ _ _ _ _ _ _ _)) el_api_Found (by (exact fdArr_size _ _ _ _ _ _ _ _ _ _)) 0 rfl (by (rfl)) ?_; clear hst; intro WS7 hst; simp only [List.set_cons_zero, List.set_cons_succ] at hst)))
   go_upto_region 21 with (go_big_may; fail)
   go_cut [16, 17, 15] (fun s16 s17 s15 wx => ∃ g16, s16 = .pointer (some ⟨g16, 0, none⟩) ∧ s17 = .bool rb ∧ s15 = .nilIface ∧ St w wx [.blk g16 35 (ntArr n1 n2 n3), .blk g10 30 lk.arr])
   case first =>
    clear hnew
    refine wp_region_pm (.one 0 3 (.one 2 3 (.one 3 0 (.two 1 2 (.two 4 2 (.one 5 3 (.one 6 3 (.one 7 3 (.one 8 3 (.one 9 2 (.one 10 1 (.one 11 2 (.one 12 2 .nil)))))))) 9 2 (.one 4 2 (.one 5 2 (.one 6 3 (.one 7 3 (.one 8 3 (.one 10 1 (.one 11 2 (.one 12 2 .nil))))))))) 9 2 (.one 1 2 (.one 4 2 (.one 5 2 (.one 6 3 (.one 7 3 (.one 8 3 (.one 10 1 (.one 11 2 (.one 12 2 .nil))))))))))))) (by kernel_rfl) (by kernel_rfl) ?_
    replace hst := hst.drew
    refine pm_p rfl rfl ?_; go_wp2_with fail
    refine pm_p rfl rfl ?_; go_wp2_with fail
    refine pm_q rfl rfl ?_; go_wp2_with (((refine L_loadA (d := some 106) rfl rfl rfl (by rfl) Tryd.underlying44 rfl el_api_Found (by (exact hst.get 0 rfl)) (by (exact fdArr_size _ _ _ _ _ _ _ _ _ _)) ?_)))
    refine pm_two (ki := 2) (kj := 2) rfl rfl ?_ ?_
    ·go_wp2_with ((go_at_call 14; (try clear hnew); refine (HH.out _ (HT.out.of hst) (by (exact ⟨hst.get 3 rfl, hst.sl 4 rfl, hst.sl 5 rfl, hst.obj 6 rfl, hst.obj 7 rfl⟩))).mono ?_; rintro e Wk6 ⟨rfl, hnew⟩; replace hst := hst.keep hnew)); refine ⟨fun _ => (by (exact hnew.below)), ?_⟩
     refine pm_two (ki := 2) (kj := 2) rfl rfl ?_ ?_
     ·go_wp2_with ((go_at_call 18; (try clear hnew); refine (HLk.out _ _ _ _ _ _ (HT.out.of hst) (by (exact hst.sl 1 rfl)) (by (exact hst.sl 2 rfl))).mono ?_; rintro e Wk7 ⟨rfl, hnew⟩; replace hst := hst.keep hnew)); refine ⟨fun _ => (by (exact hnew.below)), ?_⟩
      refine pm_p rfl rfl ?_; go_wp2_with fail
      refine pm_p rfl rfl ?_; go_wp2_with fail
      refine pm_p rfl rfl ?_; go_wp2_with fail
      refine pm_p rfl rfl ?_; go_wp2_with fail
      refine pm_g rfl ?_; go_wp2_with ((refine L_allocA (d := some 16) rfl rfl rfl el_api_Note ?_; (try clear hnew); intro g16 W16 hnew; replace hst := hst.trans hnew; simp only [List.cons_append, List.nil_append] at hst)); refine ⟨by (exact hnew.below), ?_⟩
      refine pm_e rfl ?_; go_wp2_with ((refine wpl_at (.store 35 (.tmp 16) (.tmp 108)) rfl ?_; (refine L_storeA rfl rfl hst rfl (by rfl) (ev_tmp rfl) (by (exact ntArr_all _ _ _)) el_api_Note (by (exact ntArr_size _ _ _)) 0 rfl (by (rfl)) ?_; clear hst; intro WS10 hst; simp only [List.set_cons_zero, List.set_cons_succ] at hst)))
      refine pm_g rfl ?_; go_wp2_with fail; refine ⟨by (exact Below.refl _ _), ?_⟩
      refine pm_g rfl ?_; go_wp2_with fail; refine ⟨by (exact Below.refl _ _), ?_⟩
      refine pm_nil ?_
      go_wp2_with fail
      go_meet
      case rel => exact ⟨_, rfl, rfl, rfl, hst.pick [0, 9] (by decide)⟩
     ·go_wp2_with ((refine L_allocA (d := some 16) rfl rfl rfl el_api_Note ?_; (try clear hnew); intro g16 W16 hnew; replace hst := hst.trans hnew; simp only [List.cons_append, List.nil_append] at hst)); refine ⟨fun _ => (by (exact hnew.below)), ?_⟩
      refine pm_g rfl ?_; go_wp2_with ((go_at_call 18; (try clear hnew); refine (HLk.out _ _ _ _ _ _ (HT.out.of hst) (by (exact hst.sl 2 rfl)) (by (exact hst.sl 3 rfl))).mono ?_; rintro e Wk7 ⟨rfl, hnew⟩; replace hst := hst.keep hnew)); refine ⟨by (exact hnew.below), ?_⟩
      refine pm_g rfl ?_; go_wp2_with fail; refine ⟨by (exact Below.refl _ _), ?_⟩
      refine pm_p rfl rfl ?_; go_wp2_with fail
      refine pm_p rfl rfl ?_; go_wp2_with fail
      refine pm_p rfl rfl ?_; go_wp2_with fail
      refine pm_e rfl ?_; go_wp2_with ((refine wpl_at (.store 35 (.tmp 16) (.tmp 108)) rfl ?_; (refine L_storeA rfl rfl hst rfl (by rfl) (ev_tmp rfl) (by (exact ntArr_all _ _ _)) el_api_Note (by (exact ntArr_size _ _ _)) 0 rfl (by (rfl)) ?_; clear hst; intro WS10 hst; simp only [List.set_cons_zero, List.set_cons_succ] at hst)))
      refine pm_g rfl ?_; go_wp2_with fail; refine ⟨by (exact Below.refl _ _), ?_⟩
      refine pm_g rfl ?_; go_wp2_with fail; refine ⟨by (exact Below.refl _ _), ?_⟩
      refine pm_nil ?_
      go_wp2_with fail
      go_meet
      case rel => exact ⟨_, rfl, rfl, rfl, hst.pick [0, 9] (by decide)⟩
    ·go_wp2_with ((refine L_allocA (d := some 16) rfl rfl rfl el_api_Note ?_; (try clear hnew); intro g16 W16 hnew; replace hst := hst.trans hnew; simp only [List.cons_append, List.nil_append] at hst)); refine ⟨fun _ => (by (exact hnew.below)), ?_⟩
     refine pm_g rfl ?_; go_wp2_with ((go_at_call 14; (try clear hnew); refine (HH.out _ (HT.out.of hst) (by (exact ⟨hst.get 4 rfl, hst.sl 5 rfl, hst.sl 6 rfl, hst.obj 7 rfl, hst.obj 8 rfl⟩))).mono ?_; rintro e Wk6 ⟨rfl, hnew⟩; replace hst := hst.keep hnew)); refine ⟨by (exact hnew.below), ?_⟩
     refine pm_g rfl ?_; go_wp2_with ((go_at_call 18; (try clear hnew); refine (HLk.out _ _ _ _ _ _ (HT.out.of hst) (by (exact hst.sl 2 rfl)) (by (exact hst.sl 3 rfl))).mono ?_; rintro e Wk7 ⟨rfl, hnew⟩; replace hst := hst.keep hnew)); refine ⟨by (exact hnew.below), ?_⟩
     refine pm_g rfl ?_; go_wp2_with fail; refine ⟨by (exact Below.refl _ _), ?_⟩
     refine pm_p rfl rfl ?_; go_wp2_with fail
     refine pm_p rfl rfl ?_; go_wp2_with fail
     refine pm_p rfl rfl ?_; go_wp2_with fail
     refine pm_e rfl ?_; go_wp2_with ((refine wpl_at (.store 35 (.tmp 16) (.tmp 108)) rfl ?_; (refine L_storeA rfl rfl hst rfl (by rfl) (ev_tmp rfl) (by (exact ntArr_all _ _ _)) el_api_Note (by (exact ntArr_size _ _ _)) 0 rfl (by (rfl)) ?_; clear hst; intro WS10 hst; simp only [List.set_cons_zero, List.set_cons_succ] at hst)))
     refine pm_g rfl ?_; go_wp2_with fail; refine ⟨by (exact Below.refl _ _), ?_⟩
     refine pm_g rfl ?_; go_wp2_with fail; refine ⟨by (exact Below.refl _ _), ?_⟩
     refine pm_nil ?_
     go_wp2_with fail
     go_meet
     case rel => exact ⟨_, rfl, rfl, rfl, hst.pick [0, 9] (by decide)⟩
   case rest =>
    obtain ⟨g16, rfl, rfl, rfl, hst⟩ := hcut
    clear HF HH HLk HIs
    rcases HCase.out with ⟨h1, h2⟩ | ⟨h1, h2, h3, h4, h5⟩
    ·subst h1
     subst h2
     go_upto_region 24 with (go_big_may; fail)
     go_wp2_with (first | (with_reducible refine L_pass (t := 122) rfl (by kernel_rfl) ?_) | (with_reducible refine L_pass (t := 123) rfl (by kernel_rfl) ?_) | (with_reducible refine L_pass (t := 125) rfl (by kernel_rfl) ?_) | (with_reducible refine L_pass (t := 127) rfl (by kernel_rfl) ?_) | (with_reducible refine L_pass (t := 128) rfl (by kernel_rfl) ?_) | (with_reducible refine L_pass (t := 129) rfl (by kernel_rfl) ?_) | (with_reducible refine L_pass (t := 130) rfl (by kernel_rfl) ?_))
     go_ret
     exact ⟨rfl, hst.forget⟩
    ·subst h1
     subst h3
     subst h4
     subst h5
     have h2' : (0 : Int) < (c : Int) := by omega
     have HSS := Lib.hid (show decide (n1 = n1) = true from decide_eq_true rfl)
     have HDD := Lib.hid (show decide (n2 = n2) = true from decide_eq_true rfl)
     go_upto_region 24 with (go_big_may; fail)
     go_wp2_with (first | (refine L_load1 (d := some 123) rfl rfl rfl (by rfl) Tryd.underlying9 rfl (by (exact cell_of (hst.get 0 rfl) ntArr_0)) ?_) | (refine L_eqStr (d := some 125) rfl rfl rfl eqG_str Tryd.underlying9 (ev_tmp rfl) (ev_tmp rfl) ?_; (try rw [HSS.out])) | ((refine L_loadM (d := some 128) rfl rfl rfl (by rfl) Tryd.underlying30 rfl el_api_Digest (by (exact ntArr_key (hst.get 0 rfl))) (by (exact Dig.size _)) ?_)) | ((refine L_loadA (d := some 129) rfl rfl rfl (by rfl) Tryd.underlying30 rfl el_api_Digest (by (exact hst.get 1 rfl)) (by (exact Dig.size _)) ?_)) | (refine L_eqD (d := some 130) rfl rfl rfl Tryd.underlying30 Tryd.underlying5 el_uint8 eqG_D (ev_tmp rfl) (ev_tmp rfl) ?_; (try rw [HDD.out])) | (refine L_load1 (d := some 134) rfl rfl rfl (by rfl) Tryd.underlying3 rfl (by (exact cell_of (hst.get 0 rfl) ntArr_33)) ?_))
     go_ret
     exact ⟨rfl, hst.forget⟩
end Go.Proofs.YtaebeemnipafbaaDoor

set_option maxRecDepth 20000
set_option linter.unusedSimpArgs false
set_option linter.unusedVariables false
namespace Go.Proofs.YtaebeemnipafbaaDoor
open Go.RowKit
set_option maxHeartbeats 1000000 in
theorem told_tag_any (key : List UInt8) (K : Option Addr) (m mc : Nat) (n : Int) (x y z : Dig) (w : World) (hn1 : -9223372036854775808 ≤ n) (hn2 : n ≤ 9223372036854775807) (hT : Tb w) (hk : SlR w K m mc 1 (bytesL key)) (hm : m ≤ 140737488355000) :
  Calls Tryd.prog 42 #[.slice K m mc, .agg (hdArr n x y z)] w fun e w' => e = .returned (.bool (decide (z = tagN key n x y))) ∧ St w w' [] := by
 have hst := St.refl w
 have HC := Lib.hid (fun (w' : World) (ht : Tb w') (h1 : SlR w' K m mc 1 (bytesL key)) => tag_any key K m mc n x y z w' hn1 hn2 ht h1 hm)
 generalize tagN key n x y = tg at *
 have HT := Lib.hid hT
 clear hT hn1 hn2 hm
 go_enter Tryd.func42, Tryd.ntmps42
 go_upto_region 1 with (first
  | (refine L_boxA (d := some 3) rfl rfl rfl (ev_tmp rfl) ?_; (try clear hnew); intro g3 W3 hnew; replace hst := hst.trans hnew; simp only [List.cons_append, List.nil_append] at hst)
  | fail)
 refine wp_region_pm (.one 2 3 (.one 0 0 (.one 1 0 (.one 3 2 (.one 4 2 (.one 5 2 (.one 6 2 .nil))))))) (by kernel_rfl) (by kernel_rfl) ?_
 replace hst := hst.drew
 refine pm_p rfl rfl ?_; go_wp2_with fail
 refine pm_qf rfl rfl (by kernel_rfl) ?_; go_wp2_with fail
 refine pm_q rfl rfl ?_; go_wp2_with (first | (first | (refine L_loadA (d := some 6) rfl rfl rfl (by rfl) Tryd.underlying30 rfl el_api_Digest (by first | exact hst.get 0 rfl) (by first | exact Dig.size _ | exact hdArr_size _ _ _ _ | rfl | (simp; done)) ?_) | (refine L_loadM (d := some 6) rfl rfl rfl (by rfl) Tryd.underlying30 rfl el_api_Digest (by first | assumption | exact hdArr_tag (hst.get 0 rfl)) (by first | exact Dig.size _ | exact hdArr_size _ _ _ _ | rfl | (simp; done)) ?_)) | fail)
 refine pm_g rfl ?_; go_wp2_with (first | (first | (refine L_loadA (d := some 8) rfl rfl rfl (by rfl) Tryd.underlying32 rfl el_api_Head (by first | exact hst.get 0 rfl) (by first | exact Dig.size _ | exact hdArr_size _ _ _ _ | rfl | (simp; done)) ?_) | (refine L_loadM (d := some 8) rfl rfl rfl (by rfl) Tryd.underlying32 rfl el_api_Head (by first | assumption | exact hdArr_tag (hst.get 0 rfl)) (by first | exact Dig.size _ | exact hdArr_size _ _ _ _ | rfl | (simp; done)) ?_)) | fail); refine ⟨by first | exact Below.refl _ _ | exact hnew.below, ?_⟩
 refine pm_g rfl ?_; go_wp2_with (first | (go_at_call 29; refine (HC.out _ (HT.out.of hst) (hst.old (by decide) hk)).mono ?_; rintro e Wt ⟨rfl, hnew⟩; replace hst := hst.keep hnew) | fail); refine ⟨by first | exact Below.refl _ _ | exact hnew.below, ?_⟩
 refine pm_g rfl ?_; go_wp2_with (first | (go_at_call 29; refine (HC.out _ (HT.out.of hst) (hst.old (by decide) hk)).mono ?_; rintro e Wt ⟨rfl, hnew⟩; replace hst := hst.keep hnew) | (refine L_eqD (d := some 10) rfl rfl rfl Tryd.underlying30 Tryd.underlying5 el_uint8 eqG_D (ev_tmp rfl) (ev_tmp rfl) ?_) | fail); refine ⟨by first | exact Below.refl _ _ | exact hnew.below, ?_⟩
 refine pm_g rfl ?_; go_wp2_with fail; refine ⟨by first | exact Below.refl _ _ | exact hnew.below, ?_⟩
 refine pm_nil ?_
 go_wp2_with fail
 go_ret
 exact ⟨rfl, hst.forget⟩
end Go.Proofs.YtaebeemnipafbaaDoor

set_option linter.unusedSimpArgs false
set_option linter.unusedVariables false
namespace Go.Proofs.YtaebeemnipafbaaDoor
open Go.RowKit
def pinAft (r : Nat) (a b : Array Value) : Array Value := if r = 0 then b else a
attribute [local simp] pinArr_size hdArr_size
set_option maxHeartbeats 40000000 in
set_option maxRecDepth 100000 in
theorem ptake_gen (key : List UInt8) (g : Nat) (O : Option Addr) (m oc : Nat) (n0 : Int) (x0 y0 z0 : Dig) (n : Int) (x y z : Dig) (p : List Dig) (P : Option Addr) (k pc : Nat) (w0 w : World) (L : List Res) (hT : Tb w0) (hl : p.length = k) (hp : ∀ (W' : World) (X : List Res), St w0 W' (X ++ L) → SlR W' P k pc 32 (digsL p))
  (hst : St w0 w (.blk g 121 (pinArr O m oc n0 x0 y0 z0) :: .row O m oc 5 1 (bytesL key) :: L)) (hm : m ≤ 140737488355000) (hn1 : -9223372036854775808 ≤ n) (hn2 : n ≤ 9223372036854775807) (h0 : 0 ≤ n0) :
  Calls Tryd.prog 27 #[.pointer (some ⟨g, 0, none⟩), .agg (hdArr n x y z), .slice P k pc] w fun e w' => e = .returned (errO (takeN key n0 x0 y0 n x y z p)) ∧
   St w0 w' (.blk g 121 (pinAft (takeN key n0 x0 y0 n x y z p) (pinArr O m oc n0 x0 y0 z0) (pinArr O m oc n x y z)) :: .row O m oc 5 1 (bytesL key) :: L) := by
 have HT := Lib.hid hT
 have HC := Lib.hid (fun (w' : World) (ht : Tb w') (h1 : SlR w' O m oc 1 (bytesL key)) => told_tag_any key O m oc n x y z w' hn1 hn2 ht h1 hm)
 clear hT hn1 hn2 hm
 have HK := Lib.hid (fun (w' : World) (ht : Tb w') (hs : SlR w' P k pc 32 (digsL p)) => check_all n0 n x0 x p P k pc w' ht hs)
 obtain ⟨r, hr⟩ : ∃ r, r = takeN key n0 x0 y0 n x y z p := ⟨_, rfl⟩
 rw [← hr]
 unfold takeN at hr
 by_cases c1 : z = tagN key n x y
 ·rw [if_pos c1] at hr
  rw [decide_eq_true c1] at HC
  clear c1
  have HR := Lib.hid hr
  clear hr
  have hl0 := Lib.hid hl
  have h00 := Lib.hid h0
  clear hl h0
  go_enter Tryd.func27, Tryd.ntmps27
  go_upto_region 1 with (go_big_may; (refine L_boxA (d := some 4) rfl rfl rfl (ev_tmp rfl) ?_; (try clear hnew); intro g4 W4 hnew; replace hst := hst.trans hnew; simp only [List.cons_append, List.nil_append] at hst))
  go_upto_region 2 with (go_big_may; first | ((refine L_loadM (d := some 11) rfl rfl rfl (by rfl) Tryd.underlying32 rfl el_api_Head (by (exact pinArr_head (hst.get 1 rfl))) (by (exact hdArr_size _ _ _ _)) ?_)) | (refine L_allocA (d := some 7) rfl rfl rfl el_api_Head ?_; (try clear hnew); intro g7 W7 hnew; replace hst := hst.trans hnew; simp only [List.cons_append, List.nil_append] at hst) | (refine wpl_at (.store 32 (.tmp 7) (.tmp 11)) rfl ?_; (refine L_storeA rfl rfl hst rfl (by rfl) (ev_tmp rfl) (by (exact hdArr_all _ _ _ _)) el_api_Head (by (exact hdArr_size _ _ _ _)) 0 rfl (by (rfl)) ?_; clear hst; intro WS5 hst; simp only [List.set_cons_zero, List.set_cons_succ] at hst)))
  refine wp_region_idx [(0, 0), (1, 0), (2, 0), (3, 0), (4, 2), (5, 2), (6, 2), (7, 2)] (by kernel_rfl) (by kernel_rfl) ?_
  replace hst := hst.drew
  refine idx_q rfl rfl ?_; go_wp2_with fail
  refine idx_q rfl rfl ?_; go_wp2_with fail
  refine idx_qf rfl rfl (by kernel_rfl) ?_; go_wp2_with fail
  refine idx_q rfl rfl ?_; go_wp2_with ((refine L_load1 (d := some 16) rfl rfl rfl (by rfl) Tryd.underlying22 rfl (by (exact cell_of (hst.get 2 rfl) pinArr_0)) ?_))
  refine idx_g rfl ?_; go_wp2_with (((refine L_loadA (d := some 17) rfl rfl rfl (by rfl) Tryd.underlying32 rfl el_api_Head (by (exact hst.get 1 rfl)) (by (exact hdArr_size _ _ _ _)) ?_))); refine ⟨by (exact Below.refl _ _), ?_⟩
  refine idx_g rfl ?_; go_wp2_with ((go_at_call 42; refine (HC.out _ (HT.out.of hst) (hst.sl 3 rfl)).mono ?_; rintro e Wt ⟨rfl, hnew⟩; replace hst := hst.keep hnew)); refine ⟨by (exact hnew.below), ?_⟩
  refine idx_g rfl ?_; go_wp2_with fail; refine ⟨by (exact Below.refl _ _), ?_⟩
  refine idx_g rfl ?_; go_wp2_with fail; refine ⟨by (exact Below.refl _ _), ?_⟩
  refine idx_nil ?_
  by_cases c2 : n < 0
  ·have hr := HR.out
   clear HR
   rw [if_pos (Or.inl c2)] at hr
   have HR := Lib.hid hr
   clear hr
   go_upto_region 5 with (go_big_may; (refine L_load1 (d := some 23) rfl rfl rfl (by rfl) Tryd.underlying3 rfl (by (exact cell_of (hst.get 1 rfl) hdArr_0)) ?_))
   go_wp2_with (fail)
   go_ret
   obtain rfl : r = 2 := HR.out
   refine ⟨?_, hst.tail.tail⟩
   show _ = Ending.returned (errV 2)
   rfl
  by_cases c3 : 256 < n
  ·have hr := HR.out
   clear HR
   rw [if_pos (Or.inr c3)] at hr
   have HR := Lib.hid hr
   clear hr
   go_upto_region 5 with (go_big_may; first | (refine L_load1 (d := some 23) rfl rfl rfl (by rfl) Tryd.underlying3 rfl (by (exact cell_of (hst.get 1 rfl) hdArr_0)) ?_) | (refine L_load1 (d := some 27) rfl rfl rfl (by rfl) Tryd.underlying3 rfl (by (exact cell_of (hst.get 1 rfl) hdArr_0)) ?_))
   go_wp2_with (fail)
   go_ret
   obtain rfl : r = 2 := HR.out
   refine ⟨?_, hst.tail.tail⟩
   show _ = Ending.returned (errV 2)
   rfl
  have hr := HR.out
  clear HR
  rw [if_neg (not_or.2 ⟨c2, c3⟩)] at hr
  have HR := Lib.hid hr
  clear hr
  by_cases c4 : n < n0
  ·have hr := HR.out
   clear HR
   rw [if_pos c4] at hr
   have HR := Lib.hid hr
   clear hr
   go_upto_region 6 with (go_big_may; first | (refine L_load1 (d := some 23) rfl rfl rfl (by rfl) Tryd.underlying3 rfl (by (exact cell_of (hst.get 1 rfl) hdArr_0)) ?_) | (refine L_load1 (d := some 27) rfl rfl rfl (by rfl) Tryd.underlying3 rfl (by (exact cell_of (hst.get 1 rfl) hdArr_0)) ?_))
   go_upto_region 7 with (go_big_may; first | (refine L_load1 (d := some 33) rfl rfl rfl (by rfl) Tryd.underlying3 rfl (by (exact cell_of (hst.get 1 rfl) hdArr_0)) ?_) | (refine L_load1 (d := some 35) rfl rfl rfl (by rfl) Tryd.underlying3 rfl (by (exact cell_of (hst.get 0 rfl) hdArr_0)) ?_))
   go_wp2_with (fail)
   go_ret
   obtain rfl : r = 8 := HR.out
   refine ⟨?_, hst.tail.tail⟩
   show _ = Ending.returned (errV 8)
   rfl
  have hr := HR.out
  clear HR
  rw [if_neg c4] at hr
  have HR := Lib.hid hr
  clear hr
  by_cases c5 : n = n0
  ·subst c5
   have hr := HR.out
   clear HR
   rw [if_pos rfl] at hr
   have HR := Lib.hid hr
   clear hr
   by_cases c6 : x = x0
   ·have hx := dNe x0
    subst c6
    by_cases c7 : y = y0
    ·subst c7
     have hr := HR.out
     clear HR
     rw [if_pos ⟨rfl, rfl⟩] at hr
     have HR := Lib.hid hr
     clear hr
     go_upto_region 6 with (go_big_may; first | (refine L_load1 (d := some 23) rfl rfl rfl (by rfl) Tryd.underlying3 rfl (by (exact cell_of (hst.get 1 rfl) hdArr_0)) ?_) | (refine L_load1 (d := some 27) rfl rfl rfl (by rfl) Tryd.underlying3 rfl (by (exact cell_of (hst.get 1 rfl) hdArr_0)) ?_))
     go_upto_region 8 with (go_big_may; first | (refine L_load1 (d := some 33) rfl rfl rfl (by rfl) Tryd.underlying3 rfl (by (exact cell_of (hst.get 1 rfl) hdArr_0)) ?_) | (refine L_load1 (d := some 35) rfl rfl rfl (by rfl) Tryd.underlying3 rfl (by (exact cell_of (hst.get 0 rfl) hdArr_0)) ?_))
     go_upto_region 9 with (go_big_may; first | (refine L_load1 (d := some 40) rfl rfl rfl (by rfl) Tryd.underlying3 rfl (by (exact cell_of (hst.get 1 rfl) hdArr_0)) ?_) | (refine L_load1 (d := some 42) rfl rfl rfl (by rfl) Tryd.underlying3 rfl (by (exact cell_of (hst.get 0 rfl) hdArr_0)) ?_))
     go_upto_region 16 with (go_big_may; first | ((refine L_loadM (d := some 45) rfl rfl rfl (by rfl) Tryd.underlying30 rfl el_api_Digest (by (exact hdArr_root (hst.get 1 rfl))) (by (exact Dig.size _)) ?_)) | ((refine L_loadM (d := some 47) rfl rfl rfl (by rfl) Tryd.underlying30 rfl el_api_Digest (by (exact hdArr_root (hst.get 0 rfl))) (by (exact Dig.size _)) ?_)) | (refine L_neD (d := some 48) rfl rfl rfl Tryd.underlying30 Tryd.underlying5 el_uint8 eqG_D (ev_tmp rfl) (ev_tmp rfl) ?_; (try rw [dNe _])) | ((refine L_loadM (d := some 51) rfl rfl rfl (by rfl) Tryd.underlying30 rfl el_api_Digest (by (exact hdArr_map (hst.get 1 rfl))) (by (exact Dig.size _)) ?_)) | ((refine L_loadM (d := some 53) rfl rfl rfl (by rfl) Tryd.underlying30 rfl el_api_Digest (by (exact hdArr_map (hst.get 0 rfl))) (by (exact Dig.size _)) ?_)) | (refine L_neD (d := some 54) rfl rfl rfl Tryd.underlying30 Tryd.underlying5 el_uint8 eqG_D (ev_tmp rfl) (ev_tmp rfl) ?_; (try rw [dNe _])))
     go_upto_region 17 with (go_big_may; first | ((refine L_loadA (d := some 79) rfl rfl rfl (by rfl) Tryd.underlying32 rfl el_api_Head (by (exact hst.get 1 rfl)) (by (exact hdArr_size _ _ _ _)) ?_)) | (refine wpl_at (.store 32 (.tmp 81) (.tmp 79)) rfl ?_; (refine L_storeM rfl rfl hst rfl (by rfl) (ev_tmp rfl) (by (exact hdArr_all _ _ _ _)) el_api_Head (by (exact hdArr_size _ _ _ _)) 2 rfl (by (simp; done)) ?_; clear hst; intro WS4 hst; simp only [List.set_cons_zero, List.set_cons_succ, pinArr_put _ _ _ _ _ _ _ _ _ _ _] at hst)))
     go_wp2_with (fail)
     go_ret
     obtain rfl : r = 0 := HR.out
     refine ⟨?_, hst.tail.tail⟩
     show _ = Ending.returned .nilIface
     rfl
    ·have hr := HR.out
     clear HR
     rw [if_neg (fun h => c7 h.2)] at hr
     have HR := Lib.hid hr
     clear hr
     go_upto_region 6 with (go_big_may; first | (refine L_load1 (d := some 23) rfl rfl rfl (by rfl) Tryd.underlying3 rfl (by (exact cell_of (hst.get 1 rfl) hdArr_0)) ?_) | (refine L_load1 (d := some 27) rfl rfl rfl (by rfl) Tryd.underlying3 rfl (by (exact cell_of (hst.get 1 rfl) hdArr_0)) ?_))
     go_upto_region 8 with (go_big_may; first | (refine L_load1 (d := some 33) rfl rfl rfl (by rfl) Tryd.underlying3 rfl (by (exact cell_of (hst.get 1 rfl) hdArr_0)) ?_) | (refine L_load1 (d := some 35) rfl rfl rfl (by rfl) Tryd.underlying3 rfl (by (exact cell_of (hst.get 0 rfl) hdArr_0)) ?_))
     go_upto_region 9 with (go_big_may; first | (refine L_load1 (d := some 40) rfl rfl rfl (by rfl) Tryd.underlying3 rfl (by (exact cell_of (hst.get 1 rfl) hdArr_0)) ?_) | (refine L_load1 (d := some 42) rfl rfl rfl (by rfl) Tryd.underlying3 rfl (by (exact cell_of (hst.get 0 rfl) hdArr_0)) ?_))
     go_upto_region 10 with (go_big_may; first | ((refine L_loadM (d := some 45) rfl rfl rfl (by rfl) Tryd.underlying30 rfl el_api_Digest (by (exact hdArr_root (hst.get 1 rfl))) (by (exact Dig.size _)) ?_)) | ((refine L_loadM (d := some 47) rfl rfl rfl (by rfl) Tryd.underlying30 rfl el_api_Digest (by (exact hdArr_root (hst.get 0 rfl))) (by (exact Dig.size _)) ?_)) | (refine L_neD (d := some 48) rfl rfl rfl Tryd.underlying30 Tryd.underlying5 el_uint8 eqG_D (ev_tmp rfl) (ev_tmp rfl) ?_; (try rw [dNe _])) | ((refine L_loadM (d := some 51) rfl rfl rfl (by rfl) Tryd.underlying30 rfl el_api_Digest (by (exact hdArr_map (hst.get 1 rfl))) (by (exact Dig.size _)) ?_)) | ((refine L_loadM (d := some 53) rfl rfl rfl (by rfl) Tryd.underlying30 rfl el_api_Digest (by (exact hdArr_map (hst.get 0 rfl))) (by (exact Dig.size _)) ?_)) | (refine L_neD (d := some 54) rfl rfl rfl Tryd.underlying30 Tryd.underlying5 el_uint8 eqG_D (ev_tmp rfl) (ev_tmp rfl) ?_; (try rw [dNe _])))
     go_wp2_with (fail)
     go_ret
     obtain rfl : r = 9 := HR.out
     refine ⟨?_, hst.tail.tail⟩
     show _ = Ending.returned (errV 9)
     rfl
   ·have hr := HR.out
    clear HR
    rw [if_neg (fun h => c6 h.1)] at hr
    have HR := Lib.hid hr
    clear hr
    go_upto_region 6 with (go_big_may; first | (refine L_load1 (d := some 23) rfl rfl rfl (by rfl) Tryd.underlying3 rfl (by (exact cell_of (hst.get 1 rfl) hdArr_0)) ?_) | (refine L_load1 (d := some 27) rfl rfl rfl (by rfl) Tryd.underlying3 rfl (by (exact cell_of (hst.get 1 rfl) hdArr_0)) ?_))
    go_upto_region 8 with (go_big_may; first | (refine L_load1 (d := some 33) rfl rfl rfl (by rfl) Tryd.underlying3 rfl (by (exact cell_of (hst.get 1 rfl) hdArr_0)) ?_) | (refine L_load1 (d := some 35) rfl rfl rfl (by rfl) Tryd.underlying3 rfl (by (exact cell_of (hst.get 0 rfl) hdArr_0)) ?_))
    go_upto_region 9 with (go_big_may; first | (refine L_load1 (d := some 40) rfl rfl rfl (by rfl) Tryd.underlying3 rfl (by (exact cell_of (hst.get 1 rfl) hdArr_0)) ?_) | (refine L_load1 (d := some 42) rfl rfl rfl (by rfl) Tryd.underlying3 rfl (by (exact cell_of (hst.get 0 rfl) hdArr_0)) ?_))
    go_upto_region 10 with (go_big_may; first | ((refine L_loadM (d := some 45) rfl rfl rfl (by rfl) Tryd.underlying30 rfl el_api_Digest (by (exact hdArr_root (hst.get 1 rfl))) (by (exact Dig.size _)) ?_)) | ((refine L_loadM (d := some 47) rfl rfl rfl (by rfl) Tryd.underlying30 rfl el_api_Digest (by (exact hdArr_root (hst.get 0 rfl))) (by (exact Dig.size _)) ?_)) | (refine L_neD (d := some 48) rfl rfl rfl Tryd.underlying30 Tryd.underlying5 el_uint8 eqG_D (ev_tmp rfl) (ev_tmp rfl) ?_))
    go_wp2_with (fail)
    go_ret
    obtain rfl : r = 9 := HR.out
    refine ⟨?_, hst.tail.tail⟩
    show _ = Ending.returned (errV 9)
    rfl
  have hr := HR.out
  clear HR
  rw [if_neg c5] at hr
  have HR := Lib.hid hr
  clear hr
  by_cases c6 : n0 = 0
  ·subst c6
   have hr := HR.out
   clear HR
   rw [if_pos rfl] at hr
   have HR := Lib.hid hr
   clear hr
   have hl := hl0.out
   by_cases c7 : p = []
   ·subst c7
    obtain rfl : k = 0 := by simpa using hl.symm
    clear hl hl0
    have hr := HR.out
    clear HR
    rw [if_pos rfl] at hr
    have HR := Lib.hid hr
    clear hr
    go_upto_region 6 with (go_big_may; first | (refine L_load1 (d := some 23) rfl rfl rfl (by rfl) Tryd.underlying3 rfl (by (exact cell_of (hst.get 1 rfl) hdArr_0)) ?_) | (refine L_load1 (d := some 27) rfl rfl rfl (by rfl) Tryd.underlying3 rfl (by (exact cell_of (hst.get 1 rfl) hdArr_0)) ?_))
    go_upto_region 8 with (go_big_may; first | (refine L_load1 (d := some 33) rfl rfl rfl (by rfl) Tryd.underlying3 rfl (by (exact cell_of (hst.get 1 rfl) hdArr_0)) ?_) | (refine L_load1 (d := some 35) rfl rfl rfl (by rfl) Tryd.underlying3 rfl (by (exact cell_of (hst.get 0 rfl) hdArr_0)) ?_))
    go_upto_region 11 with (go_big_may; first | (refine L_load1 (d := some 40) rfl rfl rfl (by rfl) Tryd.underlying3 rfl (by (exact cell_of (hst.get 1 rfl) hdArr_0)) ?_) | (refine L_load1 (d := some 42) rfl rfl rfl (by rfl) Tryd.underlying3 rfl (by (exact cell_of (hst.get 0 rfl) hdArr_0)) ?_))
    go_upto_region 12 with (go_big_may; (refine L_load1 (d := some 59) rfl rfl rfl (by rfl) Tryd.underlying3 rfl (by (exact cell_of (hst.get 0 rfl) hdArr_0)) ?_))
    go_upto_region 16 with (go_big_may; fail)
    go_upto_region 17 with (go_big_may; first | ((refine L_loadA (d := some 79) rfl rfl rfl (by rfl) Tryd.underlying32 rfl el_api_Head (by (exact hst.get 1 rfl)) (by (exact hdArr_size _ _ _ _)) ?_)) | (refine wpl_at (.store 32 (.tmp 81) (.tmp 79)) rfl ?_; (refine L_storeM rfl rfl hst rfl (by rfl) (ev_tmp rfl) (by (exact hdArr_all _ _ _ _)) el_api_Head (by (exact hdArr_size _ _ _ _)) 2 rfl (by (simp; done)) ?_; clear hst; intro WS4 hst; simp only [List.set_cons_zero, List.set_cons_succ, pinArr_put _ _ _ _ _ _ _ _ _ _ _] at hst)))
    go_wp2_with (fail)
    go_ret
    obtain rfl : r = 0 := HR.out
    refine ⟨?_, hst.tail.tail⟩
    show _ = Ending.returned .nilIface
    rfl
   ·have hk0 : (0 : Int) < (k : Int) := by
     have := List.length_pos_iff.2 c7
     omega
    clear hl hl0
    have hr := HR.out
    clear HR
    rw [if_neg c7] at hr
    have HR := Lib.hid hr
    clear hr
    go_upto_region 6 with (go_big_may; first | (refine L_load1 (d := some 23) rfl rfl rfl (by rfl) Tryd.underlying3 rfl (by (exact cell_of (hst.get 1 rfl) hdArr_0)) ?_) | (refine L_load1 (d := some 27) rfl rfl rfl (by rfl) Tryd.underlying3 rfl (by (exact cell_of (hst.get 1 rfl) hdArr_0)) ?_))
    go_upto_region 8 with (go_big_may; first | (refine L_load1 (d := some 33) rfl rfl rfl (by rfl) Tryd.underlying3 rfl (by (exact cell_of (hst.get 1 rfl) hdArr_0)) ?_) | (refine L_load1 (d := some 35) rfl rfl rfl (by rfl) Tryd.underlying3 rfl (by (exact cell_of (hst.get 0 rfl) hdArr_0)) ?_))
    go_upto_region 11 with (go_big_may; first | (refine L_load1 (d := some 40) rfl rfl rfl (by rfl) Tryd.underlying3 rfl (by (exact cell_of (hst.get 1 rfl) hdArr_0)) ?_) | (refine L_load1 (d := some 42) rfl rfl rfl (by rfl) Tryd.underlying3 rfl (by (exact cell_of (hst.get 0 rfl) hdArr_0)) ?_))
    go_upto_region 12 with (go_big_may; (refine L_load1 (d := some 59) rfl rfl rfl (by rfl) Tryd.underlying3 rfl (by (exact cell_of (hst.get 0 rfl) hdArr_0)) ?_))
    go_upto_region 13 with (go_big_may; fail)
    go_wp2_with (fail)
    go_ret
    obtain rfl : r = 9 := HR.out
    refine ⟨?_, hst.tail.tail⟩
    show _ = Ending.returned (errV 9)
    rfl
  have hr := HR.out
  clear HR
  rw [if_neg c6] at hr
  have HR := Lib.hid hr
  clear hr
  by_cases c7 : growsB n0 n x0 x p = true
  ·have hr := HR.out
   clear HR
   rw [if_pos c7] at hr
   have HR := Lib.hid hr
   clear hr
   rw [c7] at HK
   go_upto_region 6 with (go_big_may; first | (refine L_load1 (d := some 23) rfl rfl rfl (by rfl) Tryd.underlying3 rfl (by (exact cell_of (hst.get 1 rfl) hdArr_0)) ?_) | (refine L_load1 (d := some 27) rfl rfl rfl (by rfl) Tryd.underlying3 rfl (by (exact cell_of (hst.get 1 rfl) hdArr_0)) ?_))
   go_upto_region 8 with (go_big_may; first | (refine L_load1 (d := some 33) rfl rfl rfl (by rfl) Tryd.underlying3 rfl (by (exact cell_of (hst.get 1 rfl) hdArr_0)) ?_) | (refine L_load1 (d := some 35) rfl rfl rfl (by rfl) Tryd.underlying3 rfl (by (exact cell_of (hst.get 0 rfl) hdArr_0)) ?_))
   go_upto_region 11 with (go_big_may; first | (refine L_load1 (d := some 40) rfl rfl rfl (by rfl) Tryd.underlying3 rfl (by (exact cell_of (hst.get 1 rfl) hdArr_0)) ?_) | (refine L_load1 (d := some 42) rfl rfl rfl (by rfl) Tryd.underlying3 rfl (by (exact cell_of (hst.get 0 rfl) hdArr_0)) ?_))
   go_upto_region 14 with (go_big_may; (refine L_load1 (d := some 59) rfl rfl rfl (by rfl) Tryd.underlying3 rfl (by (exact cell_of (hst.get 0 rfl) hdArr_0)) ?_))
   go_upto_region 16 with (go_big_may; first | (go_at_call 32; refine (HK.out _ (HT.out.of hst) (by (exact hp _ [_, _, _, _] hst))).mono ?_; rintro e Wk ⟨rfl, hnew⟩; replace hst := hst.keep hnew) | (refine L_load1 (d := some 67) rfl rfl rfl (by rfl) Tryd.underlying3 rfl (by (exact cell_of (hst.get 0 rfl) hdArr_0)) ?_) | (refine L_load1 (d := some 69) rfl rfl rfl (by rfl) Tryd.underlying3 rfl (by (exact cell_of (hst.get 1 rfl) hdArr_0)) ?_) | ((refine L_loadM (d := some 71) rfl rfl rfl (by rfl) Tryd.underlying30 rfl el_api_Digest (by (exact hdArr_root (hst.get 0 rfl))) (by (exact Dig.size _)) ?_)) | ((refine L_loadM (d := some 73) rfl rfl rfl (by rfl) Tryd.underlying30 rfl el_api_Digest (by (exact hdArr_root (hst.get 1 rfl))) (by (exact Dig.size _)) ?_)))
   go_upto_region 17 with (go_big_may; first | ((refine L_loadA (d := some 79) rfl rfl rfl (by rfl) Tryd.underlying32 rfl el_api_Head (by (exact hst.get 1 rfl)) (by (exact hdArr_size _ _ _ _)) ?_)) | (refine wpl_at (.store 32 (.tmp 81) (.tmp 79)) rfl ?_; (refine L_storeM rfl rfl hst rfl (by rfl) (ev_tmp rfl) (by (exact hdArr_all _ _ _ _)) el_api_Head (by (exact hdArr_size _ _ _ _)) 2 rfl (by (simp; done)) ?_; clear hst; intro WS4 hst; simp only [List.set_cons_zero, List.set_cons_succ, pinArr_put _ _ _ _ _ _ _ _ _ _ _] at hst)))
   go_wp2_with (fail)
   go_ret
   obtain rfl : r = 0 := HR.out
   refine ⟨?_, hst.tail.tail⟩
   show _ = Ending.returned .nilIface
   rfl
  ·have hr := HR.out
   clear HR
   rw [if_neg c7] at hr
   have HR := Lib.hid hr
   clear hr
   rw [Bool.eq_false_iff.2 c7] at HK
   go_upto_region 6 with (go_big_may; first | (refine L_load1 (d := some 23) rfl rfl rfl (by rfl) Tryd.underlying3 rfl (by (exact cell_of (hst.get 1 rfl) hdArr_0)) ?_) | (refine L_load1 (d := some 27) rfl rfl rfl (by rfl) Tryd.underlying3 rfl (by (exact cell_of (hst.get 1 rfl) hdArr_0)) ?_))
   go_upto_region 8 with (go_big_may; first | (refine L_load1 (d := some 33) rfl rfl rfl (by rfl) Tryd.underlying3 rfl (by (exact cell_of (hst.get 1 rfl) hdArr_0)) ?_) | (refine L_load1 (d := some 35) rfl rfl rfl (by rfl) Tryd.underlying3 rfl (by (exact cell_of (hst.get 0 rfl) hdArr_0)) ?_))
   go_upto_region 11 with (go_big_may; first | (refine L_load1 (d := some 40) rfl rfl rfl (by rfl) Tryd.underlying3 rfl (by (exact cell_of (hst.get 1 rfl) hdArr_0)) ?_) | (refine L_load1 (d := some 42) rfl rfl rfl (by rfl) Tryd.underlying3 rfl (by (exact cell_of (hst.get 0 rfl) hdArr_0)) ?_))
   go_upto_region 14 with (go_big_may; (refine L_load1 (d := some 59) rfl rfl rfl (by rfl) Tryd.underlying3 rfl (by (exact cell_of (hst.get 0 rfl) hdArr_0)) ?_))
   go_upto_region 15 with (go_big_may; first | (go_at_call 32; refine (HK.out _ (HT.out.of hst) (by (exact hp _ [_, _, _, _] hst))).mono ?_; rintro e Wk ⟨rfl, hnew⟩; replace hst := hst.keep hnew) | (refine L_load1 (d := some 67) rfl rfl rfl (by rfl) Tryd.underlying3 rfl (by (exact cell_of (hst.get 0 rfl) hdArr_0)) ?_) | (refine L_load1 (d := some 69) rfl rfl rfl (by rfl) Tryd.underlying3 rfl (by (exact cell_of (hst.get 1 rfl) hdArr_0)) ?_) | ((refine L_loadM (d := some 71) rfl rfl rfl (by rfl) Tryd.underlying30 rfl el_api_Digest (by (exact hdArr_root (hst.get 0 rfl))) (by (exact Dig.size _)) ?_)) | ((refine L_loadM (d := some 73) rfl rfl rfl (by rfl) Tryd.underlying30 rfl el_api_Digest (by (exact hdArr_root (hst.get 1 rfl))) (by (exact Dig.size _)) ?_)))
   go_wp2_with (fail)
   go_ret
   obtain rfl : r = 9 := HR.out
   refine ⟨?_, hst.tail.tail⟩
   show _ = Ending.returned (errV 9)
   rfl
 ·rw [if_neg c1] at hr
  rw [decide_eq_false c1] at HC
  have HR := Lib.hid hr
  clear h0 hp hl c1 HK hr
  go_enter Tryd.func27, Tryd.ntmps27
  go_upto_region 1 with (go_big_may; (refine L_boxA (d := some 4) rfl rfl rfl (ev_tmp rfl) ?_; (try clear hnew); intro g4 W4 hnew; replace hst := hst.trans hnew; simp only [List.cons_append, List.nil_append] at hst))
  go_upto_region 2 with (go_big_may; first | ((refine L_loadM (d := some 11) rfl rfl rfl (by rfl) Tryd.underlying32 rfl el_api_Head (by (exact pinArr_head (hst.get 1 rfl))) (by (exact hdArr_size _ _ _ _)) ?_)) | (refine L_allocA (d := some 7) rfl rfl rfl el_api_Head ?_; (try clear hnew); intro g7 W7 hnew; replace hst := hst.trans hnew; simp only [List.cons_append, List.nil_append] at hst) | (refine wpl_at (.store 32 (.tmp 7) (.tmp 11)) rfl ?_; (refine L_storeA rfl rfl hst rfl (by rfl) (ev_tmp rfl) (by (exact hdArr_all _ _ _ _)) el_api_Head (by (exact hdArr_size _ _ _ _)) 0 rfl (by (rfl)) ?_; clear hst; intro WS5 hst; simp only [List.set_cons_zero, List.set_cons_succ] at hst)))
  refine wp_region_idx [(0, 0), (1, 0), (2, 0), (3, 0), (4, 2), (5, 2), (6, 2), (7, 2)] (by kernel_rfl) (by kernel_rfl) ?_
  replace hst := hst.drew
  refine idx_q rfl rfl ?_; go_wp2_with fail
  refine idx_q rfl rfl ?_; go_wp2_with fail
  refine idx_qf rfl rfl (by kernel_rfl) ?_; go_wp2_with fail
  refine idx_q rfl rfl ?_; go_wp2_with ((refine L_load1 (d := some 16) rfl rfl rfl (by rfl) Tryd.underlying22 rfl (by (exact cell_of (hst.get 2 rfl) pinArr_0)) ?_))
  refine idx_g rfl ?_; go_wp2_with (((refine L_loadA (d := some 17) rfl rfl rfl (by rfl) Tryd.underlying32 rfl el_api_Head (by (exact hst.get 1 rfl)) (by (exact hdArr_size _ _ _ _)) ?_))); refine ⟨by (exact Below.refl _ _), ?_⟩
  refine idx_g rfl ?_; go_wp2_with ((go_at_call 42; refine (HC.out _ (HT.out.of hst) (hst.sl 3 rfl)).mono ?_; rintro e Wt ⟨rfl, hnew⟩; replace hst := hst.keep hnew)); refine ⟨by (exact hnew.below), ?_⟩
  refine idx_g rfl ?_; go_wp2_with fail; refine ⟨by (exact Below.refl _ _), ?_⟩
  refine idx_g rfl ?_; go_wp2_with fail; refine ⟨by (exact Below.refl _ _), ?_⟩
  refine idx_nil ?_
  go_wp2_with fail
  go_ret
  obtain rfl : r = 1 := HR.out
  refine ⟨?_, hst.tail.tail⟩
  show _ = Ending.returned (errV 1)
  rfl
theorem ptake_any (key : List UInt8) (g : Nat) (O : Option Addr) (m oc : Nat) (n0 : Int) (x0 y0 z0 : Dig) (n : Int) (x y z : Dig) (p : List Dig) (P : Option Addr) (k pc : Nat) (w0 w : World) (L : List Res) (hT : Tb w0) (hp : SlR w0 P k pc 32 (digsL p))
  (hst : St w0 w (.blk g 121 (pinArr O m oc n0 x0 y0 z0) :: .row O m oc 5 1 (bytesL key) :: L)) (hm : m ≤ 140737488355000) (hn1 : -9223372036854775808 ≤ n) (hn2 : n ≤ 9223372036854775807) (h0 : 0 ≤ n0) :
  Calls Tryd.prog 27 #[.pointer (some ⟨g, 0, none⟩), .agg (hdArr n x y z), .slice P k pc] w fun e w' => e = .returned (errO (takeN key n0 x0 y0 n x y z p)) ∧
   St w0 w' (.blk g 121 (pinAft (takeN key n0 x0 y0 n x y z p) (pinArr O m oc n0 x0 y0 z0) (pinArr O m oc n x y z)) :: .row O m oc 5 1 (bytesL key) :: L) := by
 exact ptake_gen key g O m oc n0 x0 y0 z0 n x y z p P k pc w0 w L hT (by have := hp.1; rw [length_digsL] at this; omega) (fun _ _ h => h.old (by decide) hp) hst hm hn1 hn2 h0
end Go.Proofs.YtaebeemnipafbaaDoor

set_option maxRecDepth 20000
set_option linter.unusedSimpArgs false
set_option linter.unusedVariables false
namespace Go.Proofs.YtaebeemnipafbaaDoor
open Go.RowKit
theorem take_zero {key : List UInt8} {n0 n : Int} {x0 y0 x y z : Dig} {p : List Dig} (h : takeN key n0 x0 y0 n x y z p = 0) : ¬ n < 0 ∧ ¬ n < n0 ∧ (n = n0 → x = x0 ∧ y = y0) := by
 unfold takeN at h
 by_cases c1 : z = tagN key n x y
 ·rw [if_pos c1] at h
  by_cases c2 : n < 0 ∨ 256 < n
  ·rw [if_pos c2] at h; exact absurd h (by decide)
  rw [if_neg c2] at h
  by_cases c3 : n < n0
  ·rw [if_pos c3] at h; exact absurd h (by decide)
  refine ⟨fun c => c2 (Or.inl c), c3, fun c4 => ?_⟩
  rw [if_neg c3, if_pos c4] at h
  by_cases c5 : x = x0 ∧ y = y0
  ·exact c5
  ·rw [if_neg c5] at h; exact absurd h (by decide)
 ·rw [if_neg c1] at h; exact absurd h (by decide)
theorem take_flip (key : List UInt8) (n0 n : Int) (x0 y0 x y : Dig) (p : List Dig) : takeN key n0 x0 y0 n x y (flipD (tagN key n x y)) p = 1 := by
 unfold takeN
 rw [if_neg (flip_ne _)]
theorem pinAft_0 (a b : Array Value) : pinAft 0 a b = b := rfl
theorem pinAft_s {r : Nat} (h : r ≠ 0) (a b : Array Value) : pinAft r a b = a := if_neg h
theorem errO_0 : errO 0 = .nilIface := rfl
theorem errO_s {r : Nat} (h : r ≠ 0) : errO r = errV r := if_neg h
theorem eqHead_self (n : Int) (x y z : Dig) (w : World) : (Op.equalIn 10000 32 (.agg (hdArr n x y z)) (.agg (hdArr n x y z))).run Tryd.prog w = .ok true w := by
 rw [eqHead]; simp
theorem bang_t : (!true) = false := rfl
theorem hdArr_flip' (n : Int) (x y z : Dig) : (hdArr n x y z).setIfInBounds 65 (byteV (z.l.head?.getD 0 ^^^ 1)) = hdArr n x y (flipD z) := by
 rw [← List.headD_eq_head?_getD]; exact hdArr_flip n x y z
section
variable {P : Program} {ops : Array Oper} {rest : List Oper} {o : Oper} {a : Act} {W : World} {Q : Exit → Act → World → Prop} {d : Option Tmp}
theorem L_xor1 (hd : o.dst = d) (hw : Region.wanted o (yielded ops a.tmps) = true) {t t' : TypeId} {x y : Operand} (ho : o.op = .binOp .xor t x y t') {b : UInt8} (hx : a.eval x = byteV b) (hy : a.eval y = .int .u8 1)
  (h : wpList P ops Q rest (a.put d (byteV (b ^^^ 1))) W) : wpList P ops Q (o :: rest) a W := by
 refine L_val hd hw ?_ h
 unfold execOp
 have e := xor_val b 1
 rw [show (((1 : UInt8).toNat : Nat) : Int) = 1 from rfl] at e
 simp only [ho, hx, hy]
 have h1 : (eqGuard .xor t x y (byteV b) (.int .u8 1)).run P W = .ok () W := by simp [eqGuard]
 have h2 : (Go.binOp .xor t (byteV b) (.int .u8 1)).run P W = .ok (byteV (b ^^^ 1)) W := by
  rw [← xor_byte]
  simp only [Go.binOp, byteV, Op.intArith]
  show Result.ok (Value.int .u8 (bits .xor .u8 (b.toNat : Int) 1)) W = _
  rw [e]
 simp [h1, h2]
end
end Go.Proofs.YtaebeemnipafbaaDoor

set_option maxRecDepth 20000
set_option linter.unusedSimpArgs false
set_option linter.unusedVariables false
namespace Go.Proofs.YtaebeemnipafbaaDoor
open Go.RowKit
attribute [local simp] pinArr_size hdArr_size
theorem nothing_any (w : World) : Calls Tryd.prog 28 #[] w fun e w' => e = .returned zeroD.v ∧ St w w' [] := by
 have hst := St.refl w
 go_enter Tryd.func28, Tryd.ntmps28
 go_wp2_with (first | (refine L_allocA (d := some 0) rfl rfl rfl el_api_Digest ?_; (try clear hnew); intro g0 W0 hnew; replace hst := hst.trans hnew; simp only [List.cons_append, List.nil_append] at hst) | (refine L_build0 (d := some 1) rfl rfl rfl Tryd.underlying30 el_uint8 el_api_Digest ?_) | (refine wpl_at (.store 30 (.tmp 0) (.tmp 1)) rfl ?_; (refine L_storeA rfl rfl hst rfl (by rfl) (ev_tmp rfl) (by (exact Dig.one _)) el_api_Digest (by (rfl)) 0 rfl (by (rfl)) ?_; clear hst; intro WS1 hst; simp only [List.set_cons_zero, List.set_cons_succ] at hst)))
 refine bp_cell rfl rfl rfl (hst.get 0 rfl) Tryd.underlying30 rfl el_api_Digest (by (rfl)) ?_
 exact ⟨rfl, hst.forget⟩
section
variable {P : Program} {ops : Array Oper} {rest : List Oper} {o : Oper} {a : Act} {W : World} {Q : Exit → Act → World → Prop} {d : Option Tmp}
theorem L_field1 (hd : o.dst = d) (hw : Region.wanted o (yielded ops a.tmps) = true) {T : TypeId} {x : Operand} {k : Nat} (ho : o.op = .field T x k) {fs : Array Field} (hu : P.underlying T = some (.struct fs)) {fl : Field} (hf : fs[k]? = some fl) {cs : Array Value} (hx : a.eval x = .agg cs)
  {td : TypeDesc} (ht : P.underlying fl.type = some td) (hr : td.isRow = false) {v : Value} (hv : cs[fl.offset]? = some v)
  (h : wpList P ops Q rest (a.put d v) W) : wpList P ops Q (o :: rest) a W := by
 refine L_val hd hw ?_ h
 unfold execOp
 simp only [ho, hx]
 simp [Instr.field, run_underlying hu, hf, asAgg, run_part1 ht hr hv]
end
theorem hdArr_tagPart (n : Int) (x y z : Dig) : ((hdArr n x y z).toList.drop 65).take 32 = z.arr.toList := by
 rw [hdArr_list, show Value.int .i64 n :: (x.arr.toList ++ (y.arr.toList ++ z.arr.toList)) = (Value.int .i64 n :: (x.arr.toList ++ y.arr.toList)) ++ z.arr.toList by simp]
 rw [List.drop_left' (by simp [Dig.size])]
 exact List.take_of_length_le (by simp [Dig.size])
def HonInv (key : List UInt8) (m gl i m0 : Nat) (N : List NoteN) (p : LgP) (z : Dig) : Prop :=
 N.length ≤ i ∧ m0 ≤ N.length ∧ Logged N ∧ MapsOf N p.nm p.am ∧ p.g = gl ∧ p.m = m ∧ (z = zeroD ∨ z = tagN key (m0 : Int) (rootN (lvN (N.take m0))) (mapN (N.take m0)))
theorem HonInv.next {key : List UInt8} {m gl i m0 : Nat} {N : List NoteN} {p : LgP} {z : Dig} (h : HonInv key m gl i m0 N p z) : HonInv key m gl i N.length N p (headR key N) := by
 obtain ⟨h1, -, h3, h4, h5, h6, -⟩ := h
 exact ⟨h1, Nat.le_refl _, h3, h4, h5, h6, .inr (by rw [List.take_length]; rfl)⟩
def pinL (g : Nat) (O : Option Addr) (m oc : Nat) (key : List UInt8) (n0 : Int) (x0 y0 z0 : Dig) : List Res := [.blk g 121 (pinArr O m oc n0 x0 y0 z0), .row O m oc 5 1 (bytesL key)]
set_option maxHeartbeats 40000000 in
set_option maxRecDepth 100000 in
theorem pinHonest_any (w : World) (hT : Tb w) (key : List UInt8) (K : Option Addr) (m mc : Nat) (hk : SlR w K m mc 1 (bytesL key)) (hm0 : m * 1 ≤ 140737488351232) (ns : List NoteN) (A : Option Addr) (n nc : Nat) (hx : SlR w A n nc 34 (notesL ns))
  (sk : Nat → Bool) (B : Option Addr) (bn bc : Nat) (hb : SlR w B bn bc 1 ((List.range bn).map fun i => .bool (sk i))) :
  Calls Tryd.prog 5 #[.slice K m mc, .slice A n nc, .slice B bn bc] w fun e w' => e = .returned (.bool true) ∧ St w w' [] := by
 have hst := St.refl w
 have HT := Lib.hid hT
 have hl : ns.length = n := by have := hx.1; rw [length_notesL] at this; omega
 have HX := Lib.hid hx
 have HB := Lib.hid hb
 have HL := Lib.hid hl
 have HN := Lib.hid (fun w' (ht : Tb w') (h : SlR w' K m mc 1 (bytesL key)) => pnew_any key K m mc w' ht h (by omega))
 have HG := Lib.hid (fun w' (h : SlR w' K m mc 1 (bytesL key)) => lnew_any key K m mc w' h (by omega))
 have hm : m ≤ 140737488351232 := by omega
 clear hT hx hb hl hm0
 go_enter Tryd.func5, Tryd.ntmps5
 by_cases h40 : 40 < (n : Int)
 ·skip
  go_upto_region 1 with (go_big_may; fail)
  go_upto_region 2 with (go_big_may; (go_at_call 22; refine (HG.out _ (hst.old (by decide) hk)).mono ?_; rintro e Wl ⟨p, rfl, hpm, hmp, hnew⟩; replace hst := hst.trans hnew; clear hnew))
  go_upto_region 3 with (go_big_may; (go_at_call 23; refine (HN.out _ (HT.out.of hst) (hst.old (by decide) hk)).mono ?_; rintro e Wn ⟨gp, O, oc, rfl, hnew⟩; replace hst := hst.trans hnew; clear hnew))
  go_upto_region 5 with (go_big_may; fail)
  go_upto_region 6 with (go_big_may; fail)
  go_wp2_with (fail)
  go_ret
  exact ⟨rfl, hst.forget⟩
 by_cases hdn : (bn : Int) < (n : Int)
 ·skip
  go_upto_region 1 with (go_big_may; fail)
  go_upto_region 2 with (go_big_may; (go_at_call 22; refine (HG.out _ (hst.old (by decide) hk)).mono ?_; rintro e Wl ⟨p, rfl, hpm, hmp, hnew⟩; replace hst := hst.trans hnew; clear hnew))
  go_upto_region 3 with (go_big_may; (go_at_call 23; refine (HN.out _ (HT.out.of hst) (hst.old (by decide) hk)).mono ?_; rintro e Wn ⟨gp, O, oc, rfl, hnew⟩; replace hst := hst.trans hnew; clear hnew))
  go_upto_region 5 with (go_big_may; fail)
  go_upto_region 6 with (go_big_may; fail)
  go_wp2_with (fail)
  go_ret
  exact ⟨rfl, hst.forget⟩
 go_upto_region 1 with (go_big_may; fail)
 go_upto_region 2 with (go_big_may; (go_at_call 22; refine (HG.out _ (hst.old (by decide) hk)).mono ?_; rintro e Wl ⟨p, rfl, hpm, hmp, hnew⟩; replace hst := hst.trans hnew; clear hnew))
 go_upto_region 3 with (go_big_may; (go_at_call 23; refine (HN.out _ (HT.out.of hst) (hst.old (by decide) hk)).mono ?_; rintro e Wn ⟨gp, O, oc, rfl, hnew⟩; replace hst := hst.trans hnew; clear hnew))
 go_upto_region 5 with (go_big_may; fail)
 go_upto_region 7 with (go_big_may; fail)
 go_upto_region 8 with (go_big_may; fail)
 clear HN HG
 have hdn' : n ≤ bn := by omega
 have h40' : n ≤ 40 := by omega
 clear h40 hdn
 have hd1 : decide (bn < n) = false := decide_eq_false (by omega)
 have hd2 : decide ((40 : Int) < (n : Int)) = false := decide_eq_false (by omega)
 simp only [hd1, hd2, Bool.or_false]
 clear hd1 hd2
 obtain ⟨gl, hgl⟩ : ∃ g, g = p.g := ⟨_, rfl⟩
 rw [← hgl]
 go_loopg [9] n (fun gk s9 wr => ∃ (i m0 : Nat) (N : List NoteN) (q : LgP) (z : Dig), Hid (gk + i = n) ∧ Hid (HonInv key m gl i m0 N q z) ∧ s9 = .int .i64 (i : Int) ∧ St w wr (lgL q key N ++ pinL gp O m oc key (m0 : Int) (rootN (lvN (N.take m0))) (mapN (N.take m0)) z))
 case atStart =>
  refine ⟨0, 0, [], p, zeroD, Lib.hid rfl, Lib.hid ⟨Nat.le_refl _, Nat.le_refl _, .nil, hmp, hgl.symm, hpm, .inl rfl⟩, rfl, ?_⟩
  rw [List.take_nil, show lvN [] = [] from rfl, rootN_nil, mapN_nil]
  exact hst.perm (List.perm_append_comm (l₁ := [_, _]) (l₂ := lgL p key []))
 case round =>
  clear hst hmp hpm hgl
  obtain ⟨i, m0, N, q, z, HI, HV, rfl, hst⟩ := hrel
  have hi := HI.out
  by_cases hlt : i < n
  ·obtain ⟨g, rfl⟩ : ∃ g, gk = g + 1 := ⟨gk - 1, by omega⟩
   have hil : i < ns.length := by rw [HL.out]; exact hlt
   have HC := Lib.hid (fun (W : World) (g off : Nat) h => note_name (W := W) (g := g) (off := off) (i := i) (ns := ns) h hil)
   have HC2 := Lib.hid (fun (W : World) (g off : Nat) h => note_key (W := W) (g := g) (off := off) (i := i) (ns := ns) h hil)
   obtain ⟨s, hs⟩ : ∃ q, q = ns[i].name := ⟨_, rfl⟩
   obtain ⟨k, hkk⟩ : ∃ q, q = ns[i].key := ⟨_, rfl⟩
   rw [← hs] at HC
   rw [← hkk] at HC2
   have hib : i < bn := by omega
   have HBc := Lib.hid (fun (W : World) (g off : Nat) h => bool_at (W := W) (g := g) (off := off) (i := i) (n := bn) (f := sk) h hib)
   clear hs hkk hil hib
   obtain ⟨v1, v2, v3, v4, v5, v6, v7⟩ := HV.out
   have HA := Lib.hid (fun (w' : World) (L : List Res) h => addU_any key N s k q w w' L HT.out h v4 v3)
   rw [v5, v6] at HA
   have v1' : (addL N s k).length ≤ i + 1 := by have := (length_addL N s k).2; omega
   have v2' : m0 ≤ (addL N s k).length := by have := (length_addL N s k).1; omega
   have ht := addL_take N s k v2
   rw [← ht] at v7
   have v3' := v3.addL s k
   rw [← ht] at hst
   generalize addL N s k = N1 at *
   generalize (if addE N s = 0 then (N.length : Int) else 0) = r1 at *
   generalize (if addE N s = 0 then Value.nilIface else errV (addE N s)) = r2 at *
   clear ht v1 v2 v3 v4 v5 v6 hi HV
   go_upto_region 10 with (go_big_may; fail)
   refine wp_region_idxT [(0, 0), (1, 0), (2, 0), (3, 0), (4, 0), (5, 0), (6, 0), (7, 2), (8, 2), (9, 2), (10, 2), (11, 1)] (by kernel_rfl) (by kernel_rfl) ?_
   replace hst := hst.drew
   refine idx_q rfl rfl ?_; go_wp2_with fail
   refine idx_q rfl rfl ?_; go_wp2_with fail
   refine idx_q rfl rfl ?_; go_wp2_with fail
   refine idx_q rfl rfl ?_; go_wp2_with ((refine L_idxS (d := some 43) rfl rfl rfl (by rfl) (by rfl) Tryd.underlying23 el_api_Note (by (exact hst.old (by decide) HX.out)) (by omega) (by omega) ?_; intro o43 p43 ha43 hr43; ((subst ha43))))
   refine idx_qf rfl rfl (by kernel_rfl) ?_; go_wp2_with fail
   refine idx_q rfl rfl ?_; go_wp2_with ((refine L_load1 (d := some 45) rfl rfl rfl (by rfl) Tryd.underlying9 rfl (HC.out _ _ _ hr43) ?_))
   refine idx_q rfl rfl ?_; go_wp2_with fail
   refine idx_g rfl ?_; go_wp2_with fail; refine ⟨by (exact Below.refl _ _), ?_⟩
   refine idx_g rfl ?_; go_wp2_with ((refine L_idxS (d := some 48) rfl rfl rfl (by rfl) (by rfl) Tryd.underlying23 el_api_Note (by (exact hst.old (by decide) HX.out)) (by omega) (by omega) ?_; intro o48 p48 ha48 hr48; ((obtain ⟨h1, h2⟩ := some_addr ha48; subst h1; subst h2; clear ha48)))); refine ⟨by (exact Below.refl _ _), ?_⟩
   refine idx_g rfl ?_; go_wp2_with fail; refine ⟨by (exact Below.refl _ _), ?_⟩
   refine idx_g rfl ?_; go_wp2_with ((refine L_loadM (d := some 50) rfl rfl rfl (by rfl) Tryd.underlying30 rfl el_api_Digest (HC2.out _ _ _ hr48) (Dig.size _) ?_)); refine ⟨by (exact Below.refl _ _), ?_⟩
   refine idx_e rfl ?_; go_wp2_with ((go_at_call 24; refine (HA.out _ _ hst).mono ?_; rintro e Wa ⟨rfl, q1, u1, u2, u3, hst'⟩; clear hst; have hst := hst'; clear hst'))
   refine idx_nil ?_
   have HV := Lib.hid (show HonInv key m gl (i + 1) m0 N1 q1 z from ⟨v1', v2', v3', u3, u1, u2, v7⟩)
   have HH := Lib.hid (fun (w' : World) (L : List Res) h => head_any key N1 q1 w w' L HT.out h u3 v3' (by omega))
   have HS := Lib.hid (fun (w' : World) (L : List Res) h => since_any key N1 q1 (m0 : Int) w w' L HT.out h v3')
   rw [u1] at HH HS
   unfold headA at HH
   have hle := v3'.len
   have HTk := Lib.hid (take_honest key v2' hle)
   have HD0 := Lib.hid (show headR key N1 = tagN key (N1.length : Int) (rootN (lvN N1)) (mapN N1) from rfl)
   rw [← HD0.out] at HTk
   have HL1 := Lib.hid v1'
   have HM1 := Lib.hid (show m0 ≤ N1.length from v2')
   have HP := Lib.hid (length_gpN N1.length (lvN N1) m0 true (length_lvN N1))
   clear u1 u2 u3 v1' v2' v3' v7 hle
   obtain ⟨b, hbb⟩ : ∃ b, b = sk i := ⟨_, rfl⟩
   rw [← hbb] at HBc
   clear hbb
   cases b with
   | true =>
    go_upto_region 9 with (go_big_may; first | (refine L_load1 (d := some 55) rfl rfl rfl (by rfl) Tryd.underlying4 rfl (HBc.out _ _ _ hr54) ?_) | (refine L_idxS (d := some 54) rfl rfl rfl (by rfl) (by rfl) Tryd.underlying54 el_bool (by (exact hst.old (by decide) HB.out)) (by omega) (by omega) ?_; intro o54 p54 ha54 hr54; ((subst ha54))))
    go_wp2_with (fail)
    go_roundg g
    case measure => omega
    case rel => exact ⟨i + 1, m0, N1, q1, z, Lib.hid (by have := HI.out; omega), HV, by go_num, hst⟩
   | false =>
    go_upto_region 12 with (go_big_may; first | (refine L_load1 (d := some 55) rfl rfl rfl (by rfl) Tryd.underlying4 rfl (HBc.out _ _ _ hr54) ?_) | (refine L_idxS (d := some 54) rfl rfl rfl (by rfl) (by rfl) Tryd.underlying54 el_bool (by (exact hst.old (by decide) HB.out)) (by omega) (by omega) ?_; intro o54 p54 ha54 hr54; ((subst ha54))))
    go_upto_region 13 with (go_big_may; fail)
    cases m0 with
    | zero =>
     have hz : ¬ (0 : Int) < ((0 : Nat) : Int) := by decide
     simp only [lgL, pinL, List.cons_append, List.nil_append] at hst
     go_upto_region 18 with (go_big_may; first | (refine L_field1 (d := some 58) rfl rfl rfl Tryd.underlying32 rfl (ev_tmp rfl) Tryd.underlying3 rfl hdArr_0 ?_) | (go_at_call 25; refine (held_any _ _ _ _ _ _ _ _ _ _ _ (hst.get 5 rfl)).mono ?_; rintro e Wh ⟨rfl, hnew⟩; replace hst := hst.keep hnew))
     have hst' : St w _ (lgL q1 key N1 ++ (.row none 0 0 30 32 (digsL (prfN N1 0)) :: pinL gp O m oc key ((0 : Nat) : Int) (rootN (lvN (N1.take 0))) (mapN (N1.take 0)) z)) := (hst.nilRow 30 32).pick [1, 2, 3, 4, 5, 0, 6, 7] (by decide)
     clear hst
     have hst := hst'
     clear hst'
     have HK := Lib.hid (fun (w' : World) (P : Option Addr) (pc : Nat) (L : List Res) (hl : (prfN N1 0).length = 0) hp h => ptake_gen key gp O m oc ((0 : Nat) : Int) (rootN (lvN (N1.take 0))) (mapN (N1.take 0)) z (N1.length : Int) (rootN (lvN N1)) (mapN N1) (headR key N1) (prfN N1 0) P 0 pc w w' L HT.out hl hp h (by omega) (by omega) (by have := HV.out.2.2.1.len; omega) (by omega))
     rw [HTk.out, errO_0, pinAft_0] at HK
     go_upto_region 19 with (go_big_may; first | (go_at_call 14; refine (HH.out _ _ hst).mono ?_; rintro e Wh ⟨rfl, hst'⟩; clear hst; have hst := hst'; clear hst'; simp only [lgL, pinL, List.cons_append, List.nil_append] at hst) | (refine L_allocA (d := some 13) rfl rfl rfl el_api_Head ?_; (try clear hnew); intro g13 W13 hnew; replace hst := hst.trans hnew; simp only [List.cons_append, List.nil_append] at hst) | (refine wpl_at (.store 32 (.tmp 13) (.tmp 72)) rfl ?_; (refine L_storeA rfl rfl hst rfl (by rfl) (ev_tmp rfl) (by (exact hdArr_all _ _ _ _)) el_api_Head (by (exact hdArr_size _ _ _ _)) 0 rfl (by (rfl)) ?_; clear hst; intro WS3 hst; simp only [List.set_cons_zero, List.set_cons_succ] at hst)))
     refine wp_region_pm (.one 0 3 (.one 2 3 (.one 1 2 (.one 3 1 (.one 4 2 (.one 5 2 (.one 6 3 (.one 8 0 (.one 7 2 (.one 9 2 (.one 10 2 .nil))))))))))) (by kernel_rfl) (by kernel_rfl) ?_
     replace hst := hst.drew
     refine pm_p rfl rfl ?_; go_wp2_with fail
     refine pm_p rfl rfl ?_; go_wp2_with fail
     refine pm_g rfl ?_; go_wp2_with (((refine L_loadA (d := some 74) rfl rfl rfl (by rfl) Tryd.underlying32 rfl el_api_Head (by (exact hst.get 0 rfl)) (by (exact hdArr_size _ _ _ _)) ?_))); refine ⟨by (exact Below.refl _ _), ?_⟩
     refine pm_e rfl ?_; go_wp2_with ((go_at_call 27; refine (HK.out _ _ _ _ (by rfl) (fun W' X h => (h.perm List.perm_append_comm).sl 0 rfl) (hst.pick [7, 8, 6, 0, 1, 2, 3, 4, 5] (by decide))).mono ?_; rintro e Wt ⟨rfl, hst'⟩; simp only [List.filterMap_cons, List.filterMap_nil, List.getElem?_cons_zero, List.getElem?_cons_succ] at hst'; clear hst; have hst := hst'; clear hst'))
     refine pm_g rfl ?_; go_wp2_with (fail); refine ⟨by (exact Below.refl _ _), ?_⟩
     refine pm_g rfl ?_; go_wp2_with fail; refine ⟨by (exact Below.refl _ _), ?_⟩
     refine pm_p rfl rfl ?_; go_wp2_with (fail)
     refine pm_q rfl rfl ?_; go_wp2_with (((refine L_loadA (d := some 81) rfl rfl rfl (by rfl) Tryd.underlying32 rfl el_api_Head (by (exact hst.get 3 rfl)) (by (exact hdArr_size _ _ _ _)) ?_)))
     refine pm_g rfl ?_; go_wp2_with ((go_at_call 25; refine (held_any _ _ _ _ _ _ _ _ _ _ _ (hst.get 0 rfl)).mono ?_; rintro e Wh ⟨rfl, hnew⟩; replace hst := hst.keep hnew)); refine ⟨by (exact hnew.below), ?_⟩
     refine pm_g rfl ?_; go_wp2_with ((refine L_neA (d := some 82) rfl rfl rfl eqG_Head (ev_tmp rfl) (ev_tmp rfl) (eqHead_self _ _ _ _ _) ?_; rw [bang_t])); refine ⟨by (exact Below.refl _ _), ?_⟩
     refine pm_g rfl ?_; go_wp2_with fail; refine ⟨by (exact Below.refl _ _), ?_⟩
     refine pm_nil ?_
     go_wp2_with fail
     go_roundg g
     case measure => omega
     case rel => exact ⟨i + 1, N1.length, N1, q1, headR key N1, Lib.hid (by have := HI.out; omega), Lib.hid (HonInv.next HV.out), by go_num, by rw [List.take_length]; exact hst.pick [4, 5, 6, 7, 8, 0, 1] (by decide)⟩
    | succ m1 =>
     have hz : (0 : Int) < ((m1 + 1 : Nat) : Int) := by omega
     have hz1 : (1 : Int) ≤ ((m1 + 1 : Nat) : Int) := by omega
     have hz2 : ((m1 + 1 : Nat) : Int) ≤ (N1.length : Int) := by have := HM1.out; omega
     have HS2 := Lib.hid (fun (w' : World) (L : List Res) h => HS.out w' L h hz1 hz2)
     simp only [Int.toNat_natCast] at HS2
     clear hz1 hz2
     go_upto_region 14 with (go_big_may; first | (refine L_field1 (d := some 58) rfl rfl rfl Tryd.underlying32 rfl (ev_tmp rfl) Tryd.underlying3 rfl hdArr_0 ?_) | (go_at_call 25; refine (held_any _ _ _ _ _ _ _ _ _ _ _ (hst.get 5 rfl)).mono ?_; rintro e Wh ⟨rfl, hnew⟩; replace hst := hst.keep hnew))
     go_upto_region 15 with (go_big_may; first | (refine L_field1 (d := some 64) rfl rfl rfl Tryd.underlying32 rfl (ev_tmp rfl) Tryd.underlying3 rfl hdArr_0 ?_) | (go_at_call 25; refine (held_any _ _ _ _ _ _ _ _ _ _ _ (hst.get 5 rfl)).mono ?_; rintro e Wh ⟨rfl, hnew⟩; replace hst := hst.keep hnew) | (go_at_call 26; refine (HS2.out _ _ hst).mono ?_; rintro e Ws ⟨Os, os, rfl, hst'⟩; clear hst; have hst := hst'; clear hst'))
     go_upto_region 17 with (go_big_may; fail)
     go_upto_region 18 with (go_big_may; fail)
     have hst' : St w _ (lgL q1 key N1 ++ (.row Os (plN N1.length (m1 + 1) true) os 30 32 (digsL (prfN N1 (m1 + 1))) :: pinL gp O m oc key ((m1 + 1 : Nat) : Int) (rootN (lvN (N1.take (m1 + 1)))) (mapN (N1.take (m1 + 1))) z)) := St.swap (X := [_]) hst
     clear hst
     have hst := hst'
     clear hst'
     have HK := Lib.hid (fun (w' : World) (P : Option Addr) (pc : Nat) (L : List Res) (hl : (prfN N1 (m1 + 1)).length = (plN N1.length (m1 + 1) true)) hp h => ptake_gen key gp O m oc (((m1 + 1) : Nat) : Int) (rootN (lvN (N1.take (m1 + 1)))) (mapN (N1.take (m1 + 1))) z (N1.length : Int) (rootN (lvN N1)) (mapN N1) (headR key N1) (prfN N1 (m1 + 1)) P (plN N1.length (m1 + 1) true) pc w w' L HT.out hl hp h (by omega) (by omega) (by have := HV.out.2.2.1.len; omega) (by omega))
     rw [HTk.out, errO_0, pinAft_0] at HK
     go_upto_region 19 with (go_big_may; first | (go_at_call 14; refine (HH.out _ _ hst).mono ?_; rintro e Wh ⟨rfl, hst'⟩; clear hst; have hst := hst'; clear hst'; simp only [lgL, pinL, List.cons_append, List.nil_append] at hst) | (refine L_allocA (d := some 13) rfl rfl rfl el_api_Head ?_; (try clear hnew); intro g13 W13 hnew; replace hst := hst.trans hnew; simp only [List.cons_append, List.nil_append] at hst) | (refine wpl_at (.store 32 (.tmp 13) (.tmp 72)) rfl ?_; (refine L_storeA rfl rfl hst rfl (by rfl) (ev_tmp rfl) (by (exact hdArr_all _ _ _ _)) el_api_Head (by (exact hdArr_size _ _ _ _)) 0 rfl (by (rfl)) ?_; clear hst; intro WS3 hst; simp only [List.set_cons_zero, List.set_cons_succ] at hst)))
     refine wp_region_pm (.one 0 3 (.one 2 3 (.one 1 2 (.one 3 1 (.one 4 2 (.one 5 2 (.one 6 3 (.one 8 0 (.one 7 2 (.one 9 2 (.one 10 2 .nil))))))))))) (by kernel_rfl) (by kernel_rfl) ?_
     replace hst := hst.drew
     refine pm_p rfl rfl ?_; go_wp2_with fail
     refine pm_p rfl rfl ?_; go_wp2_with fail
     refine pm_g rfl ?_; go_wp2_with (((refine L_loadA (d := some 74) rfl rfl rfl (by rfl) Tryd.underlying32 rfl el_api_Head (by (exact hst.get 0 rfl)) (by (exact hdArr_size _ _ _ _)) ?_))); refine ⟨by (exact Below.refl _ _), ?_⟩
     refine pm_e rfl ?_; go_wp2_with ((go_at_call 27; refine (HK.out _ _ _ _ HP.out (fun W' X h => (h.perm List.perm_append_comm).sl 0 rfl) (hst.pick [7, 8, 6, 0, 1, 2, 3, 4, 5] (by decide))).mono ?_; rintro e Wt ⟨rfl, hst'⟩; simp only [List.filterMap_cons, List.filterMap_nil, List.getElem?_cons_zero, List.getElem?_cons_succ] at hst'; clear hst; have hst := hst'; clear hst'))
     refine pm_g rfl ?_; go_wp2_with (fail); refine ⟨by (exact Below.refl _ _), ?_⟩
     refine pm_g rfl ?_; go_wp2_with fail; refine ⟨by (exact Below.refl _ _), ?_⟩
     refine pm_p rfl rfl ?_; go_wp2_with (fail)
     refine pm_q rfl rfl ?_; go_wp2_with (((refine L_loadA (d := some 81) rfl rfl rfl (by rfl) Tryd.underlying32 rfl el_api_Head (by (exact hst.get 3 rfl)) (by (exact hdArr_size _ _ _ _)) ?_)))
     refine pm_g rfl ?_; go_wp2_with ((go_at_call 25; refine (held_any _ _ _ _ _ _ _ _ _ _ _ (hst.get 0 rfl)).mono ?_; rintro e Wh ⟨rfl, hnew⟩; replace hst := hst.keep hnew)); refine ⟨by (exact hnew.below), ?_⟩
     refine pm_g rfl ?_; go_wp2_with ((refine L_neA (d := some 82) rfl rfl rfl eqG_Head (ev_tmp rfl) (ev_tmp rfl) (eqHead_self _ _ _ _ _) ?_; rw [bang_t])); refine ⟨by (exact Below.refl _ _), ?_⟩
     refine pm_g rfl ?_; go_wp2_with fail; refine ⟨by (exact Below.refl _ _), ?_⟩
     refine pm_nil ?_
     go_wp2_with fail
     go_roundg g
     case measure => omega
     case rel => exact ⟨i + 1, N1.length, N1, q1, headR key N1, Lib.hid (by have := HI.out; omega), Lib.hid (HonInv.next HV.out), by go_num, by rw [List.take_length]; exact hst.pick [4, 5, 6, 7, 8, 0, 1] (by decide)⟩
  ·obtain rfl : gk = 0 := by omega
   obtain rfl : i = n := by omega
   clear hi
   obtain ⟨-, -, -, -, -, -, v7⟩ := HV.out
   obtain ⟨-, hm1, hm2, -, -, -, -⟩ := HV.out
   have hm3 := hm2.len
   have HG := Lib.hid (fun (w' : World) (ht : Tb w') (h : SlR w' K m mc 1 (bytesL key)) => tag_any key K m mc (m0 : Int) (rootN (lvN (N.take m0))) (mapN (N.take m0)) z w' (by omega) (by omega) ht h (by omega))
   clear hm1 hm2 hm3
   generalize rootN (lvN (N.take m0)) = rx at *
   generalize mapN (N.take m0) = ry at *
   generalize tagN key (m0 : Int) rx ry = tg at *
   simp only [lgL, pinL, List.cons_append, List.nil_append] at hst
   by_cases hz : z = zeroD
   ·have HZ := Lib.hid (decide_eq_true hz)
    clear HV v7 hz
    go_upto_region 21 with (go_big_may; fail)
    go_wp2_with (first | (refine L_fieldD (d := some 86) rfl rfl rfl Tryd.underlying32 rfl (ev_tmp rfl) Tryd.underlying30 el_api_Digest (hdArr_tagPart _ _ _ _) ?_) | (go_at_call 25; refine (held_any _ _ _ _ _ _ _ _ _ _ _ (hst.get 5 rfl)).mono ?_; rintro e Wh ⟨rfl, hnew⟩; replace hst := hst.keep hnew) | (go_at_call 28; refine (nothing_any _).mono ?_; rintro e Wf ⟨rfl, hnew⟩; replace hst := hst.keep hnew) | (refine L_eqD (d := some 88) rfl rfl rfl Tryd.underlying30 Tryd.underlying5 el_uint8 eqG_D (ev_tmp rfl) (ev_tmp rfl) ?_; (try rw [HZ.out])))
    go_ret
    exact ⟨rfl, hst.forget⟩
   ·have HZ := Lib.hid (decide_eq_false hz)
    have HZ2 := Lib.hid (decide_eq_true (v7.resolve_left hz))
    clear HV v7 hz
    go_upto_region 21 with (go_big_may; fail)
    go_wp2_with (first | (refine L_fieldD (d := some 86) rfl rfl rfl Tryd.underlying32 rfl (ev_tmp rfl) Tryd.underlying30 el_api_Digest (hdArr_tagPart _ _ _ _) ?_) | (refine L_fieldD (d := some 92) rfl rfl rfl Tryd.underlying32 rfl (ev_tmp rfl) Tryd.underlying30 el_api_Digest (hdArr_tagPart _ _ _ _) ?_) | (go_at_call 25; refine (held_any _ _ _ _ _ _ _ _ _ _ _ (hst.get 5 rfl)).mono ?_; rintro e Wh ⟨rfl, hnew⟩; replace hst := hst.keep hnew) | (go_at_call 28; refine (nothing_any _).mono ?_; rintro e Wf ⟨rfl, hnew⟩; replace hst := hst.keep hnew) | (go_at_call 29; refine (HG.out _ (HT.out.of hst) (hst.old (by decide) hk)).mono ?_; rintro e Wf ⟨rfl, hnew⟩; replace hst := hst.keep hnew) | (refine L_eqD (d := some 88) rfl rfl rfl Tryd.underlying30 Tryd.underlying5 el_uint8 eqG_D (ev_tmp rfl) (ev_tmp rfl) ?_; (try rw [HZ.out]); (try rw [HZ2.out])) | (refine L_eqD (d := some 97) rfl rfl rfl Tryd.underlying30 Tryd.underlying5 el_uint8 eqG_D (ev_tmp rfl) (ev_tmp rfl) ?_; (try rw [HZ.out]); (try rw [HZ2.out])))
    go_ret
    exact ⟨rfl, hst.forget⟩
end Go.Proofs.YtaebeemnipafbaaDoor

set_option maxRecDepth 20000
set_option linter.unusedSimpArgs false
set_option linter.unusedVariables false
namespace Go.Proofs.YtaebeemnipafbaaDoor
open Go.RowKit
attribute [local simp] hdArr_size ntArr_size pinArr_size
theorem note_lenK {W : World} {A : Option Addr} {n c : Nat} {ns : List NoteN} (h : SlR W A n c 34 (notesL ns)) : ns.length = n := by have := h.1; rw [length_notesL] at this; omega
def KeyInv (m gl m0 : Nat) (s : List UInt8) (M N : List NoteN) (p : LgP) : Prop := Logged N ∧ MapsOf N p.nm p.am ∧ p.g = gl ∧ p.m = m ∧ noClash N s ∧ M.length = m0 ∧ m0 ≤ N.length ∧ N.take m0 = M
theorem KeyInv.refl {m gl : Nat} {s : List UInt8} {N : List NoteN} {p : LgP} (h1 : Logged N) (h2 : MapsOf N p.nm p.am) (h3 : p.g = gl) (h4 : p.m = m) (h5 : noClash N s) : KeyInv m gl N.length s N N p := ⟨h1, h2, h3, h4, h5, rfl, Nat.le_refl _, List.take_length⟩
set_option maxHeartbeats 80000000 in
set_option maxRecDepth 100000 in
theorem topKey_any (w : World) (hT : Tb w) (key : List UInt8) (K : Option Addr) (m mc : Nat) (hk : SlR w K m mc 1 (bytesL key)) (hm0 : m * 1 ≤ 140737488351232) (ns : List NoteN) (A : Option Addr) (n nc : Nat) (hx : SlR w A n nc 34 (notesL ns)) (ms : List NoteN) (B : Option Addr) (bn bc : Nat) (hy : SlR w B bn bc 34 (notesL ms))
  (s : List UInt8) (hsz : s.length ≤ 140737488351232) :
  Calls Tryd.prog 10 #[.slice K m mc, .slice A n nc, .slice B bn bc, .string (bsOf s)] w fun e w' => e = .returned (.bool true) ∧ St w w' [] := by
 have hst := St.refl w
 have HT := Lib.hid hT
 have HX := Lib.hid hx
 have HY := Lib.hid hy
 have HN := Lib.hid (fun w' (ht : Tb w') (h : SlR w' K m mc 1 (bytesL key)) => pnew_any key K m mc w' ht h (by omega))
 have HG := Lib.hid (fun w' (h : SlR w' K m mc 1 (bytesL key)) => lnew_any key K m mc w' h (by omega))
 have HIs := Lib.hid (fun w' => rindex_any s w' (by omega))
 have HNm := Lib.hid (fun w' => risname_any s w' (by omega))
 have hm : m ≤ 140737488351232 := by omega
 clear hT hx hy hm0 hsz
 go_enter Tryd.func10, Tryd.ntmps10
 by_cases h40 : 40 < (n : Int)
 ·skip
  go_upto_region 1 with (go_big_may; fail)
  go_upto_region 2 with (go_big_may; (go_at_call 33; refine (addedT_any _ (HT.out.of hst)).mono ?_; rintro e Wd ⟨rfl, hnew⟩; replace hst := hst.keep hnew; clear hnew))
  go_upto_region 3 with (go_big_may; (go_at_call 22; refine (HG.out _ (hst.old (by decide) hk)).mono ?_; rintro e Wl ⟨p, rfl, hpm, hmp, hnew⟩; replace hst := hst.trans hnew; clear hnew))
  go_upto_region 4 with (go_big_may; (go_at_call 23; refine (HN.out _ (HT.out.of hst) (hst.old (by decide) hk)).mono ?_; rintro e Wn ⟨gp, O, oc, rfl, hnew⟩; replace hst := hst.trans hnew; clear hnew))
  go_upto_region 6 with (go_big_may; fail)
  go_upto_region 7 with (go_big_may; fail)
  go_wp2_with (fail)
  go_ret
  exact ⟨rfl, hst.forget⟩
 by_cases h41 : 40 < (bn : Int)
 ·skip
  go_upto_region 1 with (go_big_may; fail)
  go_upto_region 2 with (go_big_may; (go_at_call 33; refine (addedT_any _ (HT.out.of hst)).mono ?_; rintro e Wd ⟨rfl, hnew⟩; replace hst := hst.keep hnew; clear hnew))
  go_upto_region 3 with (go_big_may; (go_at_call 22; refine (HG.out _ (hst.old (by decide) hk)).mono ?_; rintro e Wl ⟨p, rfl, hpm, hmp, hnew⟩; replace hst := hst.trans hnew; clear hnew))
  go_upto_region 4 with (go_big_may; (go_at_call 23; refine (HN.out _ (HT.out.of hst) (hst.old (by decide) hk)).mono ?_; rintro e Wn ⟨gp, O, oc, rfl, hnew⟩; replace hst := hst.trans hnew; clear hnew))
  go_upto_region 6 with (go_big_may; fail)
  go_upto_region 7 with (go_big_may; fail)
  go_wp2_with (fail)
  go_ret
  exact ⟨rfl, hst.forget⟩
 by_cases hs : isNm s = true
 case neg =>
  have hs' : isNm s = false := by simpa using hs
  rewrite [hs'] at HNm
  clear hs hs'
  go_upto_region 1 with (go_big_may; fail)
  go_upto_region 2 with (go_big_may; (go_at_call 33; refine (addedT_any _ (HT.out.of hst)).mono ?_; rintro e Wd ⟨rfl, hnew⟩; replace hst := hst.keep hnew; clear hnew))
  go_upto_region 3 with (go_big_may; (go_at_call 22; refine (HG.out _ (hst.old (by decide) hk)).mono ?_; rintro e Wl ⟨p, rfl, hpm, hmp, hnew⟩; replace hst := hst.trans hnew; clear hnew))
  go_upto_region 4 with (go_big_may; (go_at_call 23; refine (HN.out _ (HT.out.of hst) (hst.old (by decide) hk)).mono ?_; rintro e Wn ⟨gp, O, oc, rfl, hnew⟩; replace hst := hst.trans hnew; clear hnew))
  go_upto_region 6 with (go_big_may; fail)
  go_upto_region 7 with (go_big_may; (go_at_call 31; (try clear hnew); refine (HNm.out _).mono ?_; rintro e Wk1 ⟨rfl, hnew⟩; replace hst := hst.keep hnew))
  go_wp2_with (fail)
  go_ret
  exact ⟨rfl, hst.forget⟩
 have HSn := Lib.hid hs
 rewrite [hs] at HNm
 clear hs
 go_upto_region 1 with (go_big_may; fail)
 go_upto_region 2 with (go_big_may; (go_at_call 33; refine (addedT_any _ (HT.out.of hst)).mono ?_; rintro e Wd ⟨rfl, hnew⟩; replace hst := hst.keep hnew; clear hnew))
 go_upto_region 3 with (go_big_may; (go_at_call 22; refine (HG.out _ (hst.old (by decide) hk)).mono ?_; rintro e Wl ⟨p, rfl, hpm, hmp, hnew⟩; replace hst := hst.trans hnew; clear hnew))
 go_upto_region 4 with (go_big_may; (go_at_call 23; refine (HN.out _ (HT.out.of hst) (hst.old (by decide) hk)).mono ?_; rintro e Wn ⟨gp, O, oc, rfl, hnew⟩; replace hst := hst.trans hnew; clear hnew))
 go_upto_region 6 with (go_big_may; fail)
 go_upto_region 8 with (go_big_may; (go_at_call 31; (try clear hnew); refine (HNm.out _).mono ?_; rintro e Wk2 ⟨rfl, hnew⟩; replace hst := hst.keep hnew))
 go_upto_region 9 with (go_big_may; (refine L_allocA (d := some 12) rfl rfl rfl el_api_Digest ?_; (try clear hnew); intro g12 W12 hnew; replace hst := hst.trans hnew; simp only [List.cons_append, List.nil_append] at hst))
 go_upto_region 10 with (go_big_may; fail)
 go_wp2_with (fail)
 clear HG HN HNm
 have h40' : n ≤ 40 := by omega
 have h41' : bn ≤ 40 := by omega
 clear h40 h41 hnew
 obtain ⟨gl, hgl⟩ : ∃ g, g = p.g := ⟨_, rfl⟩
 rw [← hgl]
 go_loopg [1, 13, 14] 2 (fun gk s1 s13 s14 wr => ∃ (r : Nat) (N : List NoteN) (q : LgP) (z lk : Dig) (has : Bool) (C : Option Addr) (cn cc : Nat) (cur : List NoteN), Hid (gk + r = 2) ∧ Hid (Logged N ∧ MapsOf N q.nm q.am ∧ q.g = gl ∧ q.m = m ∧ noClash N s ∧ N.length ≤ 40 * r ∧ lk = lastK N s ∧ has = decide (0 < cntN N s)) ∧ Hid (SlR w C cn cc 34 (notesL cur) ∧ cn ≤ 40 ∧ cur.length = cn) ∧ s1 = .slice C cn cc ∧ s13 = .bool has ∧ s14 = .int .i64 (r : Int) ∧
  St w wr (.blk g12 30 lk.arr :: (lgL q key N ++ pinL gp O m oc key (N.length : Int) (rootN (lvN N)) (mapN N) z)))
 case atStart =>
  refine ⟨0, [], p, zeroD, zeroD, false, A, n, nc, ns, Lib.hid rfl, Lib.hid ⟨.nil, hmp, hgl.symm, hpm, by simp [noClash], by simp, rfl, by simp [cntN]⟩, Lib.hid ⟨HX.out, h40', note_lenK HX.out⟩, rfl, rfl, rfl, ?_⟩
  rw [show lvN [] = [] from rfl, rootN_nil, mapN_nil]
  exact hst.perm ((List.perm_append_comm (l₁ := [_, _]) (l₂ := lgL p key [])).cons _)
 case round =>
  clear hst hmp hpm hgl
  obtain ⟨r, N, q, z, lk, has, C, cn, cc, cur, HR, HV, HCur, rfl, rfl, rfl, hst⟩ := hrel
  have hr := HR.out
  by_cases hr2 : r < 2
  ·obtain ⟨gg, rfl⟩ : ∃ g, gk = g + 1 := ⟨gk - 1, by omega⟩
   have hr2' : (r : Int) < 2 := by omega
   clear hr2 hr
   obtain ⟨PL, hPL⟩ : ∃ PL, PL = pinL gp O m oc key (N.length : Int) (rootN (lvN N)) (mapN N) z := ⟨_, rfl⟩
   rewrite [← hPL] at hst
   have HPL := Lib.hid hPL
   clear hPL
   go_upto_region 13 with (go_big_may; fail)
   go_wp2_with (fail)
   have HX2 := Lib.hid HCur.out.1
   have HL := Lib.hid HCur.out.2.2
   have hcn := HCur.out.2.1
   go_loopg [13, 15] cn (fun gk s13 s15 wr => ∃ (i : Nat) (N' : List NoteN) (q' : LgP) (lk' : Dig) (has' : Bool), Hid (gk + i = cn) ∧ Hid (Logged N' ∧ MapsOf N' q'.nm q'.am ∧ q'.g = gl ∧ q'.m = m ∧ noClash N' s ∧ N'.length ≤ N.length + i ∧ lk' = lastK N' s ∧ has' = decide (0 < cntN N' s) ∧ N'.take N.length = N ∧ N.length ≤ N'.length) ∧ s13 = .bool has' ∧ s15 = .int .i64 (i : Int) ∧
    St w wr (.blk g12 30 lk'.arr :: (lgL q' key N' ++ PL)))
   case atStart =>
    obtain ⟨v1, v2, v3, v4, v5, v6, v7, v8⟩ := HV.out
    exact ⟨0, N, q, lk, has, Lib.hid rfl, Lib.hid ⟨v1, v2, v3, v4, v5, Nat.le_refl _, v7, v8, List.take_length, Nat.le_refl _⟩, rfl, rfl, hst⟩
   case round =>
    clear hst
    obtain ⟨i, N', q', lk', has', HI, HW, rfl, rfl, hst⟩ := hrel
    have hi := HI.out
    by_cases hlt : i < cn
    ·obtain ⟨g, rfl⟩ : ∃ g, gk = g + 1 := ⟨gk - 1, by omega⟩
     have hil : i < cur.length := by rw [HL.out]; exact hlt
     have HC := Lib.hid (fun (W : World) (g off : Nat) h => note_name (W := W) (g := g) (off := off) (i := i) (ns := cur) h hil)
     have HC2 := Lib.hid (fun (W : World) (g off : Nat) h => note_key (W := W) (g := g) (off := off) (i := i) (ns := cur) h hil)
     obtain ⟨u, hu⟩ : ∃ q, q = cur[i].name := ⟨_, rfl⟩
     obtain ⟨k, hkk⟩ : ∃ q, q = cur[i].key := ⟨_, rfl⟩
     rewrite [← hu] at HC
     rewrite [← hkk] at HC2
     clear hu hkk hil
     obtain ⟨v3, v4, v5, v6, v7, v8, v9, v10, v11, v12⟩ := HW.out
     have HA := Lib.hid (fun (w' : World) (L : List Res) h => addU_any key N' u k q' w w' L HT.out h v4 v3)
     rewrite [v5, v6] at HA
     have v8' : (addL N' u k).length ≤ N.length + (i + 1) := by have := (length_addL N' u k).2; omega
     have v12' : N.length ≤ (addL N' u k).length := by have := (length_addL N' u k).1; omega
     have v11' : (addL N' u k).take N.length = N := by rw [addL_take _ _ _ v12]; exact v11
     have v3' := v3.addL u k
     replace hst := St.swap (X := [_]) (Y := lgL q' key N') (L := PL) hst
     by_cases h0 : addE N' u = 0
     ·simp only [h0, if_true] at HA
      have hun := (isNm_len (addE_zero h0).1).2
      have HIu := Lib.hid (fun w' => rindex_any u w' (by omega))
      have e1 := cntN_add N' s u k h0
      have e2 := lastK_add N' s u k h0
      have e3 := fun h => noClash_add (k := k) h0 v7 h
      generalize addL N' u k = N1 at *
      clear h0 v3 v4 v5 v6 v7 v8 v11 v12 hi hun
      by_cases hus : u = s
      ·have HS := Lib.hid (show decide (u = s) = true from decide_eq_true hus)
       have HSn := Lib.hid (show (!decide (u = s)) = false by simp [hus])
       rewrite [if_pos hus] at e1 e2
       have v7' := e3 (.inl hus)
       have v10' := Lib.hid (show true = decide (0 < cntN N1 s) by rw [e1]; simp)
       clear hus e1 e3 v9 v10
       go_upto_region 16 with (go_big_may; fail)
       refine wp_region_idxT [(0, 0), (1, 0), (2, 0), (3, 0), (4, 0), (5, 0), (6, 0), (7, 2), (8, 2), (9, 2), (10, 2), (11, 1), (12, 2), (13, 0), (14, 0), (15, 2), (16, 2)] (by kernel_rfl) (by kernel_rfl) ?_
       replace hst := hst.drew
       refine idx_q rfl rfl ?_; go_wp2_with fail
       refine idx_q rfl rfl ?_; go_wp2_with fail
       refine idx_q rfl rfl ?_; go_wp2_with fail
       refine idx_q rfl rfl ?_; go_wp2_with ((refine L_idxS (d := some 68) rfl rfl rfl (by rfl) (by rfl) Tryd.underlying23 el_api_Note (by (exact hst.old (by decide) HX2.out)) (by omega) (by omega) ?_; intro o68 p68 ha68 hr68; ((subst ha68))))
       refine idx_qf rfl rfl (by kernel_rfl) ?_; go_wp2_with fail
       refine idx_q rfl rfl ?_; go_wp2_with ((refine L_load1 (d := some 70) rfl rfl rfl (by rfl) Tryd.underlying9 rfl (HC.out _ _ _ hr68) ?_))
       refine idx_q rfl rfl ?_; go_wp2_with fail
       refine idx_g rfl ?_; go_wp2_with fail; refine ⟨by (exact Below.refl _ _), ?_⟩
       refine idx_g rfl ?_; go_wp2_with ((refine L_idxS (d := some 73) rfl rfl rfl (by rfl) (by rfl) Tryd.underlying23 el_api_Note (by (exact hst.old (by decide) HX2.out)) (by omega) (by omega) ?_; intro o73 p73 ha73 hr73; ((obtain ⟨h1, h2⟩ := some_addr ha73; subst h1; subst h2; clear ha73)))); refine ⟨by (exact Below.refl _ _), ?_⟩
       refine idx_g rfl ?_; go_wp2_with fail; refine ⟨by (exact Below.refl _ _), ?_⟩
       refine idx_g rfl ?_; go_wp2_with ((refine L_loadM (d := some 75) rfl rfl rfl (by rfl) Tryd.underlying30 rfl el_api_Digest (HC2.out _ _ _ hr73) (Dig.size _) ?_)); refine ⟨by (exact Below.refl _ _), ?_⟩
       refine idx_e rfl ?_; go_wp2_with ((go_at_call 24; refine (HA.out _ _ hst).mono ?_; rintro e Wa ⟨rfl, q1, u1, u2, u3, hst'⟩; clear hst; have hst := hst'; clear hst'))
       refine idx_g rfl ?_; go_wp2_with fail; refine ⟨by (exact Below.refl _ _), ?_⟩
       refine idx_q rfl rfl ?_; go_wp2_with fail
       refine idx_q rfl rfl ?_; go_wp2_with fail
       refine idx_g rfl ?_; go_wp2_with fail; refine ⟨by (exact Below.refl _ _), ?_⟩
       refine idx_g rfl ?_; go_wp2_with fail; refine ⟨by (exact Below.refl _ _), ?_⟩
       refine idx_nil ?_
       have HW2 := Lib.hid (show Logged N1 ∧ MapsOf N1 q1.nm q1.am ∧ q1.g = gl ∧ q1.m = m ∧ noClash N1 s ∧ N1.length ≤ N.length + (i + 1) ∧ k = lastK N1 s ∧ true = decide (0 < cntN N1 s) ∧ N1.take N.length = N ∧ N.length ≤ N1.length from ⟨v3', u3, u1, u2, v7', v8', e2.symm, v10'.out, v11', v12'⟩)
       clear u1 u2 u3 v3' v7' v8' v10' v11' v12' e2
       replace hst := St.swap (X := lgL q1 key N1) (Y := [_]) (L := PL) hst
       simp only [List.cons_append, List.nil_append] at hst
       go_upto_region 18 with (go_big_may; first | (refine L_load1 (d := some 86) rfl rfl rfl (by rfl) Tryd.underlying9 rfl (HC.out _ _ _ hr84) ?_) | (refine L_idxS (d := some 84) rfl rfl rfl (by rfl) (by rfl) Tryd.underlying23 el_api_Note (by (exact hst.old (by decide) HX2.out)) (by omega) (by omega) ?_; intro o84 p84 ha84 hr84; ((obtain ⟨h1, h2⟩ := some_addr ha84; subst h1; subst h2; clear ha84))) | (refine L_eqStr (d := some 88) rfl rfl rfl eqG_str Tryd.underlying9 (ev_tmp rfl) (ev_tmp rfl) ?_; (try rw [HS.out])))
       go_upto_region 19 with (go_big_may; first | (refine L_loadM (d := some 94) rfl rfl rfl (by rfl) Tryd.underlying30 rfl el_api_Digest (HC2.out _ _ _ hr92) (Dig.size _) ?_) | (refine L_idxS (d := some 92) rfl rfl rfl (by rfl) (by rfl) Tryd.underlying23 el_api_Note (by (exact hst.old (by decide) HX2.out)) (by omega) (by omega) ?_; intro o92 p92 ha92 hr92; ((obtain ⟨h1, h2⟩ := some_addr ha92; subst h1; subst h2; clear ha92))) | (refine wpl_at (.store 30 (.tmp 12) (.tmp 94)) rfl ?_; (refine L_storeA rfl rfl hst rfl (by rfl) (ev_tmp rfl) (by (exact Dig.one _)) el_api_Digest (by (exact Dig.size _)) 0 rfl (by (exact Dig.size _)) ?_; clear hst; intro WS5 hst; simp only [List.set_cons_zero, List.set_cons_succ] at hst)))
       go_upto_region 20 with (go_big_may; fail)
       go_upto_region 15 with (first | (with_reducible refine L_pass (t := 107) rfl (by kernel_rfl) ?_) | (with_reducible refine L_pass (t := 108) rfl (by kernel_rfl) ?_) | (with_reducible refine L_pass (t := 109) rfl (by kernel_rfl) ?_) | (with_reducible refine L_pass (t := 110) rfl (by kernel_rfl) ?_) | (with_reducible refine L_pass (t := 111) rfl (by kernel_rfl) ?_) | (with_reducible refine L_pass (t := 112) rfl (by kernel_rfl) ?_) | (with_reducible refine L_pass (t := 113) rfl (by kernel_rfl) ?_) | (with_reducible refine L_pass (t := 114) rfl (by kernel_rfl) ?_) | (with_reducible refine L_pass (t := 115) rfl (by kernel_rfl) ?_) | (go_big_may; first | (refine L_load1 (d := some 102) rfl rfl rfl (by rfl) Tryd.underlying9 rfl (HC.out _ _ _ hr100) ?_) | (refine L_idxS (d := some 100) rfl rfl rfl (by rfl) (by rfl) Tryd.underlying23 el_api_Note (by (exact hst.old (by decide) HX2.out)) (by omega) (by omega) ?_; intro o100 p100 ha100 hr100; ((obtain ⟨h1, h2⟩ := some_addr ha100; subst h1; subst h2; clear ha100))) | (refine L_neStr (d := some 104) rfl rfl rfl eqG_str Tryd.underlying9 (ev_tmp rfl) (ev_tmp rfl) ?_; (try rw [HSn.out]))))
       go_wp2_with (fail)
       go_roundg g
       case measure => omega
       case rel => exact ⟨i + 1, N1, q1, k, true, Lib.hid (by have := HI.out; omega), HW2, rfl, by go_num, hst⟩
      ·have HS := Lib.hid (show decide (u = s) = false from decide_eq_false hus)
       have HSn := Lib.hid (show (!decide (u = s)) = true by simp [hus])
       rewrite [if_neg hus] at e1 e2
       rewrite [← e2] at v9
       rewrite [← e1] at v10
       have HE3 := Lib.hid (fun h => e3 (.inr h))
       clear hus e1 e2 e3
       obtain ⟨iu, hiu⟩ : ∃ q, q = idxN u := ⟨_, rfl⟩
       obtain ⟨is, his⟩ : ∃ q, q = idxN s := ⟨_, rfl⟩
       rewrite [← hiu] at HIu HE3
       rewrite [← his] at HE3
       have HIs' := Lib.hid HIs.out
       rewrite [← his] at HIs'
       clear hiu his
       have V9 := Lib.hid v9
       have V10 := Lib.hid v10
       clear v9 v10
       go_upto_region 16 with (go_big_may; fail)
       refine wp_region_idxT [(0, 0), (1, 0), (2, 0), (3, 0), (4, 0), (5, 0), (6, 0), (7, 2), (8, 2), (9, 2), (10, 2), (11, 1), (12, 2), (13, 0), (14, 0), (15, 2), (16, 2)] (by kernel_rfl) (by kernel_rfl) ?_
       replace hst := hst.drew
       refine idx_q rfl rfl ?_; go_wp2_with fail
       refine idx_q rfl rfl ?_; go_wp2_with fail
       refine idx_q rfl rfl ?_; go_wp2_with fail
       refine idx_q rfl rfl ?_; go_wp2_with ((refine L_idxS (d := some 68) rfl rfl rfl (by rfl) (by rfl) Tryd.underlying23 el_api_Note (by (exact hst.old (by decide) HX2.out)) (by omega) (by omega) ?_; intro o68 p68 ha68 hr68; ((subst ha68))))
       refine idx_qf rfl rfl (by kernel_rfl) ?_; go_wp2_with fail
       refine idx_q rfl rfl ?_; go_wp2_with ((refine L_load1 (d := some 70) rfl rfl rfl (by rfl) Tryd.underlying9 rfl (HC.out _ _ _ hr68) ?_))
       refine idx_q rfl rfl ?_; go_wp2_with fail
       refine idx_g rfl ?_; go_wp2_with fail; refine ⟨by (exact Below.refl _ _), ?_⟩
       refine idx_g rfl ?_; go_wp2_with ((refine L_idxS (d := some 73) rfl rfl rfl (by rfl) (by rfl) Tryd.underlying23 el_api_Note (by (exact hst.old (by decide) HX2.out)) (by omega) (by omega) ?_; intro o73 p73 ha73 hr73; ((obtain ⟨h1, h2⟩ := some_addr ha73; subst h1; subst h2; clear ha73)))); refine ⟨by (exact Below.refl _ _), ?_⟩
       refine idx_g rfl ?_; go_wp2_with fail; refine ⟨by (exact Below.refl _ _), ?_⟩
       refine idx_g rfl ?_; go_wp2_with ((refine L_loadM (d := some 75) rfl rfl rfl (by rfl) Tryd.underlying30 rfl el_api_Digest (HC2.out _ _ _ hr73) (Dig.size _) ?_)); refine ⟨by (exact Below.refl _ _), ?_⟩
       refine idx_e rfl ?_; go_wp2_with ((go_at_call 24; refine (HA.out _ _ hst).mono ?_; rintro e Wa ⟨rfl, q1, u1, u2, u3, hst'⟩; clear hst; have hst := hst'; clear hst'))
       refine idx_g rfl ?_; go_wp2_with fail; refine ⟨by (exact Below.refl _ _), ?_⟩
       refine idx_q rfl rfl ?_; go_wp2_with fail
       refine idx_q rfl rfl ?_; go_wp2_with fail
       refine idx_g rfl ?_; go_wp2_with fail; refine ⟨by (exact Below.refl _ _), ?_⟩
       refine idx_g rfl ?_; go_wp2_with fail; refine ⟨by (exact Below.refl _ _), ?_⟩
       refine idx_nil ?_
       replace hst := St.swap (X := lgL q1 key N1) (Y := [_]) (L := PL) hst
       simp only [List.cons_append, List.nil_append] at hst
       go_upto_region 20 with (go_big_may; first | (refine L_load1 (d := some 86) rfl rfl rfl (by rfl) Tryd.underlying9 rfl (HC.out _ _ _ hr84) ?_) | (refine L_idxS (d := some 84) rfl rfl rfl (by rfl) (by rfl) Tryd.underlying23 el_api_Note (by (exact hst.old (by decide) HX2.out)) (by omega) (by omega) ?_; intro o84 p84 ha84 hr84; ((obtain ⟨h1, h2⟩ := some_addr ha84; subst h1; subst h2; clear ha84))) | (refine L_eqStr (d := some 88) rfl rfl rfl eqG_str Tryd.underlying9 (ev_tmp rfl) (ev_tmp rfl) ?_; (try rw [HS.out])))
       by_cases hix : iu = is
       ·have hx1 : ((iu : Int) == (is : Int)) = true := by simp [hix]
        go_upto_region 21 with (go_big_may; first | (refine L_load1 (d := some 102) rfl rfl rfl (by rfl) Tryd.underlying9 rfl (HC.out _ _ _ hr100) ?_) | (refine L_load1 (d := some 111) rfl rfl rfl (by rfl) Tryd.underlying9 rfl (HC.out _ _ _ hr109) ?_) | (go_at_call_of 21 (Value.string (bsOf u)); (try clear hnew); refine (HIu.out _).mono ?_; rintro e Wk3 ⟨rfl, hnew⟩; replace hst := hst.keep hnew) | (go_at_call_of 21 (Value.string (bsOf s)); (try clear hnew); refine (HIs'.out _).mono ?_; rintro e Wk4 ⟨rfl, hnew⟩; replace hst := hst.keep hnew) | (refine L_idxS (d := some 100) rfl rfl rfl (by rfl) (by rfl) Tryd.underlying23 el_api_Note (by (exact hst.old (by decide) HX2.out)) (by omega) (by omega) ?_; intro o100 p100 ha100 hr100; ((obtain ⟨h1, h2⟩ := some_addr ha100; subst h1; subst h2; clear ha100))) | (refine L_neStr (d := some 104) rfl rfl rfl eqG_str Tryd.underlying9 (ev_tmp rfl) (ev_tmp rfl) ?_; (try rw [HSn.out])) | (refine L_idxS (d := some 109) rfl rfl rfl (by rfl) (by rfl) Tryd.underlying23 el_api_Note (by (exact hst.old (by decide) HX2.out)) (by omega) (by omega) ?_; intro o109 p109 ha109 hr109; ((obtain ⟨h1, h2⟩ := some_addr ha109; subst h1; subst h2; clear ha109))))
        go_wp2_with (fail)
        go_ret
        exact ⟨rfl, hst.forget⟩
       ·have hx1 : ((iu : Int) == (is : Int)) = false := by simp; omega
        have HW2 := Lib.hid (show Logged N1 ∧ MapsOf N1 q1.nm q1.am ∧ q1.g = gl ∧ q1.m = m ∧ noClash N1 s ∧ N1.length ≤ N.length + (i + 1) ∧ lk' = lastK N1 s ∧ has' = decide (0 < cntN N1 s) ∧ N1.take N.length = N ∧ N.length ≤ N1.length from ⟨v3', u3, u1, u2, HE3.out hix, v8', V9.out, V10.out, v11', v12'⟩)
        clear u1 u2 u3 v3' v8' v11' v12' hix
        go_upto_region 15 with (go_big_may; first | (refine L_load1 (d := some 102) rfl rfl rfl (by rfl) Tryd.underlying9 rfl (HC.out _ _ _ hr100) ?_) | (refine L_load1 (d := some 111) rfl rfl rfl (by rfl) Tryd.underlying9 rfl (HC.out _ _ _ hr109) ?_) | (go_at_call_of 21 (Value.string (bsOf u)); (try clear hnew); refine (HIu.out _).mono ?_; rintro e Wk5 ⟨rfl, hnew⟩; replace hst := hst.keep hnew) | (go_at_call_of 21 (Value.string (bsOf s)); (try clear hnew); refine (HIs'.out _).mono ?_; rintro e Wk6 ⟨rfl, hnew⟩; replace hst := hst.keep hnew) | (refine L_idxS (d := some 100) rfl rfl rfl (by rfl) (by rfl) Tryd.underlying23 el_api_Note (by (exact hst.old (by decide) HX2.out)) (by omega) (by omega) ?_; intro o100 p100 ha100 hr100; ((obtain ⟨h1, h2⟩ := some_addr ha100; subst h1; subst h2; clear ha100))) | (refine L_neStr (d := some 104) rfl rfl rfl eqG_str Tryd.underlying9 (ev_tmp rfl) (ev_tmp rfl) ?_; (try rw [HSn.out])) | (refine L_idxS (d := some 109) rfl rfl rfl (by rfl) (by rfl) Tryd.underlying23 el_api_Note (by (exact hst.old (by decide) HX2.out)) (by omega) (by omega) ?_; intro o109 p109 ha109 hr109; ((obtain ⟨h1, h2⟩ := some_addr ha109; subst h1; subst h2; clear ha109))))
        go_wp2_with (fail)
        go_roundg g
        case measure => omega
        case rel => exact ⟨i + 1, N1, q1, lk', has', Lib.hid (by have := HI.out; omega), HW2, rfl, by go_num, hst⟩
     ·have hL1 : addL N' u k = N' := by unfold addL; rw [if_neg h0]
      rewrite [hL1] at HA v3' v8' v11' v12'
      simp only [h0, if_false, errV] at HA
      generalize addE N' u = rr at *
      have V9 := Lib.hid v9
      have V10 := Lib.hid v10
      clear h0 hL1 v3 v4 v5 v6 v8 v9 v10 v11 v12 hi
      go_upto_region 16 with (go_big_may; fail)
      refine wp_region_idxT [(0, 0), (1, 0), (2, 0), (3, 0), (4, 0), (5, 0), (6, 0), (7, 2), (8, 2), (9, 2), (10, 2), (11, 1), (12, 2), (13, 0), (14, 0), (15, 2), (16, 2)] (by kernel_rfl) (by kernel_rfl) ?_
      replace hst := hst.drew
      refine idx_q rfl rfl ?_; go_wp2_with fail
      refine idx_q rfl rfl ?_; go_wp2_with fail
      refine idx_q rfl rfl ?_; go_wp2_with fail
      refine idx_q rfl rfl ?_; go_wp2_with ((refine L_idxS (d := some 68) rfl rfl rfl (by rfl) (by rfl) Tryd.underlying23 el_api_Note (by (exact hst.old (by decide) HX2.out)) (by omega) (by omega) ?_; intro o68 p68 ha68 hr68; ((subst ha68))))
      refine idx_qf rfl rfl (by kernel_rfl) ?_; go_wp2_with fail
      refine idx_q rfl rfl ?_; go_wp2_with ((refine L_load1 (d := some 70) rfl rfl rfl (by rfl) Tryd.underlying9 rfl (HC.out _ _ _ hr68) ?_))
      refine idx_q rfl rfl ?_; go_wp2_with fail
      refine idx_g rfl ?_; go_wp2_with fail; refine ⟨by (exact Below.refl _ _), ?_⟩
      refine idx_g rfl ?_; go_wp2_with ((refine L_idxS (d := some 73) rfl rfl rfl (by rfl) (by rfl) Tryd.underlying23 el_api_Note (by (exact hst.old (by decide) HX2.out)) (by omega) (by omega) ?_; intro o73 p73 ha73 hr73; ((obtain ⟨h1, h2⟩ := some_addr ha73; subst h1; subst h2; clear ha73)))); refine ⟨by (exact Below.refl _ _), ?_⟩
      refine idx_g rfl ?_; go_wp2_with fail; refine ⟨by (exact Below.refl _ _), ?_⟩
      refine idx_g rfl ?_; go_wp2_with ((refine L_loadM (d := some 75) rfl rfl rfl (by rfl) Tryd.underlying30 rfl el_api_Digest (HC2.out _ _ _ hr73) (Dig.size _) ?_)); refine ⟨by (exact Below.refl _ _), ?_⟩
      refine idx_e rfl ?_; go_wp2_with ((go_at_call 24; refine (HA.out _ _ hst).mono ?_; rintro e Wa ⟨rfl, q1, u1, u2, u3, hst'⟩; clear hst; have hst := hst'; clear hst'))
      refine idx_g rfl ?_; go_wp2_with fail; refine ⟨by (exact Below.refl _ _), ?_⟩
      refine idx_q rfl rfl ?_; go_wp2_with fail
      refine idx_q rfl rfl ?_; go_wp2_with fail
      refine idx_g rfl ?_; go_wp2_with fail; refine ⟨by (exact Below.refl _ _), ?_⟩
      refine idx_g rfl ?_; go_wp2_with fail; refine ⟨by (exact Below.refl _ _), ?_⟩
      refine idx_nil ?_
      have HW2 := Lib.hid (show Logged N' ∧ MapsOf N' q1.nm q1.am ∧ q1.g = gl ∧ q1.m = m ∧ noClash N' s ∧ N'.length ≤ N.length + (i + 1) ∧ lk' = lastK N' s ∧ has' = decide (0 < cntN N' s) ∧ N'.take N.length = N ∧ N.length ≤ N'.length from ⟨v3', u3, u1, u2, v7, v8', V9.out, V10.out, v11', v12'⟩)
      clear u1 u2 u3 v3' v7 v8' v11' v12'
      replace hst := St.swap (X := lgL q1 key N') (Y := [_]) (L := PL) hst
      simp only [List.cons_append, List.nil_append] at hst
      go_upto_region 20 with (first | (with_reducible refine L_pass (t := 82) rfl (by kernel_rfl) ?_) | (with_reducible refine L_pass (t := 83) rfl (by kernel_rfl) ?_) | (with_reducible refine L_pass (t := 84) rfl (by kernel_rfl) ?_) | (with_reducible refine L_pass (t := 85) rfl (by kernel_rfl) ?_) | (with_reducible refine L_pass (t := 86) rfl (by kernel_rfl) ?_) | (with_reducible refine L_pass (t := 87) rfl (by kernel_rfl) ?_) | (with_reducible refine L_pass (t := 88) rfl (by kernel_rfl) ?_))
      go_upto_region 15 with (first | (with_reducible refine L_pass (t := 98) rfl (by kernel_rfl) ?_) | (with_reducible refine L_pass (t := 99) rfl (by kernel_rfl) ?_) | (with_reducible refine L_pass (t := 100) rfl (by kernel_rfl) ?_) | (with_reducible refine L_pass (t := 101) rfl (by kernel_rfl) ?_) | (with_reducible refine L_pass (t := 102) rfl (by kernel_rfl) ?_) | (with_reducible refine L_pass (t := 103) rfl (by kernel_rfl) ?_) | (with_reducible refine L_pass (t := 104) rfl (by kernel_rfl) ?_) | (with_reducible refine L_pass (t := 107) rfl (by kernel_rfl) ?_) | (with_reducible refine L_pass (t := 108) rfl (by kernel_rfl) ?_) | (with_reducible refine L_pass (t := 109) rfl (by kernel_rfl) ?_) | (with_reducible refine L_pass (t := 110) rfl (by kernel_rfl) ?_) | (with_reducible refine L_pass (t := 111) rfl (by kernel_rfl) ?_) | (with_reducible refine L_pass (t := 112) rfl (by kernel_rfl) ?_) | (with_reducible refine L_pass (t := 113) rfl (by kernel_rfl) ?_) | (with_reducible refine L_pass (t := 114) rfl (by kernel_rfl) ?_) | (with_reducible refine L_pass (t := 115) rfl (by kernel_rfl) ?_))
      go_wp2_with (fail)
      go_roundg g
      case measure => omega
      case rel => exact ⟨i + 1, N', q1, lk', has', Lib.hid (by have := HI.out; omega), HW2, rfl, by go_num, hst⟩
    ·obtain rfl : gk = 0 := by omega
     obtain rfl : i = cn := by omega
     clear hi
     obtain ⟨v3, v4, v5, v6, v7, v8, v9, v10, v11, v12⟩ := HW.out
     have hPL := HPL.out
     subst hPL
     clear HPL
     have hN40 := HV.out.2.2.2.2.2.1
     have hle := v3.len
     have hTk := take_honest key v12 hle
     rewrite [v11, show tagN key (N'.length : Int) (rootN (lvN N')) (mapN N') = headR key N' from rfl] at hTk
     have HH := Lib.hid (fun (w' : World) (ht : Tb w') (h : LgAt w' q' key N') => by
      have := headK_any key N' q' w' ht h v4 v3 (by omega)
      rewrite [v5] at this
      exact this)
     have HS := Lib.hid (fun (w' : World) (L : List Res) h (h1 : (1 : Int) ≤ (N.length : Int)) => by
      have := since_any key N' q' (N.length : Int) w w' L HT.out h v3 h1 (by omega)
      rewrite [v5, Int.toNat_natCast] at this
      exact this)
     have HP := Lib.hid (fun h : N.length ≠ 0 => show prfN N' N.length = gpN (lvN N') N.length true ∧ (prfN N' N.length).length = plN N'.length N.length true by
      unfold prfN
      rw [if_neg h]
      exact ⟨rfl, length_gpN N'.length (lvN N') N.length true (length_lvN N')⟩)
     have HP0 := Lib.hid (fun h : N.length = 0 => show prfN N' N.length = [] by unfold prfN; rw [if_pos h])
     have HK := Lib.hid (fun (w' : World) (P : Option Addr) (pn pc : Nat) (L : List Res) (hl : (prfN N' N.length).length = pn) hp h => ptake_gen key gp O m oc (N.length : Int) (rootN (lvN N)) (mapN N) z (N'.length : Int) (rootN (lvN N')) (mapN N') (headR key N') (prfN N' N.length) P pn pc w w' L HT.out hl hp h (by omega) (by omega) (by omega) (by omega))
     rewrite [hTk, errO_0, pinAft_0] at HK
     have HF := Lib.hid (fun (w' : World) (L : List Res) h => by
      have := findU_any key N' s q' w w' L HT.out h v4 v3 HSn.out
      unfold FindEnd at this
      rewrite [v5] at this
      exact this)
     have ht1 := find_turn v3 s
     have hlk := told_look v3 HSn.out v7
     have HLk := Lib.hid (fun (w' : World) (z : Dig) (P1 : Option Addr) (c1 : Nat) (P2 : Option Addr) (c2 : Nat) (ht : Tb w') (h1 : SlR w' P1 (findN N' s).path.length c1 32 (digsL (findN N' s).path)) (h2 : SlR w' P2 (findN N' s).mpath.length c2 32 (digsL (findN N' s).mpath)) => by
      have := look_any (N'.length : Int) (rootN (lvN N')) (mapN N') z s (findN N' s) P1 _ c1 P2 _ c2 w' ht h1 h2 ht1.1 ht1.2
      rewrite [hlk] at this
      exact this)
     obtain ⟨n1, n2, n3, hn, hcase⟩ := told_case v3 s
     have hlv : lookV (0, lastN? N' s) = .tuple #[.agg (ntArr n1 n2 n3), .bool (lastN? N' s).isSome, .nilIface] := by
      unfold lookV
      rw [hn]
      rfl
     rewrite [hlv] at HLk
     have hc2 : ((lastN? N' s).isSome = false ∧ has' = false) ∨ ((lastN? N' s).isSome = true ∧ has' = true ∧ n2 = lk') := by
      rcases hcase with ⟨h1, h2⟩ | ⟨h1, h2, -, h4, -⟩
      ·exact .inl ⟨h1, by rw [v10, h2]; rfl⟩
      ·exact .inr ⟨h1, by rw [v10]; exact decide_eq_true h2, by rw [h4, v9]⟩
     have HCase := Lib.hid hc2
     have HNext := Lib.hid (show Logged N' ∧ MapsOf N' q'.nm q'.am ∧ q'.g = gl ∧ q'.m = m ∧ noClash N' s ∧ N'.length ≤ 40 * (r + 1) ∧ lk' = lastK N' s ∧ has' = decide (0 < cntN N' s) from ⟨v3, v4, v5, v6, v7, by omega, v9, v10⟩)
     clear hc2 hcase v3 v4 v5 v6 v7 v8 v9 v10 v11 hle hTk hlv hn ht1 hlk hN40
     generalize hg1 : (lastN? N' s).isSome = rb at HLk HCase
     generalize hg2 : headR key N' = tg at HH HK
     generalize hg3 : rootN (lvN N') = x1 at HH HK HLk
     generalize hg4 : mapN N' = y1 at HH HK HLk
     generalize hg5 : rootN (lvN N) = x0 at HK hst
     generalize hg6 : mapN N = y0 at HK hst
     generalize hg7 : prfN N' N.length = pf at HK HP HP0
     generalize hg8 : findN N' s = F at HF HLk
     have HG3 := Lib.hid (And.intro hg3 hg4)
     obtain ⟨m0, hm0⟩ : ∃ m0, m0 = N.length := ⟨_, rfl⟩
     have hm80 : m0 ≤ N'.length := by omega
     rewrite [← hm0] at HS HP HP0 HK hst
     clear hg1 hg2 hg3 hg4 hg5 hg6 hg7 hg8 v12 hm0
     obtain ⟨⟨f1, f2, f3⟩, f4, f5, f6⟩ := F
     simp only at HF HLk
     go_upto_region 22 with (go_big_may; fail)
     go_upto_region 23 with (go_big_may; fail)
     go_upto_if 120 with (go_big_may; first | (refine L_field1 (d := some 119) rfl rfl rfl Tryd.underlying32 rfl (ev_tmp rfl) Tryd.underlying3 rfl hdArr_0 ?_) | (go_at_call 25; refine (held_any _ _ _ _ _ _ _ _ _ _ _ (hst.get 6 rfl)).mono ?_; rintro e Wh ⟨rfl, hnew⟩; replace hst := hst.keep hnew))
     go_cut [18] (fun s18 wx => ∃ (P : Option Addr) (pn pc : Nat), s18 = .slice P pn pc ∧ Hid (pf.length = pn) ∧ St w wx (.row P pn pc 30 32 (digsL pf) :: .blk g12 30 lk'.arr :: (lgL q' key N' ++ pinL gp O m oc key (m0 : Int) x0 y0 z)))
     case first =>
      by_cases h0 : m0 = 0
      ·have hz : ¬ (0 : Int) < (m0 : Int) := by omega
       have hpf := HP0.out h0
       clear HH HS HP HP0 HK HF HLk
       go_wp2_with fail
       go_meet
       case rel => exact ⟨none, 0, 0, rfl, Lib.hid (by rw [hpf]; rfl), by rw [hpf]; exact hst.nilRow 30 32⟩
      ·have hz : (0 : Int) < (m0 : Int) := by omega
       have hpf := HP.out h0
       have HS2 := Lib.hid (fun (w' : World) (L : List Res) h => HS.out w' L h (by omega))
       rewrite [← hpf.1, ← hpf.2] at HS2
       have HPf := Lib.hid hpf.2
       clear HH HS HP HP0 HK HF HLk hpf h0
       replace hst := St.swap (X := [_]) (Y := lgL q' key N') (L := pinL gp O m oc key (m0 : Int) x0 y0 z) hst
       go_upto_region 25 with (go_big_may; first | (refine L_field1 (d := some 125) rfl rfl rfl Tryd.underlying32 rfl (ev_tmp rfl) Tryd.underlying3 rfl hdArr_0 ?_) | (go_at_call 25; refine (held_any _ _ _ _ _ _ _ _ _ _ _ (hst.get 6 rfl)).mono ?_; rintro e Wh ⟨rfl, hnew⟩; replace hst := hst.keep hnew) | (go_at_call 26; refine (HS2.out _ _ hst).mono ?_; rintro e Ws ⟨Os, os, rfl, hst'⟩; clear hst; have hst := hst'; clear hst'))
       go_upto_region 27 with (go_big_may; fail)
       go_wp2_with fail
       go_meet
       case rel => exact ⟨Os, _, os, rfl, Lib.hid rfl, (hst.perm ((List.perm_append_comm_assoc (lgL q' key N') [_] _).cons _))⟩
     case rest =>
      obtain ⟨P, pn, pc, rfl, HPl, hst⟩ := hcut
      clear HS HP HP0
      simp only [lgL, pinL, List.cons_append, List.nil_append] at hst
      go_upto_region 30 with (go_big_may; first | (go_at_call 14; (try clear hnew); refine (HH.out _ (HT.out.of hst) ⟨hst.get 2 rfl, hst.sl 3 rfl, hst.sl 4 rfl, hst.obj 5 rfl, hst.obj 6 rfl⟩).mono ?_; rintro e Wk7 ⟨rfl, hnew⟩; replace hst := hst.keep hnew) | (go_at_call 27; (try clear hnew); refine (HK.out _ P pn pc _ HPl.out (fun W' X h => (h.perm List.perm_append_comm).sl 0 rfl) (hst.pick [7, 8, 0, 1, 2, 3, 4, 5, 6] (by decide))).mono ?_; rintro e Wt ⟨rfl, hst'⟩; simp only [List.filterMap_cons, List.filterMap_nil, List.getElem?_cons_zero, List.getElem?_cons_succ] at hst'; clear hst; have hst := hst'; clear hst'))
      clear HH HK
      have hst' : St w _ (lgL q' key N' ++ [.blk gp 121 (pinArr O m oc (N'.length : Int) x1 y1 tg), .row O m oc 5 1 (bytesL key), .row P pn pc 30 32 (digsL pf), .blk g12 30 lk'.arr]) := hst.pick [4, 5, 6, 7, 8, 0, 1, 2, 3] (by decide)
      clear hst
      have hst := hst'
      clear hst'
      go_upto_region 31 with (go_big_may; first | (go_at_call 30; refine (HF.out _ _ hst).mono ?_; rintro e Wf ⟨P1, c1, P2, c2, rfl, hst'⟩; clear hst; have hst := hst'; clear hst'; simp only [lgL, List.cons_append, List.nil_append] at hst) | (refine L_allocA (d := some 21) rfl rfl rfl el_api_Found ?_; (try clear hnew); intro g21 W21 hnew; replace hst := hst.trans hnew; simp only [List.cons_append, List.nil_append] at hst) | (refine wpl_at (.store 44 (.tmp 21) (.tmp 142)) rfl ?_; (refine L_storeA rfl rfl hst rfl (by rfl) (ev_tmp rfl) (by (exact fdArr_all _ _ _ _ _ _ _ _ _ _)) el_api_Found (by (exact fdArr_size _ _ _ _ _ _ _ _ _ _)) 0 rfl (by (rfl)) ?_; clear hst; intro WS7 hst; simp only [List.set_cons_zero, List.set_cons_succ] at hst)))
      clear HF
      go_cut [23, 24, 25] (fun s23 s24 s25 wx => ∃ g23, s23 = .pointer (some ⟨g23, 0, none⟩) ∧ s24 = .bool rb ∧ s25 = .nilIface ∧ St w wx (.blk g23 35 (ntArr n1 n2 n3) :: .blk g12 30 lk'.arr :: (lgL q' key N' ++ pinL gp O m oc key (N'.length : Int) x1 y1 tg)))
      case first =>
       (try clear hnew)
       refine wp_region_pm (.one 0 3 (.one 2 3 (.one 3 0 (.two 1 2 (.two 4 2 (.one 5 3 (.one 6 3 (.one 7 3 (.one 8 3 (.one 9 2 (.one 10 1 (.one 11 2 (.one 12 2 .nil)))))))) 9 2 (.one 4 2 (.one 5 2 (.one 6 3 (.one 7 3 (.one 8 3 (.one 10 1 (.one 11 2 (.one 12 2 .nil))))))))) 9 2 (.one 1 2 (.one 4 2 (.one 5 2 (.one 6 3 (.one 7 3 (.one 8 3 (.one 10 1 (.one 11 2 (.one 12 2 .nil))))))))))))) (by kernel_rfl) (by kernel_rfl) ?_
       replace hst := hst.drew
       refine pm_p rfl rfl ?_; go_wp2_with fail
       refine pm_p rfl rfl ?_; go_wp2_with fail
       refine pm_q rfl rfl ?_; go_wp2_with (((refine L_loadA (d := some 148) rfl rfl rfl (by rfl) Tryd.underlying44 rfl el_api_Found (by (exact hst.get 0 rfl)) (by (exact fdArr_size _ _ _ _ _ _ _ _ _ _)) ?_)))
       refine pm_two (ki := 2) (kj := 2) rfl rfl ?_ ?_
       ·go_wp2_with ((go_at_call 25; (try clear hnew); refine (held_any _ _ _ _ _ _ _ _ _ _ _ (by (exact hst.get 8 rfl))).mono ?_; rintro e Wh ⟨rfl, hnew⟩; replace hst := hst.keep hnew)); refine ⟨fun _ => (by (exact hnew.below)), ?_⟩
        refine pm_two (ki := 2) (kj := 2) rfl rfl ?_ ?_
        ·go_wp2_with ((go_at_call 18; (try clear hnew); refine (HLk.out _ _ _ _ _ _ (HT.out.of hst) (by (exact hst.sl 1 rfl)) (by (exact hst.sl 2 rfl))).mono ?_; rintro e Wk8 ⟨rfl, hnew⟩; replace hst := hst.keep hnew)); refine ⟨fun _ => (by (exact hnew.below)), ?_⟩
         refine pm_p rfl rfl ?_; go_wp2_with fail
         refine pm_p rfl rfl ?_; go_wp2_with fail
         refine pm_p rfl rfl ?_; go_wp2_with fail
         refine pm_p rfl rfl ?_; go_wp2_with fail
         refine pm_g rfl ?_; go_wp2_with ((refine L_allocA (d := some 23) rfl rfl rfl el_api_Note ?_; (try clear hnew); intro g23 W23 hnew; replace hst := hst.trans hnew; simp only [List.cons_append, List.nil_append] at hst)); refine ⟨by (exact hnew.below), ?_⟩
         refine pm_e rfl ?_; go_wp2_with ((refine wpl_at (.store 35 (.tmp 23) (.tmp 150)) rfl ?_; (refine L_storeA rfl rfl hst rfl (by rfl) (ev_tmp rfl) (by (exact ntArr_all _ _ _)) el_api_Note (by (exact ntArr_size _ _ _)) 0 rfl (by (rfl)) ?_; clear hst; intro WS10 hst; simp only [List.set_cons_zero, List.set_cons_succ] at hst)))
         refine pm_g rfl ?_; go_wp2_with fail; refine ⟨by (exact Below.refl _ _), ?_⟩
         refine pm_g rfl ?_; go_wp2_with fail; refine ⟨by (exact Below.refl _ _), ?_⟩
         refine pm_nil ?_
         go_wp2_with fail
         go_meet
         case rel => exact ⟨_, rfl, rfl, rfl, hst.pick [0, 12, 4, 5, 6, 7, 8, 9, 10] (by decide)⟩
        ·go_wp2_with ((refine L_allocA (d := some 23) rfl rfl rfl el_api_Note ?_; (try clear hnew); intro g23 W23 hnew; replace hst := hst.trans hnew; simp only [List.cons_append, List.nil_append] at hst)); refine ⟨fun _ => (by (exact hnew.below)), ?_⟩
         refine pm_g rfl ?_; go_wp2_with ((go_at_call 18; (try clear hnew); refine (HLk.out _ _ _ _ _ _ (HT.out.of hst) (by (exact hst.sl 2 rfl)) (by (exact hst.sl 3 rfl))).mono ?_; rintro e Wk8 ⟨rfl, hnew⟩; replace hst := hst.keep hnew)); refine ⟨by (exact hnew.below), ?_⟩
         refine pm_g rfl ?_; go_wp2_with fail; refine ⟨by (exact Below.refl _ _), ?_⟩
         refine pm_p rfl rfl ?_; go_wp2_with fail
         refine pm_p rfl rfl ?_; go_wp2_with fail
         refine pm_p rfl rfl ?_; go_wp2_with fail
         refine pm_e rfl ?_; go_wp2_with ((refine wpl_at (.store 35 (.tmp 23) (.tmp 150)) rfl ?_; (refine L_storeA rfl rfl hst rfl (by rfl) (ev_tmp rfl) (by (exact ntArr_all _ _ _)) el_api_Note (by (exact ntArr_size _ _ _)) 0 rfl (by (rfl)) ?_; clear hst; intro WS10 hst; simp only [List.set_cons_zero, List.set_cons_succ] at hst)))
         refine pm_g rfl ?_; go_wp2_with fail; refine ⟨by (exact Below.refl _ _), ?_⟩
         refine pm_g rfl ?_; go_wp2_with fail; refine ⟨by (exact Below.refl _ _), ?_⟩
         refine pm_nil ?_
         go_wp2_with fail
         go_meet
         case rel => exact ⟨_, rfl, rfl, rfl, hst.pick [0, 12, 4, 5, 6, 7, 8, 9, 10] (by decide)⟩
       ·go_wp2_with ((refine L_allocA (d := some 23) rfl rfl rfl el_api_Note ?_; (try clear hnew); intro g23 W23 hnew; replace hst := hst.trans hnew; simp only [List.cons_append, List.nil_append] at hst)); refine ⟨fun _ => (by (exact hnew.below)), ?_⟩
        refine pm_g rfl ?_; go_wp2_with ((go_at_call 25; (try clear hnew); refine (held_any _ _ _ _ _ _ _ _ _ _ _ (by (exact hst.get 9 rfl))).mono ?_; rintro e Wh ⟨rfl, hnew⟩; replace hst := hst.keep hnew)); refine ⟨by (exact hnew.below), ?_⟩
        refine pm_g rfl ?_; go_wp2_with ((go_at_call 18; (try clear hnew); refine (HLk.out _ _ _ _ _ _ (HT.out.of hst) (by (exact hst.sl 2 rfl)) (by (exact hst.sl 3 rfl))).mono ?_; rintro e Wk8 ⟨rfl, hnew⟩; replace hst := hst.keep hnew)); refine ⟨by (exact hnew.below), ?_⟩
        refine pm_g rfl ?_; go_wp2_with fail; refine ⟨by (exact Below.refl _ _), ?_⟩
        refine pm_p rfl rfl ?_; go_wp2_with fail
        refine pm_p rfl rfl ?_; go_wp2_with fail
        refine pm_p rfl rfl ?_; go_wp2_with fail
        refine pm_e rfl ?_; go_wp2_with ((refine wpl_at (.store 35 (.tmp 23) (.tmp 150)) rfl ?_; (refine L_storeA rfl rfl hst rfl (by rfl) (ev_tmp rfl) (by (exact ntArr_all _ _ _)) el_api_Note (by (exact ntArr_size _ _ _)) 0 rfl (by (rfl)) ?_; clear hst; intro WS10 hst; simp only [List.set_cons_zero, List.set_cons_succ] at hst)))
        refine pm_g rfl ?_; go_wp2_with fail; refine ⟨by (exact Below.refl _ _), ?_⟩
        refine pm_g rfl ?_; go_wp2_with fail; refine ⟨by (exact Below.refl _ _), ?_⟩
        refine pm_nil ?_
        go_wp2_with fail
        go_meet
        case rel => exact ⟨_, rfl, rfl, rfl, hst.pick [0, 12, 4, 5, 6, 7, 8, 9, 10] (by decide)⟩
      case rest =>
       obtain ⟨g23, rfl, rfl, rfl, hst⟩ := hcut
       clear HLk HIs
       rcases HCase.out with ⟨h1, h2⟩ | ⟨h1, h2, h3⟩
       ·subst h1
        subst h2
        go_upto_region 34 with (first | (with_reducible refine L_pass (t := 167) rfl (by kernel_rfl) ?_) | (with_reducible refine L_pass (t := 168) rfl (by kernel_rfl) ?_) | (with_reducible refine L_pass (t := 169) rfl (by kernel_rfl) ?_) | (with_reducible refine L_pass (t := 170) rfl (by kernel_rfl) ?_))
        go_upto_region 12 with (go_big_may; fail)
        go_wp2_with (fail)
        go_roundg gg
        case measure => omega
        case rel => exact ⟨r + 1, N', q', tg, lk', false, B, bn, bc, ms, Lib.hid (by have := HR.out; omega), HNext, Lib.hid ⟨HY.out, h41', note_lenK HY.out⟩, rfl, rfl, by go_num, by rw [HG3.out.1, HG3.out.2]; exact hst.tail⟩
       ·subst h1
        subst h2
        have HDD := Lib.hid (show (!decide (n2 = lk')) = false by simp [h3])
        clear h3
        go_upto_region 34 with (go_big_may; first | ((refine L_loadM (d := some 168) rfl rfl rfl (by rfl) Tryd.underlying30 rfl el_api_Digest (by (exact ntArr_key (hst.get 0 rfl))) (by (exact Dig.size _)) ?_)) | ((refine L_loadA (d := some 169) rfl rfl rfl (by rfl) Tryd.underlying30 rfl el_api_Digest (by (exact hst.get 1 rfl)) (by (exact Dig.size _)) ?_)) | (refine L_neD (d := some 170) rfl rfl rfl Tryd.underlying30 Tryd.underlying5 el_uint8 eqG_D (ev_tmp rfl) (ev_tmp rfl) ?_; (try rw [HDD.out])))
        go_upto_region 12 with (go_big_may; fail)
        go_wp2_with (fail)
        go_roundg gg
        case measure => omega
        case rel => exact ⟨r + 1, N', q', tg, lk', true, B, bn, bc, ms, Lib.hid (by have := HR.out; omega), HNext, Lib.hid ⟨HY.out, h41', note_lenK HY.out⟩, rfl, rfl, by go_num, by rw [HG3.out.1, HG3.out.2]; exact hst.tail⟩
  ·obtain rfl : r = 2 := by omega
   go_upto_region 35 with (go_big_may; fail)
   go_wp2_with (fail)
   go_ret
   exact ⟨rfl, hst.forget⟩
end Go.Proofs.YtaebeemnipafbaaDoor

namespace Go.Proofs.YtaebeemnipafbaaDoor.topKey
open Go.ChangeShapes Go.WideShapes Go.ChangeAt Go.RowKit
theorem own : ownKnob Tryd.prog.godebug = none := by kernel_rfl
theorem laidOut : laidOutB Tryd.prog = true := by kernel_rfl
theorem cellsD : Tryd.prog.cellsOf 30 = 32 := by kernel_rfl
theorem cells8 : Tryd.prog.cellsOf 5 = 1 := by kernel_rfl
set_option maxHeartbeats 4000000 in
set_option maxRecDepth 100000 in
theorem contract (H : Type) (enc : TypeId × Value → H) (W : World) (base : Nat) (args : Array Value) (ds gs : List (DataW H)) (before : List MemPlace)
  (hval : ∀ (j : Nat) t v, Tryd.f10.params[j]? = some t → args[j]? = some v → Value.okWide Tryd.prog W .any base t v)
  (hW : DataW.Whole enc Tryd.prog Tryd.f10.params.toList Rows.topKeySpec.vars false W args.toList ds gs before) (hT : Tb W)
  (hz : (DataW.weightsEach Tryd.prog (Tryd.f10.params.toList ++ (OpenSpec.ofChange Rows.topKeySpec).bare.plain.varTypes Tryd.prog) (ds ++ gs)).all (· ≤ reachBytes) = true) :
  Calls Tryd.prog 10 args W fun e W' => ∃ v, e = .returned v ∧ Rows.topKeySpec.post enc Tryd.prog Tryd.f10 false true false false W args v W' := by
 have hW' := hW
 obtain ⟨p, q, hA0, hV, rfl, hfz, hnd⟩ := hW
 have hA : DataW.TrodAll enc Tryd.prog W 0 (fun _ => true) true Tryd.f10.params.toList args.toList ds p := hA0
 rw [Tryd.params10] at hA hval hz
 obtain ⟨v0, vs0, d0, ds0, p0, q0, hargs, rfl, rfl, h0, r0⟩ := trodAll_cons hA
 obtain ⟨v1, vs1, d1, ds1, p1, q1, rfl, rfl, rfl, h1, r1⟩ := trodAll_cons r0
 obtain ⟨v2, vs2, d2, ds2, p2, q2, rfl, rfl, rfl, h2, r2⟩ := trodAll_cons r1
 obtain ⟨v3, vs3, d3, ds3, p3, q3, rfl, rfl, rfl, h3, r3⟩ := trodAll_cons r2
 obtain ⟨rfl, rfl, rfl⟩ := trodAll_nil r3
 obtain rfl : args = #[v0, v1, v2, v3] := by cases args; simp_all
 obtain ⟨rfl, rfl⟩ := trodVars_none hV
 obtain ⟨A0, n0, c0, a0, rfl, hs0, hd0⟩ := open_bytesS Tryd.underlying22 Tryd.underlying5 cells8 (hval 0 _ v0 rfl rfl) h0
 have hn0 : n0 * 1 ≤ 140737488351232 := by
  rcases hd0 with ⟨_, h0⟩ | ⟨el, sp, rfl, hel⟩
  ·rw [h0]; decide
  ·have := sized_slice hz (j := 0) (e := 5) rfl rfl Tryd.underlying22
   rw [show Tryd.prog.bytesOf 5 = 1 from by kernel_rfl] at this
   have := reach_le this
   rw [← hel]
   omega
 obtain ⟨A1, n1, c1, a1, rfl, hs1, hw1, hd1⟩ := open_notesS Tryd.underlying23 Tryd.underlying35 Tryd.underlying9 rfl Tryd.underlying3 Tryd.underlying30 Tryd.underlying5 cells8 cellsD rfl rfl rfl (by kernel_rfl) (by kernel_rfl) (by kernel_rfl) (hval 1 _ v1 rfl rfl) h1
 obtain ⟨A2, n2, c2, a2, rfl, hs2, hw2, hd2⟩ := open_notesS Tryd.underlying23 Tryd.underlying35 Tryd.underlying9 rfl Tryd.underlying3 Tryd.underlying30 Tryd.underlying5 cells8 cellsD rfl rfl rfl (by kernel_rfl) (by kernel_rfl) (by kernel_rfl) (hval 2 _ v2 rfl rfl) h2
 obtain ⟨b3, rfl, rfl, rfl, ws3⟩ := Go.ChangeMaps.open_string Tryd.underlying9 (hval 3 _ v3 rfl rfl) h3
 obtain ⟨a3, ha3⟩ : ∃ a, b3 = bsOf a := ⟨_, bsOf_eta b3⟩
 subst ha3
 have hn3 : a3.length ≤ 140737488351232 := by
  have h := sized_string hz (j := 3) rfl rfl
  rw [bsOf_list] at h
  have := reach_le (n := a3.length) (b := 1) (by rw [Nat.mul_one]; exact h)
  omega
 have lt0 : ∀ x ∈ p0, x.block < W.heap.size := by obtain ⟨m, hm⟩ := h0; exact DataW.trod_lt m _ _ _ hm
 have lt1 : ∀ x ∈ p1, x.block < W.heap.size := by obtain ⟨m, hm⟩ := h1; exact DataW.trod_lt m _ _ _ hm
 have lt2 : ∀ x ∈ p2, x.block < W.heap.size := by obtain ⟨m, hm⟩ := h2; exact DataW.trod_lt m _ _ _ hm
 clear hA0
 refine (topKey_any W hT a0 A0 n0 c0 hs0 hn0 a1 A1 n1 c1 hs1 a2 A2 n2 c2 hs2 a3 hn3).mono fun e W' ⟨he, hst⟩ => ?_
 have bel := hst.below
 subst he
 exact ⟨_, rfl, _, _, _, [], _, [], hW', trodAll_mk1 (shut_bool Tryd.underlying4 _),
  (trodAll_cons_mk (Below.trod laidOut (by kernel_rfl) (of_decide_eq_true (by kernel_rfl)) h0 bel lt0) (trodAll_cons_mk (Below.trod laidOut (by kernel_rfl) (of_decide_eq_true (by kernel_rfl)) h1 bel lt1) (trodAll_cons_mk (Below.trod laidOut (by kernel_rfl) (of_decide_eq_true (by kernel_rfl)) h2 bel lt2) (trodAll_cons_mk (Go.ChangeMaps.shut_string Tryd.underlying9 ws3) trodAll_mk0)))), rfl, bel.frame _, fun h => by cases h⟩
noncomputable def laidWorld (os : Os) : World :=
 { World.holding Tryd.prog os ⟨#[], #[], []⟩ with heap := (World.holding Tryd.prog os ⟨#[], #[], []⟩).heap.modify 1 fun
   | .cells _ t frozen => .cells tblArr t frozen
   | o => o }
theorem laid_met (os : Os) : laidMet Tryd.prog Rows.topKeyRow.laid ((laidWorld os).forCall (fun _ _ => 0) ⟨#[], #[.slice none 0 0, .slice none 0 0, .slice none 0 0, .string ⟨#[]⟩], []⟩).memory :=
 laidMet_of_run' 8 (by kernel_rfl) (by kernel_rfl)
theorem reads (os : Os) {H : Type} (enc : TypeId × Value → H) : ∃ places, DataW.whole enc Tryd.prog ((laidWorld os).forCall (fun _ _ => 0) ⟨#[], #[.slice none 0 0, .slice none 0 0, .slice none 0 0, .string ⟨#[]⟩], []⟩).memory Tryd.f10.params.toList Rows.topKeySpec.vars false (#[.slice none 0 0, .slice none 0 0, .slice none 0 0, .string ⟨#[]⟩] : Array Value).toList 8 = some ([.nil, .nil, .nil, .lit (.string [])], [], places) :=
 ⟨[], by kernel_rfl⟩
set_option maxRecDepth 100000 in
theorem lifted (os : Os) (started : os.Started) (H : Type) (enc : TypeId × Value → H) (F : Stop.Interp) :
  ReturnsInHanded {} Tryd.checked os 10 .any ((OpenSpec.ofChange Rows.topKeySpec).preRow enc Tryd.prog Tryd.f10 Rows.topKeyRow.domain false Rows.topKeyRow.laid) (((OpenSpec.ofChange Rows.topKeySpec).at F).post enc Tryd.prog Tryd.f10 false true false false) := by
 obtain ⟨places, hx⟩ := reads os enc
 refine returnsInHanded_of_row (C := Tryd.checked) (s := (OpenSpec.ofChange Rows.topKeySpec)) own started (by kernel_rfl) Tryd.func10
  (witness_row_at (enc := enc) (C := Tryd.checked) false (laidWorld os) #[.slice none 0 0, .slice none 0 0, .slice none 0 0, .string ⟨#[]⟩] rfl (by kernel_rfl) (by kernel_rfl) (by kernel_rfl)
   (OpenSpec.preRow_of_cond 8 hx (by kernel_rfl) (fun k hk => by cases hk) (by kernel_rfl) (laid_met os))) ?_
 intro W base args ds gs before hval hW _ _ hz hL _ _
 exact contract H enc W base args ds gs before hval hW (tb_of hL) hz
theorem said : Rows.TopKeySaid :=
 OpenClaim.holds_of_cond 10 Tryd.f10 rfl rfl rfl rfl rfl rfl rfl ⟨rfl, rfl, rfl, rfl, rfl⟩ rfl rfl rfl rfl rfl (by kernel_rfl) Tryd.func10 (by kernel_rfl)
  (of_decide_eq_true (by kernel_rfl)) (by unfold Func.isWrapper; first | (rw [if_pos (by decide +kernel)]; kernel_rfl) | (rw [if_neg (by decide +kernel)]; exact ⟨rfl, rfl⟩))
  (fun os started H enc _ F => by rw [OpenClaim.pre_eq_preRow]; exact lifted os started H enc F)
theorem plain (f : FuncId) (fn : Func) (hf : Tryd.pinned.checked.prog.funcNamed "oathbook/oathbooktop.TopKey" = some f) (hfn : Tryd.pinned.checked.prog.funcs[f]? = some fn) :
  true = Tryd.pinned.checked.prog.looks [] ∧ ∀ (j : Nat) t, fn.params[j]? = some t → Tryd.pinned.checked.prog.wantsStandIn t = false := by
 obtain rfl : f = 10 := Option.some.inj ((show Tryd.prog.funcNamed "oathbook/oathbooktop.TopKey" = some 10 by kernel_rfl).symm.trans hf) |>.symm
 obtain rfl : fn = Tryd.f10 := (Option.some.inj (Tryd.func10.symm.trans hfn)).symm
 refine ⟨by kernel_rfl, fun j t ht => ?_⟩
 rw [Tryd.params10] at ht
 have hm := Array.mem_of_getElem? ht
 have ha : ∀ t ∈ #[22, 23, 23, 9], Tryd.prog.wantsStandIn t = false := by
  intro t ht
  simp only [List.mem_toArray, List.mem_cons, List.not_mem_nil, or_false] at ht
  rcases ht with rfl | rfl | rfl | rfl <;> kernel_rfl
 exact ha t hm
theorem proved : Rows.TopKeyCardSaid :=
 Claim7.holds_tied_plain_at .later [] _ _ _ _ said (fun _ h => by cases h) (by kernel_rfl) (fun _ h => by cases h) topKey_row_tie rfl ⟨rfl, rfl⟩ (by kernel_rfl) rfl plain (by kernel_rfl)
#print axioms proved
end Go.Proofs.YtaebeemnipafbaaDoor.topKey
