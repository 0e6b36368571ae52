/-
  Proved here: GrowTells: the law returns true for every input, and leaves its arguments as they were.
-/
import Derived.Test.YtfpppmamkmaneaaDoorPkGrowTellsC
import Derived.Test.YtfpppmamkmaneaaDoorSameD
import Derived.Test.YtfpppmamkmaneaaDoorRows
import Derived.LaidHandle
import Derived.LaidLaws
import Derived.ChangeSame
import Derived.ChangeVars
import Derived.JoinedOf
import Derived.RowKit
import Derived.RowKitTokens
import Derived.Stop.Joined
import Derived.Test.YtfpppmamkmaneaaDoorOpenB
import Derived.Test.YtfpppmamkmaneaaDoorCards
import Derived.Test.YtfpppmamkmaneaaDoorTie
import Derived.Deep.DeepHandedRow
import Derived.ProofKit
import Derived.OpenShut
set_option maxRecDepth 20000
set_option linter.unusedSimpArgs false
set_option linter.unusedVariables false
namespace Go.Proofs.YtfpppmamkmaneaaDoor
open Go.RowKit
theorem el_api_Errno : ElemIs Tryd.prog 45 (.int .i64 0) 1 8 := by unfold ElemIs; kernel_rfl
theorem as_any (k : Int) (g : Nat) (old : Value) (w0 w : World) (L : List Res) (hE : Eb w0) (hst : St w0 w (.blk g 45 #[old] :: L)) :
  Calls Tryd.prog 90 #[.iface 45 (.int .i64 k), .iface 109 (.pointer (some ⟨g, 0, none⟩))] w fun e w' => e = .returned (.bool true) ∧ St w0 w' (.blk g 45 #[.int .i64 k] :: L) := by
 have hc := hst.get 0 rfl
 refine (as_hit k ⟨g, 0, none⟩ old w (hE.of hst) (cell_of hc rfl) (by simp [World.frozen?, hc])).mono ?_
 rintro e w' ⟨rfl, rfl⟩
 refine ⟨rfl, ?_⟩
 exact (((((hst.alloc _ _).alloc _ _).alloc _ _).alloc _ _).setCell 4 rfl 0 (.int .i64 k)).tailN 4
set_option maxHeartbeats 1000000 in
theorem told_any (k : Nat) (w : World) (hE : Eb w) : Calls Tryd.prog 65 #[errV k] w fun e w' => e = .returned (.int .i64 (k : Int)) ∧ St w w' [] := by
 have hst := St.refl w
 have HE := Lib.hid hE
 clear hE
 unfold errV
 go_enter Tryd.func65, Tryd.ntmps65
 go_upto_region 1 with (first
  | fail)
 go_upto_region 3 with (first
  | fail)
 go_upto_region 4 with (first
  | (refine L_alloc1 (d := some 3) rfl rfl rfl el_api_Errno rfl ?_; (try clear hnew); intro g3 W3 hnew; replace hst := hst.trans hnew; simp only [List.cons_append, List.nil_append] at hst)
  | fail)
 go_upto_region 5 with (first
  | (go_at_call 90; (try clear hnew); refine (as_any (k : Int) g3 (.int .i64 0) w _ [] HE.out hst).mono ?_; rintro e Wa ⟨rfl, hst'⟩; clear hst; have hst := hst'; clear hst')
  | fail)
 go_wp2_with (first
  | (refine L_load1 (d := some 9) rfl rfl rfl (by rfl) Tryd.underlying45 rfl (by first | assumption | exact cell_of (hst.get 0 rfl) rfl) ?_)
  | fail)
 go_ret
 exact ⟨rfl, hst.forget⟩
theorem told_nil (w : World) : Calls Tryd.prog 65 #[.nilIface] w fun e w' => e = .returned (.int .i64 0) ∧ St w w' [] := by
 have hst := St.refl w
 go_enter Tryd.func65, Tryd.ntmps65
 go_wp2_with (first
  | fail)
 go_ret
 exact ⟨rfl, hst.forget⟩
theorem sError_any (k : Nat) (w : World) (hE : Eb w) : Calls Tryd.prog 29 #[errV k, .int .i64 (k : Int)] w fun e w' => e = .returned (.bool true) ∧ St w w' [] := by
 have hst := St.refl w
 have HE := Lib.hid hE
 clear hE
 go_enter Tryd.func29, Tryd.ntmps29
 go_wp2_with (first
  | (go_at_call 65; (try clear hnew); refine (told_any k _ (HE.out.of hst)).mono ?_; rintro e Wk1 ⟨rfl, hnew⟩; replace hst := hst.keep hnew)
  | fail)
 go_ret
 exact ⟨rfl, hst⟩
theorem sError_nil (w : World) : Calls Tryd.prog 29 #[.nilIface, .int .i64 0] w fun e w' => e = .returned (.bool true) ∧ St w w' [] := by
 have hst := St.refl w
 go_enter Tryd.func29, Tryd.ntmps29
 go_wp2_with (first
  | (go_at_call 65; (try clear hnew); refine (told_nil _).mono ?_; rintro e Wk2 ⟨rfl, hnew⟩; replace hst := hst.keep hnew)
  | fail)
 go_ret
 exact ⟨rfl, hst⟩
end Go.Proofs.YtfpppmamkmaneaaDoor

set_option maxRecDepth 20000
set_option linter.unusedSimpArgs false
set_option linter.unusedVariables false
namespace Go.Proofs.YtfpppmamkmaneaaDoor
open Go.RowKit
theorem growT_one (ls : List Dig) (n : Nat) (hl : ls.length = n) (m : Int) : ∃ (e : Nat) (ds : List Dig) (ev : Value),
  (∀ (A : Option Addr) (c : Nat) (w : World), Tb w → SlR w A n c 32 (digsL ls) → Calls Tryd.prog 22 #[.slice A n c, .int .i64 m] w fun e' w' => ∃ O oc, e' = .returned (.tuple #[.slice O ds.length oc, ev]) ∧ St w w' [.row O ds.length oc 25 32 (digsL ds)]) ∧
  (∀ w, Eb w → Calls Tryd.prog 29 #[ev, .int .i64 (e : Int)] w fun e' w' => e' = .returned (.bool true) ∧ St w w' []) ∧
  (256 < n ∧ e = 4 ∧ ds = [] ∨ n ≤ 256 ∧ (m < 1 ∨ (n : Int) < m) ∧ e = 2 ∧ ds = [] ∨ n ≤ 256 ∧ 1 ≤ m ∧ m ≤ (n : Int) ∧ e = 0 ∧ ds = gpN ls m.toNat true) := by
 by_cases hn : 256 < n
 ·exact ⟨4, [], errV 4, fun A c w _ _ => (gProof_full A n c m w hn).mono fun e w' h => ⟨none, 0, h.1, h.2.nilRow 25 32⟩, fun w hE => sError_any 4 w hE, .inl ⟨hn, rfl, rfl⟩⟩
 ·by_cases hi : m < 1 ∨ (n : Int) < m
  ·exact ⟨2, [], errV 2, fun A c w _ _ => (gProof_range A n c m w (by omega) hi).mono fun e w' h => ⟨none, 0, h.1, h.2.nilRow 25 32⟩, fun w hE => sError_any 2 w hE, .inr (.inl ⟨by omega, hi, rfl, rfl⟩)⟩
  ·refine ⟨0, gpN ls m.toNat true, .nilIface, fun A c w hT hs => ?_, fun w _ => sError_nil w, .inr (.inr ⟨by omega, by omega, by omega, rfl, rfl⟩)⟩
   have := gProof_any ls A n c m.toNat w hT hs (by omega) (by omega) (by omega)
   rw [show ((m.toNat : Nat) : Int) = m by omega] at this
   rw [length_gpN n ls m.toNat true hl]
   exact this
theorem growT_two (old now : Dig) (p : List Dig) (m s : Int) (k : Nat) : ∃ (e : Nat) (a b : Dig) (ev : Value),
  (∀ (P : Option Addr) (pc : Nat) (w : World), Tb w → SlR w P k pc 32 (digsL p) → Calls Tryd.prog 42 #[.int .i64 m, .int .i64 s, old.v, .slice P k pc] w fun e' w' => e' = .returned (.tuple #[a.v, b.v, ev]) ∧ St w w' []) ∧
  (∀ w, Eb w → Calls Tryd.prog 29 #[ev, .int .i64 (e : Int)] w fun e' w' => e' = .returned (.bool true) ∧ St w w' []) ∧
  (∀ (P : Option Addr) (pc : Nat) (w : World), Tb w → SlR w P k pc 32 (digsL p) → Calls Tryd.prog 23 #[.int .i64 m, .int .i64 s, old.v, now.v, .slice P k pc] w fun e' w' => e' = .returned (.bool (decide (e = 0) && (decide (a = old) && decide (b = now)))) ∧ St w w' []) ∧
  ((s < 1 ∨ 256 < s ∨ m < 1 ∨ s < m) ∧ e = 2 ∧ a = zeroD ∧ b = zeroD ∨ 1 ≤ s ∧ s ≤ 256 ∧ 1 ≤ m ∧ m ≤ s ∧ k ≠ plN s.toNat m.toNat true ∧ e = 3 ∧ a = zeroD ∧ b = zeroD ∨
   1 ≤ s ∧ s ≤ 256 ∧ 1 ≤ m ∧ m ≤ s ∧ k = plN s.toNat m.toNat true ∧ e = 0 ∧ a = (grN s.toNat m.toNat true old p).1 ∧ b = (grN s.toNat m.toNat true old p).2) := by
 by_cases hr : s < 1 ∨ 256 < s ∨ m < 1 ∨ s < m
 ·have hF : ∀ (P : Option Addr) (pc : Nat) (w : World), Calls Tryd.prog 42 #[.int .i64 m, .int .i64 s, old.v, .slice P k pc] w fun e' w' => e' = .returned (.tuple #[zeroD.v, zeroD.v, errV 2]) ∧ St w w' [] := fun P pc w => gFold_range s m old P k pc w (by omega)
  exact ⟨2, zeroD, zeroD, errV 2, fun P pc w _ _ => hF P pc w, fun w hE => sError_any 2 w hE, fun P pc w _ _ => gCheck_no s m old now P k pc 2 w (fun w' _ => hF P pc w'), .inl ⟨hr, rfl, rfl, rfl⟩⟩
 ·have em : ((m.toNat : Nat) : Int) = m := by omega
  have es : ((s.toNat : Nat) : Int) = s := by omega
  by_cases hk : k = plN s.toNat m.toNat true
  ·refine ⟨0, _, _, .nilIface, fun P pc w hT hs => ?_, fun w _ => sError_nil w, fun P pc w hT hs => ?_, .inr (.inr ⟨by omega, by omega, by omega, by omega, hk, rfl, rfl, rfl⟩)⟩
   ·have := gFold_any s.toNat m.toNat old p P k pc w hT hs hk (by omega) (by omega) (by omega)
    rwa [em, es] at this
   ·have := gCheck_any s.toNat m.toNat old now p P k pc w hT hs hk (by omega) (by omega) (by omega)
    rw [em, es] at this
    exact this
  ·have hF : ∀ (P : Option Addr) (pc : Nat) (w : World), Tb w → SlR w P k pc 32 (digsL p) → Calls Tryd.prog 42 #[.int .i64 m, .int .i64 s, old.v, .slice P k pc] w fun e' w' => e' = .returned (.tuple #[zeroD.v, zeroD.v, errV 3]) ∧ St w w' [] := fun P pc w hT hs => by
    have := gFold_length s.toNat m.toNat old p P k pc w hT hs hk (by omega) (by omega) (by omega)
    rwa [em, es] at this
   exact ⟨3, zeroD, zeroD, errV 3, hF, fun w hE => sError_any 3 w hE, fun P pc w hT hs => gCheck_no s m old now P k pc 3 w (fun w' hst => hF P pc w' (Tb.of hT hst) (hst.old (by decide) hs)), .inr (.inl ⟨by omega, by omega, by omega, by omega, hk, rfl, rfl, rfl⟩)⟩
set_option maxHeartbeats 8000000 in
set_option maxRecDepth 100000 in
theorem growTells_any (w : World) (hT : Tb w) (hE : Eb w) (ls : List Dig) (A : Option Addr) (n c : Nat) (hx : SlR w A n c 32 (digsL ls)) (_ : n * 32 ≤ 140737488351232) (m : Int) (_ : -9223372036854775808 ≤ m) (_ : m ≤ 9223372036854775807) (s : Int) (_ : -9223372036854775808 ≤ s) (_ : s ≤ 9223372036854775807) (old now : Dig) (p : List Dig) (P : Option Addr) (k pc : Nat) (hy : SlR w P k pc 32 (digsL p)) (_ : k * 32 ≤ 140737488351232) :
  Calls Tryd.prog 13 #[.slice A n c, .int .i64 m, .int .i64 s, old.v, now.v, .slice P k pc] w fun e w' => e = .returned (.bool true) ∧ St w w' [] := by
 have hst := St.refl w
 have HT := Lib.hid hT
 have HE := Lib.hid hE
 have hl : ls.length = n := by have := hx.1; rw [length_digsL] at this; omega
 obtain ⟨e1, ds, ev1, HP, HS1, HW1⟩ := growT_one ls n hl m
 obtain ⟨e2, a, b, ev2, HF, HS2, HC, HW2⟩ := growT_two old now p m s k
 replace HP := Lib.hid HP
 replace HS1 := Lib.hid HS1
 replace HW1 := Lib.hid HW1
 replace HF := Lib.hid HF
 replace HS2 := Lib.hid HS2
 replace HC := Lib.hid HC
 replace HW2 := Lib.hid HW2
 have HL := Lib.hid (fun (i : Nat) => length_gpN n ls i true hl)
 clear hT hE hl
 go_enter Tryd.func13, Tryd.ntmps13
 go_upto_if 25 with (first
  | (refine L_boxA (d := some 9) rfl rfl rfl (ev_tmp rfl) ?_; (try clear hnew); intro g9 W9 hnew; replace hst := hst.trans hnew; simp only [List.cons_append, List.nil_append] at hst)
  | (refine L_boxA (d := some 10) rfl rfl rfl (ev_tmp rfl) ?_; (try clear hnew); intro g10 W10 hnew; replace hst := hst.trans hnew; simp only [List.cons_append, List.nil_append] at hst)
  | fail)
 (try clear hnew)
 go_cut [13, 14] (fun s13 s14 wx => ∃ (O : Option Addr) (q oc : Nat), s13 = .int .i64 (e1 : Int) ∧ s14 = .slice O q oc ∧ St w wx [.row O q oc 25 32 (digsL ds), .blk g10 25 now.arr, .blk g9 25 old.arr])
 case first =>
  have hw := HW1.out
  clear HW1 HP HS1 HF HS2 HC HW2
  rcases hw with ⟨h1, rfl, rfl⟩ | ⟨h1, h2, rfl, rfl⟩ | ⟨h1, h2, h3, rfl, rfl⟩
  ·have h1' : (256 : Int) < (n : Int) := by omega
   go_wp2_with (first
    | fail)
   go_meet
   case rel => exact ⟨none, 0, 0, rfl, rfl, hst.nilRow 25 32⟩
  ·have h1' : ¬ (256 : Int) < (n : Int) := by omega
   have h3 : m < 1 ∨ ¬ m < 1 ∧ (n : Int) < m := by omega
   clear h2
   rcases h3 with h2 | ⟨h2, h3⟩
   all_goals
    go_wp2_with (first
     | fail)
    go_meet
    case rel => exact ⟨none, 0, 0, rfl, rfl, hst.nilRow 25 32⟩
  ·have h1' : ¬ (256 : Int) < (n : Int) := by omega
   obtain ⟨i, rfl⟩ : ∃ i : Nat, m = (i : Int) := ⟨m.toNat, by omega⟩
   have h2' : ¬ (i : Int) < 1 := by omega
   have h3' : ¬ (n : Int) < (i : Int) := by omega
   have HR := Lib.hid (fun w hs => rproof_any n ls A c i true w hs (by omega) (by omega) h1)
   clear h2 h3
   go_wp2_with (first
    | (go_at_call 39; (try clear hnew); refine (HR.out _ (hst.old (by decide) hx)).mono ?_; rintro e Wk1 ⟨O36, c36, rfl, hnew⟩; replace hst := hst.trans hnew; simp only [List.cons_append, List.nil_append] at hst)
    | fail)
   go_meet
   case rel => exact ⟨O36, _, c36, rfl, rfl, by rw [Int.toNat_natCast]; exact hst⟩
 case rest =>
  clear hst
  obtain ⟨O, q, oc, rfl, rfl, hst⟩ := hcut
  clear HW1 HL
  go_upto_region 9 with (first
   | (go_at_call 22; (try clear hnew); refine (HP.out A c _ (HT.out.of hst) (hst.old (by decide) hx)).mono ?_; rintro e Wk2 ⟨O40, c40, rfl, hnew⟩; replace hst := hst.trans hnew; simp only [List.cons_append, List.nil_append] at hst)
   | fail)
  go_upto_region 10 with (first
   | (go_at_call 29; (try clear hnew); refine (HS1.out _ (HE.out.of hst)).mono ?_; rintro e Wk3 ⟨rfl, hnew⟩; replace hst := hst.keep hnew)
   | fail)
  go_upto_region 11 with (first
   | (go_at_call 33; (try clear hnew); refine (sameD_any ds ds O40 O ds.length c40 q oc _ (hst.sl 0 rfl) (hst.sl 1 rfl)).mono ?_; rw [dEqL]; rintro e Ws ⟨rfl, hnew⟩; replace hst := hst.keep hnew)
   | fail)
  go_upto_region 13 with (first
   | (first | (refine L_pickF (d := some 54) rfl rfl rfl (ev_tmp rfl) (ev_tmp rfl) ?_) | (refine L_pickT (d := some 54) rfl rfl rfl (ev_tmp rfl) ev_const ?_))
   | fail)
  (try clear hnew)
  replace hst := hst.tailN 2
  simp only [List.drop_succ_cons, List.drop_zero] at hst
  clear HP HS1
  go_upto_region 15 with (first
   | (refine L_build0 (d := some 55) rfl rfl rfl Tryd.underlying25 el_uint8 el_api_Digest ?_)
   | (refine L_build0 (d := some 56) rfl rfl rfl Tryd.underlying25 el_uint8 el_api_Digest ?_)
   | (refine L_buildS (d := some 57) rfl rfl rfl [_, _] (bs_2 (ev_tmp rfl) (ev_tmp rfl)) rfl Tryd.underlying22 el_api_Digest rfl (by first | (simp [Value.cells]; done) | (simp [Value.cells, Dig.size]; done)) (by decide) (by decide) ?_; (try clear hnew); intro g57 W57 hnew; replace hst := hst.trans hnew; simp only [List.cons_append, List.nil_append] at hst; simp only [List.flatMap_cons, List.flatMap_nil, List.append_nil, Value.cells, List.toList_toArray] at hst)
   | fail)
  (try clear hnew)
  go_cut [72] (fun s72 wx => ∃ t : Bool, Hid (t = decide (s < 1 ∨ 256 < s ∨ m < 1 ∨ s < m)) ∧ s72 = .bool t ∧ St w wx [.row g57 2 2 25 32 (zeroD.arr.toList ++ zeroD.arr.toList), .blk g10 25 now.arr, .blk g9 25 old.arr])
  case first =>
   clear HW2 HF HS2 HC
   go_wp2_with fail
   all_goals
    go_meet
    case rel => exact ⟨_, Lib.hid (by rw [Bool.eq_iff_iff]; constructor <;> simp <;> omega), rfl, hst⟩
  case rest =>
  clear hst
  obtain ⟨t, HTT, rfl, hst⟩ := hcut
  go_upto_if 72 with (fail)
  go_cut [13, 19] (fun s13 s19 wx => ∃ (R : Option Addr) (rc : Nat), s13 = .int .i64 (e2 : Int) ∧ s19 = .slice R 2 rc ∧ St w wx [.row R 2 rc 25 32 (digsL [a, b]), .blk g10 25 now.arr, .blk g9 25 old.arr])
  case first =>
   have hw := HW2.out
   have ht := HTT.out
   clear HW2 HF HS2 HC HTT
   rcases hw with ⟨h, rfl, rfl, rfl⟩ | ⟨h1, h2, h3, h4, hk, rfl, rfl, rfl⟩ | ⟨h1, h2, h3, h4, hk, rfl, rfl, rfl⟩
   ·obtain rfl : t = true := by rw [ht, decide_eq_true_eq]; exact h
    clear h ht
    go_wp2_with (first
     | fail)
    go_meet
    case rel => exact ⟨_, _, rfl, rfl, by rw [digsL_two]; exact hst⟩
   ·obtain rfl : t = false := by rw [ht, decide_eq_false_iff_not]; omega
    clear ht
    obtain ⟨i, rfl⟩ : ∃ i : Nat, m = (i : Int) := ⟨m.toNat, by omega⟩
    obtain ⟨t, rfl⟩ : ∃ t : Nat, s = (t : Int) := ⟨s.toNat, by omega⟩
    rw [Int.toNat_natCast, Int.toNat_natCast] at hk
    have k1 : ¬ (t : Int) < 1 := by omega
    have k2 : ¬ 256 < (t : Int) := by omega
    have k3 : ¬ (i : Int) < 1 := by omega
    have k4 : ¬ (t : Int) < (i : Int) := by omega
    have HL := Lib.hid (fun w => rplong_any t i true w (by omega) (by omega) (by omega))
    have hne : ((k : Int) != (plN t i true : Int)) = true := by rw [bne_iff_ne]; omega
    clear h1 h2 h3 h4 hk
    generalize plN t i true = lg at *
    go_wp2_with (first
     | (go_at_call 40; (try clear hnew); refine (HL.out _).mono ?_; rintro e Wk4 ⟨rfl, hnew⟩; replace hst := hst.keep hnew)
     | fail)
    go_meet
    case rel => exact ⟨_, _, rfl, rfl, by rw [digsL_two]; exact hst⟩
   ·obtain rfl : t = false := by rw [ht, decide_eq_false_iff_not]; omega
    clear ht
    obtain ⟨i, rfl⟩ : ∃ i : Nat, m = (i : Int) := ⟨m.toNat, by omega⟩
    obtain ⟨t, rfl⟩ : ∃ t : Nat, s = (t : Int) := ⟨s.toNat, by omega⟩
    rw [Int.toNat_natCast, Int.toNat_natCast] at hk
    have k1 : ¬ (t : Int) < 1 := by omega
    have k2 : ¬ 256 < (t : Int) := by omega
    have k3 : ¬ (i : Int) < 1 := by omega
    have k4 : ¬ (t : Int) < (i : Int) := by omega
    have HL := Lib.hid (fun w => rplong_any t i true w (by omega) (by omega) (by omega))
    have HR := Lib.hid (fun w hs => rroots_any t i true old p P k pc w hs hk (by omega) (by omega) (by omega))
    rw [← hk] at HL
    clear h1 h2 h3 h4 hk
    go_wp2_with (first
     | (go_at_call 40; (try clear hnew); refine (HL.out _).mono ?_; rintro e Wk5 ⟨rfl, hnew⟩; replace hst := hst.keep hnew)
     | (go_at_call 41; (try clear hnew); refine (HR.out _ (hst.old (by decide) hy)).mono ?_; rintro e Wk6 ⟨O83, c83, rfl, hnew⟩; replace hst := hst.trans hnew; simp only [List.cons_append, List.nil_append] at hst)
     | (first | (refine L_loadA (d := some 81) rfl rfl rfl (by rfl) Tryd.underlying25 rfl el_api_Digest (by first | exact hst.get 0 rfl | exact hst.get 1 rfl | exact hst.get 2 rfl) (by first | rfl | exact Dig.size _ | (simp; done)) ?_) | (refine L_loadM (d := some 81) rfl rfl rfl (by rfl) Tryd.underlying25 rfl el_api_Digest (by first | assumption) (by first | rfl | exact Dig.size _ | (simp; done)) ?_))
     | fail)
    go_meet
    case rel => exact ⟨_, _, rfl, rfl, by rw [Int.toNat_natCast, Int.toNat_natCast]; exact hst.pick [0, 2, 3] (by decide)⟩
  case rest =>
   clear hst HW2
   obtain ⟨R, rc, rfl, rfl, hst⟩ := hcut
   obtain ⟨HA, HB⟩ := two_at a b
   go_upto_region 21 with (first
    | (go_at_call 42; (try clear hnew); refine (HF.out P pc _ (HT.out.of hst) (hst.old (by decide) hy)).mono ?_; rintro e Wk7 ⟨rfl, hnew⟩; replace hst := hst.keep hnew)
    | (first | (refine L_loadA (d := some 87) rfl rfl rfl (by rfl) Tryd.underlying25 rfl el_api_Digest (by first | exact hst.get 0 rfl | exact hst.get 1 rfl | exact hst.get 2 rfl | exact hst.get 3 rfl | exact hst.get 4 rfl) (by first | rfl | exact Dig.size _ | (simp; done)) ?_) | (refine L_loadM (d := some 87) rfl rfl rfl (by rfl) Tryd.underlying25 rfl el_api_Digest (by first | assumption) (by first | rfl | exact Dig.size _ | (simp; done)) ?_))
    | (refine L_allocA (d := some 20) rfl rfl rfl el_api_Digest ?_; (try clear hnew); intro g20 W20 hnew; replace hst := hst.trans hnew; simp only [List.cons_append, List.nil_append] at hst)
    | (refine L_allocA (d := some 21) rfl rfl rfl el_api_Digest ?_; (try clear hnew); intro g21 W21 hnew; replace hst := hst.trans hnew; simp only [List.cons_append, List.nil_append] at hst)
    | (refine wpl_at (.store 25 (.tmp 20) (.tmp 90)) rfl ?_; first | (refine L_storeA rfl rfl hst rfl (by rfl) (ev_tmp rfl) (by first | rfl | exact Dig.one _ | (simp; done)) el_api_Digest (by first | rfl | exact Dig.size _ | (simp; done)) 0 rfl (by first | rfl | exact Dig.size _ | (simp; done)) ?_; clear hst; intro WS11 hst; simp only [List.set_cons_zero, List.set_cons_succ] at hst) | (refine L_storeA rfl rfl hst rfl (by rfl) (ev_tmp rfl) (by first | rfl | exact Dig.one _ | (simp; done)) el_api_Digest (by first | rfl | exact Dig.size _ | (simp; done)) 1 rfl (by first | rfl | exact Dig.size _ | (simp; done)) ?_; clear hst; intro WS11 hst; simp only [List.set_cons_zero, List.set_cons_succ] at hst) | (refine L_storeA rfl rfl hst rfl (by rfl) (ev_tmp rfl) (by first | rfl | exact Dig.one _ | (simp; done)) el_api_Digest (by first | rfl | exact Dig.size _ | (simp; done)) 2 rfl (by first | rfl | exact Dig.size _ | (simp; done)) ?_; clear hst; intro WS11 hst; simp only [List.set_cons_zero, List.set_cons_succ] at hst) | (refine L_storeA rfl rfl hst rfl (by rfl) (ev_tmp rfl) (by first | rfl | exact Dig.one _ | (simp; done)) el_api_Digest (by first | rfl | exact Dig.size _ | (simp; done)) 3 rfl (by first | rfl | exact Dig.size _ | (simp; done)) ?_; clear hst; intro WS11 hst; simp only [List.set_cons_zero, List.set_cons_succ] at hst) | (refine L_storeA rfl rfl hst rfl (by rfl) (ev_tmp rfl) (by first | rfl | exact Dig.one _ | (simp; done)) el_api_Digest (by first | rfl | exact Dig.size _ | (simp; done)) 4 rfl (by first | rfl | exact Dig.size _ | (simp; done)) ?_; clear hst; intro WS11 hst; simp only [List.set_cons_zero, List.set_cons_succ] at hst) | (refine L_storeM rfl rfl hst rfl (by rfl) (ev_tmp rfl) (by first | rfl | exact Dig.one _ | (simp; done)) el_api_Digest (by first | rfl | exact Dig.size _ | (simp; done)) 0 rfl (by first | exact of_decide_eq_true rfl | (simp; done)) ?_; clear hst; intro WS11 hst; simp only [List.set_cons_zero, List.set_cons_succ] at hst)  | (refine L_storeM rfl rfl hst rfl (by rfl) (ev_tmp rfl) (by first | rfl | exact Dig.one _ | (simp; done)) el_api_Digest (by first | rfl | exact Dig.size _ | (simp; done)) 1 rfl (by first | exact of_decide_eq_true rfl | (simp; done)) ?_; clear hst; intro WS11 hst; simp only [List.set_cons_zero, List.set_cons_succ] at hst)  | (refine L_storeM rfl rfl hst rfl (by rfl) (ev_tmp rfl) (by first | rfl | exact Dig.one _ | (simp; done)) el_api_Digest (by first | rfl | exact Dig.size _ | (simp; done)) 2 rfl (by first | exact of_decide_eq_true rfl | (simp; done)) ?_; clear hst; intro WS11 hst; simp only [List.set_cons_zero, List.set_cons_succ] at hst)  | (refine L_storeM rfl rfl hst rfl (by rfl) (ev_tmp rfl) (by first | rfl | exact Dig.one _ | (simp; done)) el_api_Digest (by first | rfl | exact Dig.size _ | (simp; done)) 3 rfl (by first | exact of_decide_eq_true rfl | (simp; done)) ?_; clear hst; intro WS11 hst; simp only [List.set_cons_zero, List.set_cons_succ] at hst)  | (refine L_storeM rfl rfl hst rfl (by rfl) (ev_tmp rfl) (by first | rfl | exact Dig.one _ | (simp; done)) el_api_Digest (by first | rfl | exact Dig.size _ | (simp; done)) 4 rfl (by first | exact of_decide_eq_true rfl | (simp; done)) ?_; clear hst; intro WS11 hst; simp only [List.set_cons_zero, List.set_cons_succ] at hst))
    | (refine wpl_at (.store 25 (.tmp 21) (.tmp 91)) rfl ?_; first | (refine L_storeA rfl rfl hst rfl (by rfl) (ev_tmp rfl) (by first | rfl | exact Dig.one _ | (simp; done)) el_api_Digest (by first | rfl | exact Dig.size _ | (simp; done)) 0 rfl (by first | rfl | exact Dig.size _ | (simp; done)) ?_; clear hst; intro WS12 hst; simp only [List.set_cons_zero, List.set_cons_succ] at hst) | (refine L_storeA rfl rfl hst rfl (by rfl) (ev_tmp rfl) (by first | rfl | exact Dig.one _ | (simp; done)) el_api_Digest (by first | rfl | exact Dig.size _ | (simp; done)) 1 rfl (by first | rfl | exact Dig.size _ | (simp; done)) ?_; clear hst; intro WS12 hst; simp only [List.set_cons_zero, List.set_cons_succ] at hst) | (refine L_storeA rfl rfl hst rfl (by rfl) (ev_tmp rfl) (by first | rfl | exact Dig.one _ | (simp; done)) el_api_Digest (by first | rfl | exact Dig.size _ | (simp; done)) 2 rfl (by first | rfl | exact Dig.size _ | (simp; done)) ?_; clear hst; intro WS12 hst; simp only [List.set_cons_zero, List.set_cons_succ] at hst) | (refine L_storeA rfl rfl hst rfl (by rfl) (ev_tmp rfl) (by first | rfl | exact Dig.one _ | (simp; done)) el_api_Digest (by first | rfl | exact Dig.size _ | (simp; done)) 3 rfl (by first | rfl | exact Dig.size _ | (simp; done)) ?_; clear hst; intro WS12 hst; simp only [List.set_cons_zero, List.set_cons_succ] at hst) | (refine L_storeA rfl rfl hst rfl (by rfl) (ev_tmp rfl) (by first | rfl | exact Dig.one _ | (simp; done)) el_api_Digest (by first | rfl | exact Dig.size _ | (simp; done)) 4 rfl (by first | rfl | exact Dig.size _ | (simp; done)) ?_; clear hst; intro WS12 hst; simp only [List.set_cons_zero, List.set_cons_succ] at hst) | (refine L_storeM rfl rfl hst rfl (by rfl) (ev_tmp rfl) (by first | rfl | exact Dig.one _ | (simp; done)) el_api_Digest (by first | rfl | exact Dig.size _ | (simp; done)) 0 rfl (by first | exact of_decide_eq_true rfl | (simp; done)) ?_; clear hst; intro WS12 hst; simp only [List.set_cons_zero, List.set_cons_succ] at hst)  | (refine L_storeM rfl rfl hst rfl (by rfl) (ev_tmp rfl) (by first | rfl | exact Dig.one _ | (simp; done)) el_api_Digest (by first | rfl | exact Dig.size _ | (simp; done)) 1 rfl (by first | exact of_decide_eq_true rfl | (simp; done)) ?_; clear hst; intro WS12 hst; simp only [List.set_cons_zero, List.set_cons_succ] at hst)  | (refine L_storeM rfl rfl hst rfl (by rfl) (ev_tmp rfl) (by first | rfl | exact Dig.one _ | (simp; done)) el_api_Digest (by first | rfl | exact Dig.size _ | (simp; done)) 2 rfl (by first | exact of_decide_eq_true rfl | (simp; done)) ?_; clear hst; intro WS12 hst; simp only [List.set_cons_zero, List.set_cons_succ] at hst)  | (refine L_storeM rfl rfl hst rfl (by rfl) (ev_tmp rfl) (by first | rfl | exact Dig.one _ | (simp; done)) el_api_Digest (by first | rfl | exact Dig.size _ | (simp; done)) 3 rfl (by first | exact of_decide_eq_true rfl | (simp; done)) ?_; clear hst; intro WS12 hst; simp only [List.set_cons_zero, List.set_cons_succ] at hst)  | (refine L_storeM rfl rfl hst rfl (by rfl) (ev_tmp rfl) (by first | rfl | exact Dig.one _ | (simp; done)) el_api_Digest (by first | rfl | exact Dig.size _ | (simp; done)) 4 rfl (by first | exact of_decide_eq_true rfl | (simp; done)) ?_; clear hst; intro WS12 hst; simp only [List.set_cons_zero, List.set_cons_succ] at hst))
    | fail)
   go_upto_region 22 with (first
    | (go_at_call 29; (try clear hnew); refine (HS2.out _ (HE.out.of hst)).mono ?_; rintro e Wk8 ⟨rfl, hnew⟩; replace hst := hst.keep hnew)
    | fail)
   (try clear hnew)
   clear HF HS2
   generalize digsL [a, b] = lab at *
   refine wp_region_idx [(0, 2), (1, 2), (2, 2), (3, 0), (4, 2), (5, 2), (6, 2), (7, 2), (8, 2), (9, 2), (10, 0), (11, 2), (12, 2), (13, 2), (14, 2), (15, 2)] (by kernel_rfl) (by kernel_rfl) ?_
   replace hst := hst.drew
   refine idx_g rfl ?_; go_wp2_with fail; refine ⟨by first | exact Below.refl _ _ | exact hnew.below, ?_⟩
   refine idx_g rfl ?_; go_wp2_with fail; refine ⟨by first | exact Below.refl _ _ | exact hnew.below, ?_⟩
   refine idx_g rfl ?_; go_wp2_with fail; refine ⟨by first | exact Below.refl _ _ | exact hnew.below, ?_⟩
   refine idx_q rfl rfl ?_; go_wp2_with (first | (first | (refine L_loadA (d := some 99) rfl rfl rfl (by rfl) Tryd.underlying25 rfl el_api_Digest (by first | exact hst.get 0 rfl | exact hst.get 1 rfl | exact hst.get 2 rfl | exact hst.get 3 rfl | exact hst.get 4 rfl) (by first | rfl | exact Dig.size _ | (simp; done)) ?_) | (refine L_loadM (d := some 99) rfl rfl rfl (by rfl) Tryd.underlying25 rfl el_api_Digest (by first | assumption) (by first | rfl | exact Dig.size _ | (simp; done)) ?_)) | fail)
   refine idx_g rfl ?_; go_wp2_with fail; refine ⟨by first | exact Below.refl _ _ | exact hnew.below, ?_⟩
   refine idx_g rfl ?_; go_wp2_with (first | (refine L_idxS (d := some 101) rfl rfl rfl (by rfl) (by rfl) Tryd.underlying22 el_api_Digest (by first | exact hst.sl 2 rfl | assumption | exact hst.sl 0 rfl | exact hst.sl 1 rfl | exact hst.sl 2 rfl | exact hst.sl 3 rfl | exact hst.sl 4 rfl | exact hst.old (by decide) (by assumption)) (by omega) (by omega) ?_; intro o101 p101 ha101 hr101; (first | subst ha101 | (obtain ⟨h1, h2⟩ := some_addr ha101; subst h1; subst h2; clear ha101) | skip)) | fail); refine ⟨by first | exact Below.refl _ _ | exact hnew.below, ?_⟩
   refine idx_g rfl ?_; go_wp2_with (first | (refine L_loadM (d := some 102) rfl rfl rfl (by rfl) Tryd.underlying25 rfl el_api_Digest (cs := a.arr) (by rw [← HA.out]; exact hr101) (Dig.size _) ?_) | (first | (refine L_loadA (d := some 102) rfl rfl rfl (by rfl) Tryd.underlying25 rfl el_api_Digest (by first | exact hst.get 0 rfl | exact hst.get 1 rfl | exact hst.get 2 rfl | exact hst.get 3 rfl | exact hst.get 4 rfl) (by first | rfl | exact Dig.size _ | (simp; done)) ?_) | (refine L_loadM (d := some 102) rfl rfl rfl (by rfl) Tryd.underlying25 rfl el_api_Digest (by first | assumption) (by first | rfl | exact Dig.size _ | (simp; done)) ?_)) | fail); refine ⟨by first | exact Below.refl _ _ | exact hnew.below, ?_⟩
   refine idx_g rfl ?_; go_wp2_with (first | (refine L_loadM (d := some 102) rfl rfl rfl (by rfl) Tryd.underlying25 rfl el_api_Digest (cs := a.arr) (by rw [← HA.out]; exact hr101) (Dig.size _) ?_) | (refine L_loadM (d := some 109) rfl rfl rfl (by rfl) Tryd.underlying25 rfl el_api_Digest (cs := b.arr) (by rw [← HB.out]; exact hr108) (Dig.size _) ?_) | (refine L_neD (d := some 103) rfl rfl rfl Tryd.underlying25 Tryd.underlying5 el_uint8 eqG_D (ev_tmp rfl) (ev_tmp rfl) ?_; (try rw [dNe _])) | fail); refine ⟨by first | exact Below.refl _ _ | exact hnew.below, ?_⟩
   refine idx_g rfl ?_; go_wp2_with (first | (first | (refine L_pickF (d := some 104) rfl rfl rfl (ev_tmp rfl) (ev_tmp rfl) ?_) | (refine L_pickT (d := some 104) rfl rfl rfl (ev_tmp rfl) ev_const ?_)) | fail); refine ⟨by first | exact Below.refl _ _ | exact hnew.below, ?_⟩
   refine idx_g rfl ?_; go_wp2_with fail; refine ⟨by first | exact Below.refl _ _ | exact hnew.below, ?_⟩
   refine idx_q rfl rfl ?_; go_wp2_with (first | (first | (refine L_loadA (d := some 106) rfl rfl rfl (by rfl) Tryd.underlying25 rfl el_api_Digest (by first | exact hst.get 0 rfl | exact hst.get 1 rfl | exact hst.get 2 rfl | exact hst.get 3 rfl | exact hst.get 4 rfl) (by first | rfl | exact Dig.size _ | (simp; done)) ?_) | (refine L_loadM (d := some 106) rfl rfl rfl (by rfl) Tryd.underlying25 rfl el_api_Digest (by first | assumption) (by first | rfl | exact Dig.size _ | (simp; done)) ?_)) | fail)
   refine idx_g rfl ?_; go_wp2_with fail; refine ⟨by first | exact Below.refl _ _ | exact hnew.below, ?_⟩
   refine idx_g rfl ?_; go_wp2_with (first | (refine L_idxS (d := some 108) rfl rfl rfl (by rfl) (by rfl) Tryd.underlying22 el_api_Digest (by first | exact hst.sl 2 rfl | assumption | exact hst.sl 0 rfl | exact hst.sl 1 rfl | exact hst.sl 2 rfl | exact hst.sl 3 rfl | exact hst.sl 4 rfl | exact hst.old (by decide) (by assumption)) (by omega) (by omega) ?_; intro o108 p108 ha108 hr108; (first | subst ha108 | (obtain ⟨h1, h2⟩ := some_addr ha108; subst h1; subst h2; clear ha108) | skip)) | fail); refine ⟨by first | exact Below.refl _ _ | exact hnew.below, ?_⟩
   refine idx_g rfl ?_; go_wp2_with (first | (refine L_loadM (d := some 109) rfl rfl rfl (by rfl) Tryd.underlying25 rfl el_api_Digest (cs := b.arr) (by rw [← HB.out]; exact hr108) (Dig.size _) ?_) | (first | (refine L_loadA (d := some 109) rfl rfl rfl (by rfl) Tryd.underlying25 rfl el_api_Digest (by first | exact hst.get 0 rfl | exact hst.get 1 rfl | exact hst.get 2 rfl | exact hst.get 3 rfl | exact hst.get 4 rfl) (by first | rfl | exact Dig.size _ | (simp; done)) ?_) | (refine L_loadM (d := some 109) rfl rfl rfl (by rfl) Tryd.underlying25 rfl el_api_Digest (by first | assumption) (by first | rfl | exact Dig.size _ | (simp; done)) ?_)) | fail); refine ⟨by first | exact Below.refl _ _ | exact hnew.below, ?_⟩
   refine idx_g rfl ?_; go_wp2_with (first | (refine L_loadM (d := some 102) rfl rfl rfl (by rfl) Tryd.underlying25 rfl el_api_Digest (cs := a.arr) (by rw [← HA.out]; exact hr101) (Dig.size _) ?_) | (refine L_loadM (d := some 109) rfl rfl rfl (by rfl) Tryd.underlying25 rfl el_api_Digest (cs := b.arr) (by rw [← HB.out]; exact hr108) (Dig.size _) ?_) | (refine L_neD (d := some 110) rfl rfl rfl Tryd.underlying25 Tryd.underlying5 el_uint8 eqG_D (ev_tmp rfl) (ev_tmp rfl) ?_; (try rw [dNe _])) | fail); refine ⟨by first | exact Below.refl _ _ | exact hnew.below, ?_⟩
   refine idx_g rfl ?_; go_wp2_with (first | (first | (refine L_pickF (d := some 111) rfl rfl rfl (ev_tmp rfl) (ev_tmp rfl) ?_) | (refine L_pickT (d := some 111) rfl rfl rfl (ev_tmp rfl) ev_const ?_)) | fail); refine ⟨by first | exact Below.refl _ _ | exact hnew.below, ?_⟩
   refine idx_nil ?_
   go_wp2_with fail
   by_cases he : e2 = 0
   ·subst he
    by_cases ha : a = old
    ·have H1 := Lib.hid (show decide (a = old) = true by simp [ha])
     by_cases hb : b = now
     ·have H2 := Lib.hid (show decide (b = now) = true by simp [hb])
      have HC' := Lib.hid (show ∀ w, Tb w → SlR w P k pc 32 (digsL p) → Calls Tryd.prog 23 #[.int .i64 m, .int .i64 s, old.v, now.v, .slice P k pc] w fun e' w' => e' = .returned (.bool true) ∧ St w w' [] from fun w hT hs => by simpa [ha, hb] using HC.out P pc w hT hs)
      clear ha hb HC
      refine wp_region_idx [(0, 2), (1, 2), (2, 2), (3, 0), (4, 0), (5, 0), (6, 2), (7, 2), (8, 2), (9, 2), (10, 0), (11, 0), (12, 0), (13, 2), (14, 2), (15, 2), (16, 2)] (by kernel_rfl) (by kernel_rfl) ?_
      replace hst := hst.drew
      refine idx_g rfl ?_; go_wp2_with fail; refine ⟨by first | exact Below.refl _ _ | exact hnew.below, ?_⟩
      refine idx_g rfl ?_; go_wp2_with (first | (refine L_loadM (d := some 117) rfl rfl rfl (by rfl) Tryd.underlying25 rfl el_api_Digest (cs := a.arr) (by rw [← HA.out]; exact hr116) (Dig.size _) ?_) | (refine L_loadM (d := some 124) rfl rfl rfl (by rfl) Tryd.underlying25 rfl el_api_Digest (cs := b.arr) (by rw [← HB.out]; exact hr123) (Dig.size _) ?_) | fail); refine ⟨by first | exact Below.refl _ _ | exact hnew.below, ?_⟩
      refine idx_g rfl ?_; go_wp2_with fail; refine ⟨by first | exact Below.refl _ _ | exact hnew.below, ?_⟩
      refine idx_q rfl rfl ?_; go_wp2_with fail
      refine idx_q rfl rfl ?_; go_wp2_with (first | (refine L_idxS (d := some 116) rfl rfl rfl (by rfl) (by rfl) Tryd.underlying22 el_api_Digest (by first | exact hst.sl 2 rfl | assumption | exact hst.sl 0 rfl | exact hst.sl 1 rfl | exact hst.sl 2 rfl | exact hst.sl 3 rfl | exact hst.sl 4 rfl | exact hst.old (by decide) (by assumption)) (by omega) (by omega) ?_; intro o116 p116 ha116 hr116; (first | subst ha116 | (obtain ⟨h1, h2⟩ := some_addr ha116; subst h1; subst h2; clear ha116) | skip)) | fail)
      refine idx_q rfl rfl ?_; go_wp2_with (first | (refine L_loadM (d := some 117) rfl rfl rfl (by rfl) Tryd.underlying25 rfl el_api_Digest (cs := a.arr) (by rw [← HA.out]; exact hr116) (Dig.size _) ?_) | (first | (refine L_loadA (d := some 117) rfl rfl rfl (by rfl) Tryd.underlying25 rfl el_api_Digest (by first | exact hst.get 0 rfl | exact hst.get 1 rfl | exact hst.get 2 rfl | exact hst.get 3 rfl | exact hst.get 4 rfl) (by first | rfl | exact Dig.size _ | (simp; done)) ?_) | (refine L_loadM (d := some 117) rfl rfl rfl (by rfl) Tryd.underlying25 rfl el_api_Digest (by first | assumption) (by first | rfl | exact Dig.size _ | (simp; done)) ?_)) | fail)
      refine idx_g rfl ?_; go_wp2_with (first | (first | (refine L_loadA (d := some 118) rfl rfl rfl (by rfl) Tryd.underlying25 rfl el_api_Digest (by first | exact hst.get 0 rfl | exact hst.get 1 rfl | exact hst.get 2 rfl | exact hst.get 3 rfl | exact hst.get 4 rfl) (by first | rfl | exact Dig.size _ | (simp; done)) ?_) | (refine L_loadM (d := some 118) rfl rfl rfl (by rfl) Tryd.underlying25 rfl el_api_Digest (by first | assumption) (by first | rfl | exact Dig.size _ | (simp; done)) ?_)) | fail); refine ⟨by first | exact Below.refl _ _ | exact hnew.below, ?_⟩
      refine idx_g rfl ?_; go_wp2_with (first | (refine L_loadM (d := some 117) rfl rfl rfl (by rfl) Tryd.underlying25 rfl el_api_Digest (cs := a.arr) (by rw [← HA.out]; exact hr116) (Dig.size _) ?_) | (refine L_loadM (d := some 124) rfl rfl rfl (by rfl) Tryd.underlying25 rfl el_api_Digest (cs := b.arr) (by rw [← HB.out]; exact hr123) (Dig.size _) ?_) | (refine L_eqD (d := some 119) rfl rfl rfl Tryd.underlying25 Tryd.underlying5 el_uint8 eqG_D (ev_tmp rfl) (ev_tmp rfl) ?_; (try rw [H1.out])) | fail); refine ⟨by first | exact Below.refl _ _ | exact hnew.below, ?_⟩
      refine idx_g rfl ?_; go_wp2_with (first | (first | (refine L_pickF (d := some 120) rfl rfl rfl (ev_tmp rfl) ev_const ?_) | (refine L_pickT (d := some 120) rfl rfl rfl (ev_tmp rfl) (ev_tmp rfl) ?_)) | fail); refine ⟨by first | exact Below.refl _ _ | exact hnew.below, ?_⟩
      refine idx_g rfl ?_; go_wp2_with fail; refine ⟨by first | exact Below.refl _ _ | exact hnew.below, ?_⟩
      refine idx_q rfl rfl ?_; go_wp2_with fail
      refine idx_q rfl rfl ?_; go_wp2_with (first | (refine L_idxS (d := some 123) rfl rfl rfl (by rfl) (by rfl) Tryd.underlying22 el_api_Digest (by first | exact hst.sl 2 rfl | assumption | exact hst.sl 0 rfl | exact hst.sl 1 rfl | exact hst.sl 2 rfl | exact hst.sl 3 rfl | exact hst.sl 4 rfl | exact hst.old (by decide) (by assumption)) (by omega) (by omega) ?_; intro o123 p123 ha123 hr123; (first | subst ha123 | (obtain ⟨h1, h2⟩ := some_addr ha123; subst h1; subst h2; clear ha123) | skip)) | fail)
      refine idx_q rfl rfl ?_; go_wp2_with (first | (refine L_loadM (d := some 124) rfl rfl rfl (by rfl) Tryd.underlying25 rfl el_api_Digest (cs := b.arr) (by rw [← HB.out]; exact hr123) (Dig.size _) ?_) | (first | (refine L_loadA (d := some 124) rfl rfl rfl (by rfl) Tryd.underlying25 rfl el_api_Digest (by first | exact hst.get 0 rfl | exact hst.get 1 rfl | exact hst.get 2 rfl | exact hst.get 3 rfl | exact hst.get 4 rfl) (by first | rfl | exact Dig.size _ | (simp; done)) ?_) | (refine L_loadM (d := some 124) rfl rfl rfl (by rfl) Tryd.underlying25 rfl el_api_Digest (by first | assumption) (by first | rfl | exact Dig.size _ | (simp; done)) ?_)) | fail)
      refine idx_g rfl ?_; go_wp2_with (first | (first | (refine L_loadA (d := some 125) rfl rfl rfl (by rfl) Tryd.underlying25 rfl el_api_Digest (by first | exact hst.get 0 rfl | exact hst.get 1 rfl | exact hst.get 2 rfl | exact hst.get 3 rfl | exact hst.get 4 rfl) (by first | rfl | exact Dig.size _ | (simp; done)) ?_) | (refine L_loadM (d := some 125) rfl rfl rfl (by rfl) Tryd.underlying25 rfl el_api_Digest (by first | assumption) (by first | rfl | exact Dig.size _ | (simp; done)) ?_)) | fail); refine ⟨by first | exact Below.refl _ _ | exact hnew.below, ?_⟩
      refine idx_g rfl ?_; go_wp2_with (first | (refine L_loadM (d := some 117) rfl rfl rfl (by rfl) Tryd.underlying25 rfl el_api_Digest (cs := a.arr) (by rw [← HA.out]; exact hr116) (Dig.size _) ?_) | (refine L_loadM (d := some 124) rfl rfl rfl (by rfl) Tryd.underlying25 rfl el_api_Digest (cs := b.arr) (by rw [← HB.out]; exact hr123) (Dig.size _) ?_) | (refine L_eqD (d := some 126) rfl rfl rfl Tryd.underlying25 Tryd.underlying5 el_uint8 eqG_D (ev_tmp rfl) (ev_tmp rfl) ?_; (try rw [H2.out])) | fail); refine ⟨by first | exact Below.refl _ _ | exact hnew.below, ?_⟩
      refine idx_g rfl ?_; go_wp2_with (first | (first | (refine L_pickF (d := some 127) rfl rfl rfl (ev_tmp rfl) ev_const ?_) | (refine L_pickT (d := some 127) rfl rfl rfl (ev_tmp rfl) (ev_tmp rfl) ?_)) | fail); refine ⟨by first | exact Below.refl _ _ | exact hnew.below, ?_⟩
      refine idx_g rfl ?_; go_wp2_with fail; refine ⟨by first | exact Below.refl _ _ | exact hnew.below, ?_⟩
      refine idx_nil ?_
      go_wp2_with (first
       | (go_at_call 23; (try clear hnew); refine (HC'.out _ (HT.out.of hst) (hst.old (by decide) hy)).mono ?_; rintro e Wk9 ⟨rfl, hnew⟩; replace hst := hst.keep hnew)
       | (first | (refine L_loadA (d := some 130) rfl rfl rfl (by rfl) Tryd.underlying25 rfl el_api_Digest (by first | exact hst.get 0 rfl | exact hst.get 1 rfl | exact hst.get 2 rfl | exact hst.get 3 rfl | exact hst.get 4 rfl) (by first | rfl | exact Dig.size _ | (simp; done)) ?_) | (refine L_loadM (d := some 130) rfl rfl rfl (by rfl) Tryd.underlying25 rfl el_api_Digest (by first | assumption) (by first | rfl | exact Dig.size _ | (simp; done)) ?_))
       | (first | (refine L_loadA (d := some 131) rfl rfl rfl (by rfl) Tryd.underlying25 rfl el_api_Digest (by first | exact hst.get 0 rfl | exact hst.get 1 rfl | exact hst.get 2 rfl | exact hst.get 3 rfl | exact hst.get 4 rfl) (by first | rfl | exact Dig.size _ | (simp; done)) ?_) | (refine L_loadM (d := some 131) rfl rfl rfl (by rfl) Tryd.underlying25 rfl el_api_Digest (by first | assumption) (by first | rfl | exact Dig.size _ | (simp; done)) ?_))
       | fail)
      go_ret
      exact ⟨rfl, hst.forget⟩
     ·have H2 := Lib.hid (show decide (b = now) = false by simp [hb])
      have HC' := Lib.hid (show ∀ w, Tb w → SlR w P k pc 32 (digsL p) → Calls Tryd.prog 23 #[.int .i64 m, .int .i64 s, old.v, now.v, .slice P k pc] w fun e' w' => e' = .returned (.bool false) ∧ St w w' [] from fun w hT hs => by simpa [ha, hb] using HC.out P pc w hT hs)
      clear ha hb HC
      refine wp_region_idx [(0, 2), (1, 2), (2, 2), (3, 0), (4, 0), (5, 0), (6, 2), (7, 2), (8, 2), (9, 2), (10, 0), (11, 0), (12, 0), (13, 2), (14, 2), (15, 2), (16, 2)] (by kernel_rfl) (by kernel_rfl) ?_
      replace hst := hst.drew
      refine idx_g rfl ?_; go_wp2_with fail; refine ⟨by first | exact Below.refl _ _ | exact hnew.below, ?_⟩
      refine idx_g rfl ?_; go_wp2_with (first | (refine L_loadM (d := some 117) rfl rfl rfl (by rfl) Tryd.underlying25 rfl el_api_Digest (cs := a.arr) (by rw [← HA.out]; exact hr116) (Dig.size _) ?_) | (refine L_loadM (d := some 124) rfl rfl rfl (by rfl) Tryd.underlying25 rfl el_api_Digest (cs := b.arr) (by rw [← HB.out]; exact hr123) (Dig.size _) ?_) | fail); refine ⟨by first | exact Below.refl _ _ | exact hnew.below, ?_⟩
      refine idx_g rfl ?_; go_wp2_with fail; refine ⟨by first | exact Below.refl _ _ | exact hnew.below, ?_⟩
      refine idx_q rfl rfl ?_; go_wp2_with fail
      refine idx_q rfl rfl ?_; go_wp2_with (first | (refine L_idxS (d := some 116) rfl rfl rfl (by rfl) (by rfl) Tryd.underlying22 el_api_Digest (by first | exact hst.sl 2 rfl | assumption | exact hst.sl 0 rfl | exact hst.sl 1 rfl | exact hst.sl 2 rfl | exact hst.sl 3 rfl | exact hst.sl 4 rfl | exact hst.old (by decide) (by assumption)) (by omega) (by omega) ?_; intro o116 p116 ha116 hr116; (first | subst ha116 | (obtain ⟨h1, h2⟩ := some_addr ha116; subst h1; subst h2; clear ha116) | skip)) | fail)
      refine idx_q rfl rfl ?_; go_wp2_with (first | (refine L_loadM (d := some 117) rfl rfl rfl (by rfl) Tryd.underlying25 rfl el_api_Digest (cs := a.arr) (by rw [← HA.out]; exact hr116) (Dig.size _) ?_) | (first | (refine L_loadA (d := some 117) rfl rfl rfl (by rfl) Tryd.underlying25 rfl el_api_Digest (by first | exact hst.get 0 rfl | exact hst.get 1 rfl | exact hst.get 2 rfl | exact hst.get 3 rfl | exact hst.get 4 rfl) (by first | rfl | exact Dig.size _ | (simp; done)) ?_) | (refine L_loadM (d := some 117) rfl rfl rfl (by rfl) Tryd.underlying25 rfl el_api_Digest (by first | assumption) (by first | rfl | exact Dig.size _ | (simp; done)) ?_)) | fail)
      refine idx_g rfl ?_; go_wp2_with (first | (first | (refine L_loadA (d := some 118) rfl rfl rfl (by rfl) Tryd.underlying25 rfl el_api_Digest (by first | exact hst.get 0 rfl | exact hst.get 1 rfl | exact hst.get 2 rfl | exact hst.get 3 rfl | exact hst.get 4 rfl) (by first | rfl | exact Dig.size _ | (simp; done)) ?_) | (refine L_loadM (d := some 118) rfl rfl rfl (by rfl) Tryd.underlying25 rfl el_api_Digest (by first | assumption) (by first | rfl | exact Dig.size _ | (simp; done)) ?_)) | fail); refine ⟨by first | exact Below.refl _ _ | exact hnew.below, ?_⟩
      refine idx_g rfl ?_; go_wp2_with (first | (refine L_loadM (d := some 117) rfl rfl rfl (by rfl) Tryd.underlying25 rfl el_api_Digest (cs := a.arr) (by rw [← HA.out]; exact hr116) (Dig.size _) ?_) | (refine L_loadM (d := some 124) rfl rfl rfl (by rfl) Tryd.underlying25 rfl el_api_Digest (cs := b.arr) (by rw [← HB.out]; exact hr123) (Dig.size _) ?_) | (refine L_eqD (d := some 119) rfl rfl rfl Tryd.underlying25 Tryd.underlying5 el_uint8 eqG_D (ev_tmp rfl) (ev_tmp rfl) ?_; (try rw [H1.out])) | fail); refine ⟨by first | exact Below.refl _ _ | exact hnew.below, ?_⟩
      refine idx_g rfl ?_; go_wp2_with (first | (first | (refine L_pickF (d := some 120) rfl rfl rfl (ev_tmp rfl) ev_const ?_) | (refine L_pickT (d := some 120) rfl rfl rfl (ev_tmp rfl) (ev_tmp rfl) ?_)) | fail); refine ⟨by first | exact Below.refl _ _ | exact hnew.below, ?_⟩
      refine idx_g rfl ?_; go_wp2_with fail; refine ⟨by first | exact Below.refl _ _ | exact hnew.below, ?_⟩
      refine idx_q rfl rfl ?_; go_wp2_with fail
      refine idx_q rfl rfl ?_; go_wp2_with (first | (refine L_idxS (d := some 123) rfl rfl rfl (by rfl) (by rfl) Tryd.underlying22 el_api_Digest (by first | exact hst.sl 2 rfl | assumption | exact hst.sl 0 rfl | exact hst.sl 1 rfl | exact hst.sl 2 rfl | exact hst.sl 3 rfl | exact hst.sl 4 rfl | exact hst.old (by decide) (by assumption)) (by omega) (by omega) ?_; intro o123 p123 ha123 hr123; (first | subst ha123 | (obtain ⟨h1, h2⟩ := some_addr ha123; subst h1; subst h2; clear ha123) | skip)) | fail)
      refine idx_q rfl rfl ?_; go_wp2_with (first | (refine L_loadM (d := some 124) rfl rfl rfl (by rfl) Tryd.underlying25 rfl el_api_Digest (cs := b.arr) (by rw [← HB.out]; exact hr123) (Dig.size _) ?_) | (first | (refine L_loadA (d := some 124) rfl rfl rfl (by rfl) Tryd.underlying25 rfl el_api_Digest (by first | exact hst.get 0 rfl | exact hst.get 1 rfl | exact hst.get 2 rfl | exact hst.get 3 rfl | exact hst.get 4 rfl) (by first | rfl | exact Dig.size _ | (simp; done)) ?_) | (refine L_loadM (d := some 124) rfl rfl rfl (by rfl) Tryd.underlying25 rfl el_api_Digest (by first | assumption) (by first | rfl | exact Dig.size _ | (simp; done)) ?_)) | fail)
      refine idx_g rfl ?_; go_wp2_with (first | (first | (refine L_loadA (d := some 125) rfl rfl rfl (by rfl) Tryd.underlying25 rfl el_api_Digest (by first | exact hst.get 0 rfl | exact hst.get 1 rfl | exact hst.get 2 rfl | exact hst.get 3 rfl | exact hst.get 4 rfl) (by first | rfl | exact Dig.size _ | (simp; done)) ?_) | (refine L_loadM (d := some 125) rfl rfl rfl (by rfl) Tryd.underlying25 rfl el_api_Digest (by first | assumption) (by first | rfl | exact Dig.size _ | (simp; done)) ?_)) | fail); refine ⟨by first | exact Below.refl _ _ | exact hnew.below, ?_⟩
      refine idx_g rfl ?_; go_wp2_with (first | (refine L_loadM (d := some 117) rfl rfl rfl (by rfl) Tryd.underlying25 rfl el_api_Digest (cs := a.arr) (by rw [← HA.out]; exact hr116) (Dig.size _) ?_) | (refine L_loadM (d := some 124) rfl rfl rfl (by rfl) Tryd.underlying25 rfl el_api_Digest (cs := b.arr) (by rw [← HB.out]; exact hr123) (Dig.size _) ?_) | (refine L_eqD (d := some 126) rfl rfl rfl Tryd.underlying25 Tryd.underlying5 el_uint8 eqG_D (ev_tmp rfl) (ev_tmp rfl) ?_; (try rw [H2.out])) | fail); refine ⟨by first | exact Below.refl _ _ | exact hnew.below, ?_⟩
      refine idx_g rfl ?_; go_wp2_with (first | (first | (refine L_pickF (d := some 127) rfl rfl rfl (ev_tmp rfl) ev_const ?_) | (refine L_pickT (d := some 127) rfl rfl rfl (ev_tmp rfl) (ev_tmp rfl) ?_)) | fail); refine ⟨by first | exact Below.refl _ _ | exact hnew.below, ?_⟩
      refine idx_g rfl ?_; go_wp2_with fail; refine ⟨by first | exact Below.refl _ _ | exact hnew.below, ?_⟩
      refine idx_nil ?_
      go_wp2_with (first
       | (go_at_call 23; (try clear hnew); refine (HC'.out _ (HT.out.of hst) (hst.old (by decide) hy)).mono ?_; rintro e Wk10 ⟨rfl, hnew⟩; replace hst := hst.keep hnew)
       | (first | (refine L_loadA (d := some 130) rfl rfl rfl (by rfl) Tryd.underlying25 rfl el_api_Digest (by first | exact hst.get 0 rfl | exact hst.get 1 rfl | exact hst.get 2 rfl | exact hst.get 3 rfl | exact hst.get 4 rfl) (by first | rfl | exact Dig.size _ | (simp; done)) ?_) | (refine L_loadM (d := some 130) rfl rfl rfl (by rfl) Tryd.underlying25 rfl el_api_Digest (by first | assumption) (by first | rfl | exact Dig.size _ | (simp; done)) ?_))
       | (first | (refine L_loadA (d := some 131) rfl rfl rfl (by rfl) Tryd.underlying25 rfl el_api_Digest (by first | exact hst.get 0 rfl | exact hst.get 1 rfl | exact hst.get 2 rfl | exact hst.get 3 rfl | exact hst.get 4 rfl) (by first | rfl | exact Dig.size _ | (simp; done)) ?_) | (refine L_loadM (d := some 131) rfl rfl rfl (by rfl) Tryd.underlying25 rfl el_api_Digest (by first | assumption) (by first | rfl | exact Dig.size _ | (simp; done)) ?_))
       | fail)
      go_ret
      exact ⟨rfl, hst.forget⟩
    ·have H1 := Lib.hid (show decide (a = old) = false by simp [ha])
     have HC' := Lib.hid (show ∀ w, Tb w → SlR w P k pc 32 (digsL p) → Calls Tryd.prog 23 #[.int .i64 m, .int .i64 s, old.v, now.v, .slice P k pc] w fun e' w' => e' = .returned (.bool false) ∧ St w w' [] from fun w hT hs => by simpa [ha] using HC.out P pc w hT hs)
     clear ha HC
     refine wp_region_idx [(0, 2), (1, 2), (2, 2), (3, 0), (4, 0), (5, 0), (6, 2), (7, 2), (8, 2), (9, 2), (10, 0), (11, 0), (12, 0), (13, 2), (14, 2), (15, 2), (16, 2)] (by kernel_rfl) (by kernel_rfl) ?_
     replace hst := hst.drew
     refine idx_g rfl ?_; go_wp2_with fail; refine ⟨by first | exact Below.refl _ _ | exact hnew.below, ?_⟩
     refine idx_g rfl ?_; go_wp2_with (first | (refine L_loadM (d := some 117) rfl rfl rfl (by rfl) Tryd.underlying25 rfl el_api_Digest (cs := a.arr) (by rw [← HA.out]; exact hr116) (Dig.size _) ?_) | fail); refine ⟨by first | exact Below.refl _ _ | exact hnew.below, ?_⟩
     refine idx_g rfl ?_; go_wp2_with fail; refine ⟨by first | exact Below.refl _ _ | exact hnew.below, ?_⟩
     refine idx_q rfl rfl ?_; go_wp2_with (first | (refine L_un (t := 115) rfl (by rfl) rfl ?_) | fail)
     refine idx_q rfl rfl ?_; go_wp2_with (first | (refine L_un (t := 116) rfl (by rfl) rfl ?_) | (refine L_idxS (d := some 116) rfl rfl rfl (by rfl) (by rfl) Tryd.underlying22 el_api_Digest (by first | exact hst.sl 2 rfl | assumption | exact hst.sl 0 rfl | exact hst.sl 1 rfl | exact hst.sl 2 rfl | exact hst.sl 3 rfl | exact hst.sl 4 rfl | exact hst.old (by decide) (by assumption)) (by omega) (by omega) ?_; intro o116 p116 ha116 hr116; (first | subst ha116 | (obtain ⟨h1, h2⟩ := some_addr ha116; subst h1; subst h2; clear ha116) | skip)) | fail)
     refine idx_q rfl rfl ?_; go_wp2_with (first | (refine L_un (t := 117) rfl (by rfl) rfl ?_) | (refine L_loadM (d := some 117) rfl rfl rfl (by rfl) Tryd.underlying25 rfl el_api_Digest (cs := a.arr) (by rw [← HA.out]; exact hr116) (Dig.size _) ?_) | (first | (refine L_loadA (d := some 117) rfl rfl rfl (by rfl) Tryd.underlying25 rfl el_api_Digest (by first | exact hst.get 0 rfl | exact hst.get 1 rfl | exact hst.get 2 rfl | exact hst.get 3 rfl | exact hst.get 4 rfl) (by first | rfl | exact Dig.size _ | (simp; done)) ?_) | (refine L_loadM (d := some 117) rfl rfl rfl (by rfl) Tryd.underlying25 rfl el_api_Digest (by first | assumption) (by first | rfl | exact Dig.size _ | (simp; done)) ?_)) | fail)
     refine idx_g rfl ?_; go_wp2_with (first | (refine L_un (t := 118) rfl (by rfl) rfl ?_) | (first | (refine L_loadA (d := some 118) rfl rfl rfl (by rfl) Tryd.underlying25 rfl el_api_Digest (by first | exact hst.get 0 rfl | exact hst.get 1 rfl | exact hst.get 2 rfl | exact hst.get 3 rfl | exact hst.get 4 rfl) (by first | rfl | exact Dig.size _ | (simp; done)) ?_) | (refine L_loadM (d := some 118) rfl rfl rfl (by rfl) Tryd.underlying25 rfl el_api_Digest (by first | assumption) (by first | rfl | exact Dig.size _ | (simp; done)) ?_)) | fail); refine ⟨by first | exact Below.refl _ _ | exact hnew.below, ?_⟩
     refine idx_g rfl ?_; go_wp2_with (first | (refine L_un (t := 119) rfl (by rfl) rfl ?_) | (refine L_loadM (d := some 117) rfl rfl rfl (by rfl) Tryd.underlying25 rfl el_api_Digest (cs := a.arr) (by rw [← HA.out]; exact hr116) (Dig.size _) ?_) | (refine L_eqD (d := some 119) rfl rfl rfl Tryd.underlying25 Tryd.underlying5 el_uint8 eqG_D (ev_tmp rfl) (ev_tmp rfl) ?_; (try rw [H1.out])) | fail); refine ⟨by first | exact Below.refl _ _ | exact hnew.below, ?_⟩
     refine idx_g rfl ?_; go_wp2_with (first | (first | (refine L_pickF (d := some 120) rfl rfl rfl (ev_tmp rfl) ev_const ?_) | (refine L_pickT (d := some 120) rfl rfl rfl (ev_tmp rfl) (ev_tmp rfl) ?_)) | fail); refine ⟨by first | exact Below.refl _ _ | exact hnew.below, ?_⟩
     refine idx_g rfl ?_; go_wp2_with fail; refine ⟨by first | exact Below.refl _ _ | exact hnew.below, ?_⟩
     refine idx_q rfl rfl ?_; go_wp2_with (first | (refine L_un (t := 122) rfl (by rfl) rfl ?_) | fail)
     refine idx_q rfl rfl ?_; go_wp2_with (first | (refine L_un (t := 123) rfl (by rfl) rfl ?_) | (refine L_idxS (d := some 123) rfl rfl rfl (by rfl) (by rfl) Tryd.underlying22 el_api_Digest (by first | exact hst.sl 2 rfl | assumption | exact hst.sl 0 rfl | exact hst.sl 1 rfl | exact hst.sl 2 rfl | exact hst.sl 3 rfl | exact hst.sl 4 rfl | exact hst.old (by decide) (by assumption)) (by omega) (by omega) ?_; intro o123 p123 ha123 hr123; (first | subst ha123 | (obtain ⟨h1, h2⟩ := some_addr ha123; subst h1; subst h2; clear ha123) | skip)) | fail)
     refine idx_q rfl rfl ?_; go_wp2_with (first | (refine L_un (t := 124) rfl (by rfl) rfl ?_) | (first | (refine L_loadA (d := some 124) rfl rfl rfl (by rfl) Tryd.underlying25 rfl el_api_Digest (by first | exact hst.get 0 rfl | exact hst.get 1 rfl | exact hst.get 2 rfl | exact hst.get 3 rfl | exact hst.get 4 rfl) (by first | rfl | exact Dig.size _ | (simp; done)) ?_) | (refine L_loadM (d := some 124) rfl rfl rfl (by rfl) Tryd.underlying25 rfl el_api_Digest (by first | assumption) (by first | rfl | exact Dig.size _ | (simp; done)) ?_)) | fail)
     refine idx_g rfl ?_; go_wp2_with (first | (refine L_un (t := 125) rfl (by rfl) rfl ?_) | (first | (refine L_loadA (d := some 125) rfl rfl rfl (by rfl) Tryd.underlying25 rfl el_api_Digest (by first | exact hst.get 0 rfl | exact hst.get 1 rfl | exact hst.get 2 rfl | exact hst.get 3 rfl | exact hst.get 4 rfl) (by first | rfl | exact Dig.size _ | (simp; done)) ?_) | (refine L_loadM (d := some 125) rfl rfl rfl (by rfl) Tryd.underlying25 rfl el_api_Digest (by first | assumption) (by first | rfl | exact Dig.size _ | (simp; done)) ?_)) | fail); refine ⟨by first | exact Below.refl _ _ | exact hnew.below, ?_⟩
     refine idx_g rfl ?_; go_wp2_with (first | (refine L_un (t := 126) rfl (by rfl) rfl ?_) | (refine L_loadM (d := some 117) rfl rfl rfl (by rfl) Tryd.underlying25 rfl el_api_Digest (cs := a.arr) (by rw [← HA.out]; exact hr116) (Dig.size _) ?_) | (refine L_eqD (d := some 126) rfl rfl rfl Tryd.underlying25 Tryd.underlying5 el_uint8 eqG_D (ev_tmp rfl) (ev_tmp rfl) ?_) | fail); refine ⟨by first | exact Below.refl _ _ | exact hnew.below, ?_⟩
     refine idx_g rfl ?_; go_wp2_with (first | (first | (refine L_pickF (d := some 127) rfl rfl rfl (ev_tmp rfl) ev_const ?_) | (refine L_pickT (d := some 127) rfl rfl rfl (ev_tmp rfl) (ev_tmp rfl) ?_)) | fail); refine ⟨by first | exact Below.refl _ _ | exact hnew.below, ?_⟩
     refine idx_g rfl ?_; go_wp2_with fail; refine ⟨by first | exact Below.refl _ _ | exact hnew.below, ?_⟩
     refine idx_nil ?_
     go_wp2_with (first
      | (go_at_call 23; (try clear hnew); refine (HC'.out _ (HT.out.of hst) (hst.old (by decide) hy)).mono ?_; rintro e Wk11 ⟨rfl, hnew⟩; replace hst := hst.keep hnew)
      | (first | (refine L_loadA (d := some 130) rfl rfl rfl (by rfl) Tryd.underlying25 rfl el_api_Digest (by first | exact hst.get 0 rfl | exact hst.get 1 rfl | exact hst.get 2 rfl | exact hst.get 3 rfl | exact hst.get 4 rfl) (by first | rfl | exact Dig.size _ | (simp; done)) ?_) | (refine L_loadM (d := some 130) rfl rfl rfl (by rfl) Tryd.underlying25 rfl el_api_Digest (by first | assumption) (by first | rfl | exact Dig.size _ | (simp; done)) ?_))
      | (first | (refine L_loadA (d := some 131) rfl rfl rfl (by rfl) Tryd.underlying25 rfl el_api_Digest (by first | exact hst.get 0 rfl | exact hst.get 1 rfl | exact hst.get 2 rfl | exact hst.get 3 rfl | exact hst.get 4 rfl) (by first | rfl | exact Dig.size _ | (simp; done)) ?_) | (refine L_loadM (d := some 131) rfl rfl rfl (by rfl) Tryd.underlying25 rfl el_api_Digest (by first | assumption) (by first | rfl | exact Dig.size _ | (simp; done)) ?_))
      | fail)
     go_ret
     exact ⟨rfl, hst.forget⟩
   ·have HC' := Lib.hid (show ∀ w, Tb w → SlR w P k pc 32 (digsL p) → Calls Tryd.prog 23 #[.int .i64 m, .int .i64 s, old.v, now.v, .slice P k pc] w fun e' w' => e' = .returned (.bool false) ∧ St w w' [] from fun w hT hs => by simpa [he] using HC.out P pc w hT hs)
    have he' : ((e2 : Int) == 0) = false := by rw [beq_eq_false_iff_ne]; omega
    clear he HC
    refine wp_region_idx [(0, 2), (1, 2), (2, 2), (3, 0), (4, 0), (5, 0), (6, 2), (7, 2), (8, 2), (9, 2), (10, 0), (11, 0), (12, 0), (13, 2), (14, 2), (15, 2), (16, 2)] (by kernel_rfl) (by kernel_rfl) ?_
    replace hst := hst.drew
    refine idx_g rfl ?_; go_wp2_with fail; refine ⟨by first | exact Below.refl _ _ | exact hnew.below, ?_⟩
    refine idx_g rfl ?_; go_wp2_with fail; refine ⟨by first | exact Below.refl _ _ | exact hnew.below, ?_⟩
    refine idx_g rfl ?_; go_wp2_with fail; refine ⟨by first | exact Below.refl _ _ | exact hnew.below, ?_⟩
    refine idx_q rfl rfl ?_; go_wp2_with (first | (refine L_un (t := 115) rfl (by rfl) rfl ?_) | fail)
    refine idx_q rfl rfl ?_; go_wp2_with (first | (refine L_un (t := 116) rfl (by rfl) rfl ?_) | (refine L_idxS (d := some 116) rfl rfl rfl (by rfl) (by rfl) Tryd.underlying22 el_api_Digest (by first | assumption | exact hst.sl 0 rfl | exact hst.sl 1 rfl | exact hst.sl 2 rfl | exact hst.sl 3 rfl | exact hst.sl 4 rfl | exact hst.old (by decide) (by assumption)) (by omega) (by omega) ?_; intro o116 p116 ha116 hr116; (first | subst ha116 | (obtain ⟨h1, h2⟩ := some_addr ha116; subst h1; subst h2; clear ha116) | skip)) | fail)
    refine idx_q rfl rfl ?_; go_wp2_with (first | (refine L_un (t := 117) rfl (by rfl) rfl ?_) | (first | (refine L_loadA (d := some 117) rfl rfl rfl (by rfl) Tryd.underlying25 rfl el_api_Digest (by first | exact hst.get 0 rfl | exact hst.get 1 rfl | exact hst.get 2 rfl | exact hst.get 3 rfl | exact hst.get 4 rfl) (by first | rfl | exact Dig.size _ | (simp; done)) ?_) | (refine L_loadM (d := some 117) rfl rfl rfl (by rfl) Tryd.underlying25 rfl el_api_Digest (by first | assumption) (by first | rfl | exact Dig.size _ | (simp; done)) ?_)) | fail)
    refine idx_g rfl ?_; go_wp2_with (first | (refine L_un (t := 118) rfl (by rfl) rfl ?_) | (first | (refine L_loadA (d := some 118) rfl rfl rfl (by rfl) Tryd.underlying25 rfl el_api_Digest (by first | exact hst.get 0 rfl | exact hst.get 1 rfl | exact hst.get 2 rfl | exact hst.get 3 rfl | exact hst.get 4 rfl) (by first | rfl | exact Dig.size _ | (simp; done)) ?_) | (refine L_loadM (d := some 118) rfl rfl rfl (by rfl) Tryd.underlying25 rfl el_api_Digest (by first | assumption) (by first | rfl | exact Dig.size _ | (simp; done)) ?_)) | fail); refine ⟨by first | exact Below.refl _ _ | exact hnew.below, ?_⟩
    refine idx_g rfl ?_; go_wp2_with (first | (refine L_un (t := 119) rfl (by rfl) rfl ?_) | (refine L_eqD (d := some 119) rfl rfl rfl Tryd.underlying25 Tryd.underlying5 el_uint8 eqG_D (ev_tmp rfl) (ev_tmp rfl) ?_) | fail); refine ⟨by first | exact Below.refl _ _ | exact hnew.below, ?_⟩
    refine idx_g rfl ?_; go_wp2_with (first | (first | (refine L_pickF (d := some 120) rfl rfl rfl (ev_tmp rfl) ev_const ?_) | (refine L_pickT (d := some 120) rfl rfl rfl (ev_tmp rfl) (ev_tmp rfl) ?_)) | fail); refine ⟨by first | exact Below.refl _ _ | exact hnew.below, ?_⟩
    refine idx_g rfl ?_; go_wp2_with fail; refine ⟨by first | exact Below.refl _ _ | exact hnew.below, ?_⟩
    refine idx_q rfl rfl ?_; go_wp2_with (first | (refine L_un (t := 122) rfl (by rfl) rfl ?_) | fail)
    refine idx_q rfl rfl ?_; go_wp2_with (first | (refine L_un (t := 123) rfl (by rfl) rfl ?_) | (refine L_idxS (d := some 123) rfl rfl rfl (by rfl) (by rfl) Tryd.underlying22 el_api_Digest (by first | assumption | exact hst.sl 0 rfl | exact hst.sl 1 rfl | exact hst.sl 2 rfl | exact hst.sl 3 rfl | exact hst.sl 4 rfl | exact hst.old (by decide) (by assumption)) (by omega) (by omega) ?_; intro o123 p123 ha123 hr123; (first | subst ha123 | (obtain ⟨h1, h2⟩ := some_addr ha123; subst h1; subst h2; clear ha123) | skip)) | fail)
    refine idx_q rfl rfl ?_; go_wp2_with (first | (refine L_un (t := 124) rfl (by rfl) rfl ?_) | (first | (refine L_loadA (d := some 124) rfl rfl rfl (by rfl) Tryd.underlying25 rfl el_api_Digest (by first | exact hst.get 0 rfl | exact hst.get 1 rfl | exact hst.get 2 rfl | exact hst.get 3 rfl | exact hst.get 4 rfl) (by first | rfl | exact Dig.size _ | (simp; done)) ?_) | (refine L_loadM (d := some 124) rfl rfl rfl (by rfl) Tryd.underlying25 rfl el_api_Digest (by first | assumption) (by first | rfl | exact Dig.size _ | (simp; done)) ?_)) | fail)
    refine idx_g rfl ?_; go_wp2_with (first | (refine L_un (t := 125) rfl (by rfl) rfl ?_) | (first | (refine L_loadA (d := some 125) rfl rfl rfl (by rfl) Tryd.underlying25 rfl el_api_Digest (by first | exact hst.get 0 rfl | exact hst.get 1 rfl | exact hst.get 2 rfl | exact hst.get 3 rfl | exact hst.get 4 rfl) (by first | rfl | exact Dig.size _ | (simp; done)) ?_) | (refine L_loadM (d := some 125) rfl rfl rfl (by rfl) Tryd.underlying25 rfl el_api_Digest (by first | assumption) (by first | rfl | exact Dig.size _ | (simp; done)) ?_)) | fail); refine ⟨by first | exact Below.refl _ _ | exact hnew.below, ?_⟩
    refine idx_g rfl ?_; go_wp2_with (first | (refine L_un (t := 126) rfl (by rfl) rfl ?_) | (refine L_eqD (d := some 126) rfl rfl rfl Tryd.underlying25 Tryd.underlying5 el_uint8 eqG_D (ev_tmp rfl) (ev_tmp rfl) ?_) | fail); refine ⟨by first | exact Below.refl _ _ | exact hnew.below, ?_⟩
    refine idx_g rfl ?_; go_wp2_with (first | (first | (refine L_pickF (d := some 127) rfl rfl rfl (ev_tmp rfl) ev_const ?_) | (refine L_pickT (d := some 127) rfl rfl rfl (ev_tmp rfl) (ev_tmp rfl) ?_)) | fail); refine ⟨by first | exact Below.refl _ _ | exact hnew.below, ?_⟩
    refine idx_g rfl ?_; go_wp2_with fail; refine ⟨by first | exact Below.refl _ _ | exact hnew.below, ?_⟩
    refine idx_nil ?_
    go_wp2_with (first
     | (go_at_call 23; (try clear hnew); refine (HC'.out _ (HT.out.of hst) (hst.old (by decide) hy)).mono ?_; rintro e Wk12 ⟨rfl, hnew⟩; replace hst := hst.keep hnew)
     | (first | (refine L_loadA (d := some 130) rfl rfl rfl (by rfl) Tryd.underlying25 rfl el_api_Digest (by first | exact hst.get 0 rfl | exact hst.get 1 rfl | exact hst.get 2 rfl | exact hst.get 3 rfl | exact hst.get 4 rfl) (by first | rfl | exact Dig.size _ | (simp; done)) ?_) | (refine L_loadM (d := some 130) rfl rfl rfl (by rfl) Tryd.underlying25 rfl el_api_Digest (by first | assumption) (by first | rfl | exact Dig.size _ | (simp; done)) ?_))
     | (first | (refine L_loadA (d := some 131) rfl rfl rfl (by rfl) Tryd.underlying25 rfl el_api_Digest (by first | exact hst.get 0 rfl | exact hst.get 1 rfl | exact hst.get 2 rfl | exact hst.get 3 rfl | exact hst.get 4 rfl) (by first | rfl | exact Dig.size _ | (simp; done)) ?_) | (refine L_loadM (d := some 131) rfl rfl rfl (by rfl) Tryd.underlying25 rfl el_api_Digest (by first | assumption) (by first | rfl | exact Dig.size _ | (simp; done)) ?_))
     | fail)
    go_ret
    exact ⟨rfl, hst.forget⟩
end Go.Proofs.YtfpppmamkmaneaaDoor

set_option maxRecDepth 20000
set_option linter.unusedSimpArgs false
set_option linter.unusedVariables false
namespace Go.Proofs.YtfpppmamkmaneaaDoor
open Go.ChangeShapes Go.WideShapes Go.RowKit
def ebCell : Value := .iface 139 (.agg #[.pointer (some ⟨4, 27, none⟩)])
theorem etG : Tryd.prog.globalNamed "errors.errorType" = some 2 := by kernel_rfl
theorem rtT : (Tryd.prog.cutTypes.find? (·.1 == "internal/reflectlite.rtype")).map (·.2) = some 139 := by kernel_rfl
theorem oneRow : ((List.range 181).filter fun t => Tryd.prog.rowNamed t [101, 114, 114, 111, 114]) = [27] := by kernel_rfl
theorem nTypes : Tryd.prog.types.size = 181 := by kernel_rfl
theorem eb_of {W : World} (h : handlesMet Tryd.prog [("errors.errorType", Rows.laid_errors_errorType)] W) : Eb W := by
 obtain ⟨name, u, ty, e1, e2, e3, e4, e5⟩ := h _ (List.mem_singleton.2 rfl)
 have en : name = [101, 114, 114, 111, 114] := (Option.some.inj e1).symm
 subst en
 obtain rfl := Option.some.inj (rtT.symm.trans e2)
 have hm : ty ∈ (List.range 181).filter fun t => Tryd.prog.rowNamed t [101, 114, 114, 111, 114] := List.mem_filter.2 ⟨List.mem_range.2 (by rw [← nTypes]; exact e3), e4⟩
 rw [oneRow] at hm
 obtain rfl := List.mem_singleton.1 hm
 have hh : typeHandle Tryd.prog 27 = .pointer (some ⟨4, 27, none⟩) := by kernel_rfl
 rw [hh] at e5
 simpa [Eb] using World.var?_cell etG e5 0
end Go.Proofs.YtfpppmamkmaneaaDoor

namespace Go.Proofs.YtfpppmamkmaneaaDoor.growTells
open Go.ChangeShapes Go.WideShapes Go.ChangeAt Go.RowKit
theorem own : ownKnob Tryd.prog.godebug = none := by kernel_rfl
theorem laidOut : laidOutB Tryd.prog = true := by kernel_rfl
theorem cellsD : Tryd.prog.cellsOf 25 = 32 := by kernel_rfl
theorem cells8 : Tryd.prog.cellsOf 5 = 1 := by kernel_rfl
set_option maxRecDepth 100000 in
theorem contract (H : Type) (enc : TypeId × Value → H) (W : World) (base : Nat) (args : Array Value) (ds gs : List (DataW H)) (before : List MemPlace)
  (hval : ∀ (j : Nat) t v, Tryd.f13.params[j]? = some t → args[j]? = some v → Value.okWide Tryd.prog W .any base t v)
  (hW : DataW.Whole enc Tryd.prog Tryd.f13.params.toList Rows.growTellsSpec.vars false W args.toList ds gs before) (hT : Tb W) (hE : Eb W)
  (hz : (DataW.weightsEach Tryd.prog (Tryd.f13.params.toList ++ (OpenSpec.ofChange Rows.growTellsSpec).bare.plain.varTypes Tryd.prog) (ds ++ gs)).all (· ≤ reachBytes) = true) :
  Calls Tryd.prog 13 args W fun e W' => ∃ v, e = .returned v ∧ Rows.growTellsSpec.post enc Tryd.prog Tryd.f13 false true false false W args v W' := by
 have hW' := hW
 obtain ⟨p, q, hA0, hV, rfl, hfz, hnd⟩ := hW
 have hA : DataW.TrodAll enc Tryd.prog W 0 (fun _ => true) true Tryd.f13.params.toList args.toList ds p := hA0
 rw [Tryd.params13] at hA hval hz
 obtain ⟨v0, vs0, d0, ds0, p0, q0, hargs, rfl, rfl, h0, r0⟩ := trodAll_cons hA
 obtain ⟨v1, vs1, d1, ds1, p1, q1, rfl, rfl, rfl, h1, r1⟩ := trodAll_cons r0
 obtain ⟨v2, vs2, d2, ds2, p2, q2, rfl, rfl, rfl, h2, r2⟩ := trodAll_cons r1
 obtain ⟨v3, vs3, d3, ds3, p3, q3, rfl, rfl, rfl, h3, r3⟩ := trodAll_cons r2
 obtain ⟨v4, vs4, d4, ds4, p4, q4, rfl, rfl, rfl, h4, r4⟩ := trodAll_cons r3
 obtain ⟨v5, vs5, d5, ds5, p5, q5, rfl, rfl, rfl, h5, r5⟩ := trodAll_cons r4
 obtain ⟨rfl, rfl, rfl⟩ := trodAll_nil r5
 obtain rfl : args = #[v0, v1, v2, v3, v4, v5] := by cases args; simp_all
 obtain ⟨rfl, rfl⟩ := trodVars_none hV
 obtain ⟨A0, n0, c0, a0, rfl, hs0, hd0⟩ := open_digsS Tryd.underlying22 Tryd.underlying25 Tryd.underlying5 cells8 cellsD (hval 0 _ v0 rfl rfl) h0
 have hn0 : n0 * 32 ≤ 140737488351232 := by
  rcases hd0 with ⟨_, h0⟩ | ⟨el, sp, rfl, hel⟩
  ·rw [h0]; decide
  ·have := sized_slice hz (j := 0) (e := 25) rfl rfl Tryd.underlying22
   rw [show Tryd.prog.bytesOf 25 = 32 from by kernel_rfl] at this
   have := reach_le this
   rw [← hel]
   omega
 obtain ⟨a1, rfl, rfl, rfl, wa1⟩ := open_int Tryd.underlying3 (hval 1 _ v1 rfl rfl) h1
 obtain ⟨a2, rfl, rfl, rfl, wa2⟩ := open_int Tryd.underlying3 (hval 2 _ v2 rfl rfl) h2
 obtain ⟨a3, rfl⟩ := open_dig Tryd.underlying25 Tryd.underlying5 cells8 cellsD (hval 3 _ v3 rfl rfl) h3
 obtain ⟨a4, rfl⟩ := open_dig Tryd.underlying25 Tryd.underlying5 cells8 cellsD (hval 4 _ v4 rfl rfl) h4
 obtain ⟨A5, n5, c5, a5, rfl, hs5, hd5⟩ := open_digsS Tryd.underlying22 Tryd.underlying25 Tryd.underlying5 cells8 cellsD (hval 5 _ v5 rfl rfl) h5
 have hn5 : n5 * 32 ≤ 140737488351232 := by
  rcases hd5 with ⟨_, h0⟩ | ⟨el, sp, rfl, hel⟩
  ·rw [h0]; decide
  ·have := sized_slice hz (j := 5) (e := 25) rfl rfl Tryd.underlying22
   rw [show Tryd.prog.bytesOf 25 = 32 from by kernel_rfl] at this
   have := reach_le this
   rw [← hel]
   omega
 have lt0 : ∀ x ∈ p0, x.block < W.heap.size := by obtain ⟨m, hm⟩ := h0; exact DataW.trod_lt m _ _ _ hm
 have lt3 : ∀ x ∈ p3, x.block < W.heap.size := by obtain ⟨m, hm⟩ := h3; exact DataW.trod_lt m _ _ _ hm
 have lt4 : ∀ x ∈ p4, x.block < W.heap.size := by obtain ⟨m, hm⟩ := h4; exact DataW.trod_lt m _ _ _ hm
 have lt5 : ∀ x ∈ p5, x.block < W.heap.size := by obtain ⟨m, hm⟩ := h5; exact DataW.trod_lt m _ _ _ hm
 clear hA0
 refine (growTells_any W hT hE a0 A0 n0 c0 hs0 hn0 a1 (wf64 wa1).1 (wf64 wa1).2 a2 (wf64 wa2).1 (wf64 wa2).2 a3 a4 a5 A5 n5 c5 hs5 hn5).mono fun e W' ⟨he, hst⟩ => ?_
 have bel := hst.below
 subst he
 exact ⟨_, rfl, _, _, _, [], _, [], hW', trodAll_mk1 (shut_bool Tryd.underlying4 _),
  (trodAll_cons_mk (Below.trod laidOut (by kernel_rfl) (of_decide_eq_true (by kernel_rfl)) h0 bel lt0) (trodAll_cons_mk (shut_int Tryd.underlying3 wa1) (trodAll_cons_mk (shut_int Tryd.underlying3 wa2) (trodAll_cons_mk (Below.trod laidOut (by kernel_rfl) (of_decide_eq_true (by kernel_rfl)) h3 bel lt3) (trodAll_cons_mk (Below.trod laidOut (by kernel_rfl) (of_decide_eq_true (by kernel_rfl)) h4 bel lt4) (trodAll_cons_mk (Below.trod laidOut (by kernel_rfl) (of_decide_eq_true (by kernel_rfl)) h5 bel lt5) trodAll_mk0)))))), rfl, bel.frame _, fun h => by cases h⟩
noncomputable def laidWorld0 (os : Os) : World :=
 { World.holding Tryd.prog os ⟨#[], #[], []⟩ with heap := (World.holding Tryd.prog os ⟨#[], #[], []⟩).heap.modify 3 fun
   | .cells _ t frozen => .cells tblArr t frozen
   | o => o }
noncomputable def laidWorld (os : Os) : World :=
 { laidWorld0 os with heap := (laidWorld0 os).heap.modify 2 fun
   | .cells _ t frozen => .cells #[ebCell] t frozen
   | o => o }
theorem laid_met (os : Os) : laidMetH Tryd.prog Rows.growTellsRow.laid ((laidWorld os).forCall (fun _ _ => 0) ⟨#[], #[.slice none 0 0, .int .i64 0, .int .i64 0, zeroD.v, zeroD.v, .slice none 0 0], []⟩).memory :=
 laidMetH_of_parts (laidMet_of_run' 8 (by kernel_rfl) (by kernel_rfl)) (by kernel_rfl)
theorem reads (os : Os) {H : Type} (enc : TypeId × Value → H) : ∃ places, DataW.whole enc Tryd.prog ((laidWorld os).forCall (fun _ _ => 0) ⟨#[], #[.slice none 0 0, .int .i64 0, .int .i64 0, zeroD.v, zeroD.v, .slice none 0 0], []⟩).memory Tryd.f13.params.toList Rows.growTellsSpec.vars false (#[.slice none 0 0, .int .i64 0, .int .i64 0, zeroD.v, zeroD.v, .slice none 0 0] : Array Value).toList 8 = some ([.nil, .lit (.int .i64 0), .lit (.int .i64 0), .agg (List.replicate 32 (.lit (.int .u8 0))), .agg (List.replicate 32 (.lit (.int .u8 0))), .nil], [], places) :=
 ⟨[], by kernel_rfl⟩
set_option maxRecDepth 100000 in
theorem lifted (os : Os) (started : os.Started) (H : Type) (enc : TypeId × Value → H) (F : Stop.Interp) :
  ReturnsInHanded {} Tryd.checked os 13 .any ((OpenSpec.ofChange Rows.growTellsSpec).preRow enc Tryd.prog Tryd.f13 Rows.growTellsRow.domain false Rows.growTellsRow.laid) (((OpenSpec.ofChange Rows.growTellsSpec).at F).post enc Tryd.prog Tryd.f13 false true false false) := by
 obtain ⟨places, hx⟩ := reads os enc
 refine returnsInHanded_of_row (C := Tryd.checked) (s := (OpenSpec.ofChange Rows.growTellsSpec)) own started (by kernel_rfl) Tryd.func13
  (witness_row_at (enc := enc) (C := Tryd.checked) false (laidWorld os) #[.slice none 0 0, .int .i64 0, .int .i64 0, zeroD.v, zeroD.v, .slice none 0 0] rfl (by kernel_rfl) (by kernel_rfl) (by kernel_rfl)
   (OpenSpec.preRow_of_cond 8 hx (by kernel_rfl) (fun k hk => by cases hk) (by kernel_rfl) (laid_met os))) ?_
 intro W base args ds gs before hval hW _ _ hz hL _ _
 exact contract H enc W base args ds gs before hval hW (tb_of (show laidMet Tryd.prog [("oathbook/sha.rounds", Rows.laid_oathbook_sha_rounds)] W ∧ handlesMet Tryd.prog [("errors.errorType", Rows.laid_errors_errorType)] W from hL).1) (eb_of (show laidMet Tryd.prog [("oathbook/sha.rounds", Rows.laid_oathbook_sha_rounds)] W ∧ handlesMet Tryd.prog [("errors.errorType", Rows.laid_errors_errorType)] W from hL).2) hz
theorem said : Rows.GrowTellsSaid :=
 OpenClaim.holds_of_cond 13 Tryd.f13 rfl rfl rfl rfl rfl rfl rfl ⟨rfl, rfl, rfl, rfl, rfl⟩ rfl rfl rfl rfl rfl (by kernel_rfl) Tryd.func13 (by kernel_rfl)
  (of_decide_eq_true (by kernel_rfl)) (by unfold Func.isWrapper; first | (rw [if_pos (by decide +kernel)]; kernel_rfl) | (rw [if_neg (by decide +kernel)]; exact ⟨rfl, rfl⟩))
  (fun os started H enc _ F => by rw [OpenClaim.pre_eq_preRow]; exact lifted os started H enc F)
theorem plain (f : FuncId) (fn : Func) (hf : Tryd.pinned.checked.prog.funcNamed "oathbook/oathbooklaw1.GrowTells" = some f) (hfn : Tryd.pinned.checked.prog.funcs[f]? = some fn) :
  true = Tryd.pinned.checked.prog.looks [] ∧ ∀ (j : Nat) t, fn.params[j]? = some t → Tryd.pinned.checked.prog.wantsStandIn t = false := by
 obtain rfl : f = 13 := Option.some.inj ((show Tryd.prog.funcNamed "oathbook/oathbooklaw1.GrowTells" = some 13 by kernel_rfl).symm.trans hf) |>.symm
 obtain rfl : fn = Tryd.f13 := (Option.some.inj (Tryd.func13.symm.trans hfn)).symm
 refine ⟨by kernel_rfl, fun j t ht => ?_⟩
 rw [Tryd.params13] at ht
 have hm := Array.mem_of_getElem? ht
 have ha : ∀ t ∈ #[22, 3, 3, 25, 25, 22], Tryd.prog.wantsStandIn t = false := by
  intro t ht
  simp only [List.mem_toArray, List.mem_cons, List.not_mem_nil, or_false] at ht
  rcases ht with rfl | rfl | rfl | rfl | rfl | rfl <;> kernel_rfl
 exact ha t hm
theorem proved : Rows.GrowTellsCardSaid :=
 Claim7.holds_tied_plain_at .later [] _ _ _ _ said (fun _ h => by cases h) (by kernel_rfl) (fun _ h => by cases h) growTells_row_tie rfl ⟨rfl, rfl⟩ (by kernel_rfl) rfl plain (by kernel_rfl)
#print axioms proved
end Go.Proofs.YtfpppmamkmaneaaDoor.growTells
