/-
  Proved here, ahead of the law: DeskAnswers: the law returns true for every input, and leaves its arguments as they were.
-/
import Derived.Test.YtaebeemnipafbaaGreatDoorPkDeskAnswersB
import Derived.Test.YtaebeemnipafbaaGreatDoorPkDeskAnswersA
import Derived.Test.YtaebeemnipafbaaGreatDoorSq
import Derived.Test.YtaebeemnipafbaaGreatDoorPkDeskAnswersC
import Derived.Test.YtaebeemnipafbaaGreatDoorSkip
import Derived.Test.YtaebeemnipafbaaGreatDoorLeafs
set_option linter.unusedSimpArgs false
set_option linter.unusedVariables false
set_option maxRecDepth 100000
set_option maxHeartbeats 200000000
namespace Go.Proofs.YtaebeemnipafbaaGreatDoor
section
open Go.RowKit
attribute [local simp] GN
theorem digs_cell {W : World} {g off i : Nat} {ds : List Dig} (h : W.rangeAt g (off + (i : Int).toNat * 32) (((GP ds).drop ((i : Int).toNat * 32)).take 32)) (hi : i < ds.length) : W.rangeAt g (off + (i : Int).toNat * 32) (ds[i]).arr.toList := by
 rw [Int.toNat_natCast] at h ⊢
 rw [MQ ds i hi] at h
 rwa [Dig.toList]
end
section
open Go.RowKit
attribute [local simp] GN
theorem rmapfolded_any (k0 : Nat) (l : Dig) (ps : List Dig) (A : Option Addr) (n c : Nat) (w : World) (hx : SlR w A n c 32 (GP ps)) (hk : k0 < 4294967296) (hn : n ≤ 32) :
  Calls Tryz.prog 53 #[.int .i64 (k0 : Int), l.v, .slice A n c] w fun e w' => e = .returned (KV k0 l ps).v ∧ St w w' [] := by
 have Ga := St.refl w
 have hl : ps.length = n := by have := hx.1; rw [G8] at this; omega
 have HL := Gg hl
 have HX := Gg hx
 clear hl hx
 go_enter Tryz.func53, Tryz.ntmps53
 go_upto_region 1 with (go_big_may; first | (refine Gm 4 rfl (Gw rfl) ?_; (try clear Gb); intro g4 W4 Gb; replace Ga := Ga.tr1 Gb) | (refine Gk 6 rfl Gv ?_; (try clear Gb); intro g6 W6 Gb; replace Ga := Ga.tr1 Gb))
 go_wp2_with (fail)
 go_loopg [0, 7] n (fun gk s0 s7 wr => ∃ (i k : Nat) (d : Dig), Hid (gk + i = n) ∧ k < 4294967296 ∧ Hid (k = k0 / 2 ^ i ∧ d = KV k0 l (ps.take i)) ∧ s0 = .int .i64 (k : Int) ∧ s7 = .int .i64 (i : Int) ∧ St w wr [.blk g6 32 GM.arr, .blk g4 32 d.arr])
 case atStart => exact ⟨0, k0, l, Lib.hid rfl, hk, Lib.hid ⟨by simp, rfl⟩, rfl, rfl, Ga⟩
 case round =>
  clear Ga hk
  obtain ⟨i, k, d, HI, hk, HM, rfl, rfl, Ga⟩ := hrel
  have hi := HI.out
  by_cases hlt : i < n
  ·obtain ⟨g, rfl⟩ : ∃ g, gk = g + 1 := ⟨gk - 1, by omega⟩
   have hil : i < ps.length := by rw [HL.out]; exact hlt
   have HC := Gg (fun (W : World) (g off : Nat) h => digs_cell (W := W) (g := g) (off := off) (i := i) (ds := ps) h hil)
   have hs := mFold_snoc (ps.take i) k0 l ps[i]
   rw [← List.take_succ_eq_append_getElem hil, List.length_take, Nat.min_eq_left (by omega), ← HM.out.1, ← HM.out.2] at hs
   have hk2 : k / 2 = k0 / 2 ^ (i + 1) := by rw [half_step, ← HM.out.1]
   generalize ps[i] = p at HC hs
   by_cases hpar : k % 2 = 1
   ·have hd1 : ((k : Int) % 2 == 1) = true := by simp; omega
    rw [if_pos hpar] at hs
    have HS := Gg (And.intro hk2 hs.symm)
    have HN := Gg (fun w => rmapnode_any p d w)
    clear hs hk2 hpar hil hi
    go_upto_region 4 with (go_big_may; fail)
    go_upto_region 5 with (go_big_may; fail)
    refine GO [(0, 0), (1, 0), (2, 0), (3, 0), (4, 2), (5, 2), (6, 1)] (by kernel_rfl) (by kernel_rfl) ?_
    replace Ga := Ga.drew
    refine GG rfl rfl ?_; go_wp2_with fail
    refine GG rfl rfl ?_; go_wp2_with fail
    refine GG rfl rfl ?_; go_wp2_with (refine Gp 19 rfl (by rfl) (by rfl) uz44 Gv (Ga.old (by decide) HX.out) (by omega) (by omega) ?_; intro o19 p19 ha19 hr19; ((subst ha19)))
    refine GG rfl rfl ?_; go_wp2_with (refine Gn 20 rfl (by rfl) uz32 rfl Gv (HC.out _ _ _ hr19) (Dig.size _) ?_)
    refine GA rfl ?_; go_wp2_with ((refine Gl 21 rfl (by rfl) uz32 rfl Gv (Ga.get 1 rfl) (Dig.size _) ?_)); refine Gh ?_
    refine GA rfl ?_; go_wp2_with ((go_at_call 88; (try clear Gb); refine (HN.out _).mono ?_; rintro e Wk1 ⟨rfl, Gb⟩; replace Ga := Ga.keep Gb)); refine Gi Gb ?_
    refine J6 rfl ?_; go_wp2_with ((refine Gr 4 22 Ga rfl (by rfl) (Gw rfl) (Dig.one _) Gv (Dig.size _) 1 rfl (Dig.size _) ?_; clear Ga; intro WS6 Ga; simp only [Ge, Gf] at Ga))
    refine G5 ?_
    go_upto_region 3 with (go_big_may; fail)
    go_wp2_with (fail)
    go_roundg g
    case measure => omega
    case rel => exact ⟨i + 1, k / 2, _, Gg (by have := HI.out; omega), by omega, Lib.hid ⟨HS.out.1, HS.out.2⟩, by go_num, by go_num, Ga⟩
   ·have hd1 : ((k : Int) % 2 == 1) = false := by simp; omega
    rw [if_neg hpar] at hs
    have HS := Gg (And.intro hk2 hs.symm)
    have HN := Gg (fun w => rmapnode_any d p w)
    clear hs hk2 hpar hil hi
    go_upto_region 4 with (go_big_may; fail)
    go_upto_region 6 with (go_big_may; fail)
    refine GO [(0, 0), (1, 0), (2, 2), (3, 2), (4, 2), (5, 2), (6, 1)] (by kernel_rfl) (by kernel_rfl) ?_
    replace Ga := Ga.drew
    refine GG rfl rfl ?_; go_wp2_with ((refine Gl 23 rfl (by rfl) uz32 rfl Gv (Ga.get 1 rfl) (Dig.size _) ?_))
    refine GG rfl rfl ?_; go_wp2_with fail
    refine GA rfl ?_; go_wp2_with fail; refine Gh ?_
    refine GA rfl ?_; go_wp2_with (refine Gp 26 rfl (by rfl) (by rfl) uz44 Gv (Ga.old (by decide) HX.out) (by omega) (by omega) ?_; intro o26 p26 ha26 hr26; ((subst ha26))); refine Gh ?_
    refine GA rfl ?_; go_wp2_with (refine Gn 27 rfl (by rfl) uz32 rfl Gv (HC.out _ _ _ hr26) (Dig.size _) ?_); refine Gh ?_
    refine GA rfl ?_; go_wp2_with ((go_at_call 88; (try clear Gb); refine (HN.out _).mono ?_; rintro e Wk2 ⟨rfl, Gb⟩; replace Ga := Ga.keep Gb)); refine Gi Gb ?_
    refine J6 rfl ?_; go_wp2_with ((refine Gr 4 28 Ga rfl (by rfl) (Gw rfl) (Dig.one _) Gv (Dig.size _) 1 rfl (Dig.size _) ?_; clear Ga; intro WS6 Ga; simp only [Ge, Gf] at Ga))
    refine G5 ?_
    go_upto_region 3 with (go_big_may; fail)
    go_wp2_with (fail)
    go_roundg g
    case measure => omega
    case rel => exact ⟨i + 1, k / 2, _, Gg (by have := HI.out; omega), by omega, Lib.hid ⟨HS.out.1, HS.out.2⟩, by go_num, by go_num, Ga⟩
  ·obtain rfl : gk = 0 := by omega
   obtain rfl : i = n := by omega
   have HE := Gg (show d = KV k0 l ps by rw [HM.out.2, ← HL.out, List.take_length])
   clear hi hlt HM
   go_upto_region 8 with (go_big_may; fail)
   go_wp2_with (first | (refine Gl 31 rfl (by rfl) uz32 rfl Gv (Ga.get 1 rfl) (Dig.size _) ?_) | ((refine Gr 6 31 Ga rfl (by rfl) (Gw rfl) (Dig.one _) Gv (Dig.size _) 0 rfl (by rfl) ?_; clear Ga; intro WS1 Ga; simp only [Ge, Gf] at Ga)))
   refine Hw rfl rfl rfl (Ga.get 0 rfl) uz32 rfl Gv (Dig.size _) ?_
   exact ⟨by rw [HE.out], Ga.forget⟩
theorem rnoteB_no (n : NoteN) (w : World) (hs : n.name.length ≤ 9223372036854775807) (h : JN n = false) (h1 : -9223372036854775808 ≤ n.turn) (h2 : n.turn ≤ 9223372036854775807) :
  Calls Tryz.prog 49 #[.agg (Ha n.name n.key n.turn)] w fun e w' => ∃ r : Nat, e = .returned (.tuple #[.slice none 0 0, .int .i64 (r : Int)]) ∧ (r = 1 ∨ r = 2) ∧ St w w' [] := by
 have Ga := St.refl w
 obtain ⟨s, k, t⟩ := n
 simp only at *
 have HNm := Gg (fun w' => Kx s w' hs)
 by_cases hnm : JM s = true
 case neg =>
  have hnm' : JM s = false := by simpa using hnm
  rewrite [hnm'] at HNm
  clear hnm hnm' h h1 h2
  go_enter Tryz.func49, Tryz.ntmps49
  go_upto_region 1 with (go_big_may; (refine Gm 1 rfl (Gw rfl) ?_; (try clear Gb); intro g1 W1 Gb; replace Ga := Ga.tr1 Gb))
  go_upto_region 2 with (go_big_may; first | (go_at_call 31; (try clear Gb); refine (HNm.out _).mono ?_; rintro e Wk3 ⟨rfl, Gb⟩; replace Ga := Ga.keep Gb) | (refine Gj 10 rfl (by rfl) uz9 rfl (Gy (Ga.get 0 rfl) Kf) ?_))
  go_wp2_with (fail)
  go_ret2
  exact ⟨1, rfl, .inl rfl, Ga.forget⟩
 rewrite [hnm] at HNm
 have hb : ¬ (0 ≤ t ∧ t < 4294967296) := fun hc => by
  unfold JN at h
  simp only [hnm, Bool.true_and, decide_eq_false_iff_not] at h
  exact h hc
 by_cases ht : t < 0
 ·have HP := Gg (fun w' => rput_no t 4 w' (.inr (.inr ht)))
  clear hnm h hb
  go_enter Tryz.func49, Tryz.ntmps49
  go_upto_region 1 with (go_big_may; (refine Gm 1 rfl (Gw rfl) ?_; (try clear Gb); intro g1 W1 Gb; replace Ga := Ga.tr1 Gb))
  go_upto_region 3 with (go_big_may; first | (go_at_call 31; (try clear Gb); refine (HNm.out _).mono ?_; rintro e Wk4 ⟨rfl, Gb⟩; replace Ga := Ga.keep Gb) | (refine Gj 10 rfl (by rfl) uz9 rfl (Gy (Ga.get 0 rfl) Kf) ?_))
  go_upto_region 4 with (go_big_may; first | (go_at_call 93; (try clear Gb); refine (HP.out _).mono ?_; rintro e Wk5 ⟨rfl, Gb⟩; replace Ga := Ga.keep Gb) | (refine Gj 15 rfl (by rfl) uz3 rfl (Gy (Ga.get 0 rfl) KN) ?_))
  go_upto_region 5 with (go_big_may; fail)
  go_wp2_with (fail)
  go_ret2
  exact ⟨2, rfl, .inr rfl, Ga.forget⟩
 ·obtain ⟨m, rfl⟩ : ∃ m : Nat, t = (m : Int) := ⟨t.toNat, by omega⟩
  have hz : (((m >>> (8 * 4) : Nat) : Int) == 0) = false := by
   rw [Nat.shiftRight_eq_div_pow]
   simp
   omega
  have HP := Gg (fun w' => by
   have := rput_any m 4 w' (by decide) (by decide) (by omega)
   rewrite [hz] at this
   exact this)
  clear hnm h hb ht hz h1 h2
  go_enter Tryz.func49, Tryz.ntmps49
  go_upto_region 1 with (go_big_may; (refine Gm 1 rfl (Gw rfl) ?_; (try clear Gb); intro g1 W1 Gb; replace Ga := Ga.tr1 Gb))
  go_upto_region 3 with (go_big_may; first | (go_at_call 31; (try clear Gb); refine (HNm.out _).mono ?_; rintro e Wk6 ⟨rfl, Gb⟩; replace Ga := Ga.keep Gb) | (refine Gj 10 rfl (by rfl) uz9 rfl (Gy (Ga.get 0 rfl) Kf) ?_))
  go_upto_region 4 with (go_big_may; first | (go_at_call 93; (try clear Gb); refine (HP.out _).mono ?_; rintro e Wk7 ⟨O, rfl, Gb⟩; replace Ga := Ga.trans Gb; simp only [Gc, Gd] at Ga) | (refine Gj 15 rfl (by rfl) uz3 rfl (Gy (Ga.get 0 rfl) KN) ?_))
  go_upto_region 5 with (go_big_may; fail)
  go_wp2_with (fail)
  go_ret2
  exact ⟨2, rfl, .inr rfl, Ga.forget⟩
end
section
open Go.RowKit
attribute [local simp] Jq
def lookQ (r : Nat × Option NoteN) : Value := .tuple #[.agg (r.2.getD ND).arr, .bool r.2.isSome, .int .i64 (r.1 : Int)]
theorem looked_no (n : Int) (x y z : Dig) (s : List UInt8) (a1 : List UInt8) (a2 : Dig) (a3 : Int) (at_ : Int) (A : Option Addr) (m c : Nat) (B : Option Addr) (p q : Nat) (w : World) (hsz : s.length ≤ 140737488355328) (hs : JM s = false) :
  Calls Tryz.prog 21 #[.agg (H9 n x y z), .string (GZ s), .agg (JE a1 a2 a3 at_ A m c B p q)] w fun e w' => e = .returned (.tuple #[.agg (Ha [] GM 0), .bool false, .int .i64 1]) ∧ St w w' [] := by
 have Ga := St.refl w
 have HN := Gg (fun w' => by have := Kx s w' (by omega); rewrite [hs] at this; exact this)
 clear hs
 go_enter Tryz.func21, Tryz.ntmps21
 go_upto_region 1 with (go_big_may; first | (refine Gm 3 rfl (Gw rfl) ?_; (try clear Gb); intro g3 W3 Gb; replace Ga := Ga.tr1 Gb) | (refine Gm 5 rfl (Gw rfl) ?_; (try clear Gb); intro g5 W5 Gb; replace Ga := Ga.tr1 Gb) | (refine Gk 6 rfl GD ?_; (try clear Gb); intro g6 W6 Gb; replace Ga := Ga.tr1 Gb))
 go_upto_region 2 with (go_big_may; (go_at_call 31; (try clear Gb); refine (HN.out _).mono ?_; rintro e Wk1 ⟨rfl, Gb⟩; replace Ga := Ga.keep Gb))
 go_wp2_with (first | (refine Je (d := some 18) rfl rfl rfl ?_) | ((refine Gr 6 18 Ga rfl (by rfl) (Gw rfl) (Hg _ _ _) GD (by rfl) 0 rfl (by rfl) ?_; clear Ga; intro WS1 Ga; simp only [Ge, Gf] at Ga)))
 refine Hu rfl rfl rfl rfl rfl (Ga.get 0 rfl) uz34 rfl GD (GN _ _ _) ?_
 exact ⟨rfl, Ga.forget⟩
theorem looked_none (n : Int) (x y z : Dig) (s : List UInt8) (a2 : Dig) (a3 : Int) (at_ : Int) (A : Option Addr) (m c : Nat) (B : Option Addr) (ps : List Dig) (p q : Nat) (w : World) (hsz : s.length ≤ 140737488354000) (hs : JM s = true) (hx : SlR w B p q 32 (GP ps)) :
  Calls Tryz.prog 21 #[.agg (H9 n x y z), .string (GZ s), .agg (JE [] a2 a3 at_ A m c B p q)] w fun e w' => e = .returned (.tuple #[.agg (Ha [] GM 0), .bool false, .int .i64 (if a2 = GM ∧ a3 = 0 ∧ at_ = 0 ∧ m = 0 ∧ K8 y s GM ps then 0 else 9)]) ∧ St w w' [] := by
 have Ga := St.refl w
 have hl : ps.length = p := by have := hx.1; rw [G8] at this; omega
 have HX := Gg hx
 have HN := Gg (fun w' => by have := Kx s w' (by omega); rewrite [hs] at this; exact this)
 have HI := Gg (fun w' => MA s w' hsz)
 have HF := Gg (fun (w' : World) (h : SlR w' B p q 32 (GP ps)) (hp : p ≤ 32) => rmapfolded_any (Jf s) GM ps B p q w' h (Mo s) hp)
 obtain ⟨r, hr, hr2⟩ : ∃ r : Int, r = (if a2 = GM ∧ a3 = 0 ∧ at_ = 0 ∧ m = 0 ∧ K8 y s GM ps then 0 else 9) ∧ ((a2 = GM ∧ a3 = 0 ∧ at_ = 0 ∧ m = 0 ∧ p = 32 ∧ KV (Jf s) GM ps = y → r = 0) ∧ (¬ (a2 = GM ∧ a3 = 0 ∧ at_ = 0 ∧ m = 0 ∧ p = 32 ∧ KV (Jf s) GM ps = y) → r = 9)) :=
  ⟨_, rfl, fun h => if_pos ⟨h.1, h.2.1, h.2.2.1, h.2.2.2.1, by unfold K8; rw [hl]; exact h.2.2.2.2⟩, fun h => if_neg fun h' => h ⟨h'.1, h'.2.1, h'.2.2.1, h'.2.2.2.1, by have := h'.2.2.2.2; unfold K8 at this; rwa [hl] at this⟩⟩
 rewrite [← hr]
 generalize KV (Jf s) GM ps = D at *
 generalize Jf s = ix at *
 have HR := Gg hr2
 have hb := bsOf_nil
 clear hs hx hr hr2 hl hsz
 go_enter Tryz.func21, Tryz.ntmps21
 go_upto_region 1 with (go_big_may; first | (refine Gm 3 rfl (Gw rfl) ?_; (try clear Gb); intro g3 W3 Gb; replace Ga := Ga.tr1 Gb) | (refine Gm 5 rfl (Gw rfl) ?_; (try clear Gb); intro g5 W5 Gb; replace Ga := Ga.tr1 Gb) | (refine Gk 6 rfl GD ?_; (try clear Gb); intro g6 W6 Gb; replace Ga := Ga.tr1 Gb))
 go_upto_region 3 with (go_big_may; (go_at_call 31; (try clear Gb); refine (HN.out _).mono ?_; rintro e Wk2 ⟨rfl, Gb⟩; replace Ga := Ga.keep Gb))
 go_upto_region 4 with (go_big_may; first | (refine Gn 20 rfl (by rfl) uz34 rfl GD (J4 (Ga.get 1 rfl)) (GN _ _ _) ?_) | (refine Gk 9 rfl GD ?_; (try clear Gb); intro g9 W9 Gb; replace Ga := Ga.tr1 Gb) | ((refine Gr 9 20 Ga rfl (by rfl) (Gw rfl) (Hg _ _ _) GD (GN _ _ _) 0 rfl (by rfl) ?_; clear Ga; intro WS3 Ga; simp only [Ge, Gf] at Ga)))
 go_upto_region 5 with (go_big_may; (go_at_call 33; (try clear Gb); refine (HI.out _).mono ?_; rintro e Wk3 ⟨rfl, Gb⟩; replace Ga := Ga.keep Gb))
 go_upto_region 6 with (go_big_may; (refine Gj 24 rfl (by rfl) uz9 rfl (Gy (Ga.get 0 rfl) Kf) ?_))
 (try clear Gb)
 clear HN HI
 go_simp
 go_cut [11] (fun s11 wx => ∃ b : Bool, Hid (b = decide (a3 = 0 ∧ a2 = GM ∧ at_ = 0 ∧ m = 0)) ∧ s11 = .bool b ∧ St w wx [.blk g9 34 (Ha [] a2 a3), .blk g6 34 (Ha [] GM 0), .blk g5 46 (JE [] a2 a3 at_ A m c B p q), .blk g3 41 (H9 n x y z)])
 case first =>
  by_cases c1 : a3 = 0
  case neg =>
   have hx1 : (a3 == 0) = false := by simpa using c1
   have HB := Gg (show false = decide (a3 = 0 ∧ a2 = GM ∧ at_ = 0 ∧ m = 0) by simp [c1])
   clear c1
   refine GO [(0, 2), (1, 2), (2, 2), (3, 2), (4, 0), (5, 0), (6, 2), (7, 2), (8, 2), (9, 2), (10, 2), (11, 2), (12, 2), (13, 2), (14, 2), (15, 2), (16, 2), (17, 2), (18, 2), (19, 2), (20, 2)] (by kernel_rfl) (by kernel_rfl) ?_
   replace Ga := Ga.drew
   refine GA rfl ?_; go_wp2_with fail; refine Gh ?_
   refine GA rfl ?_; go_wp2_with (refine Gj 27 rfl (by rfl) uz3 rfl (Gy (Ga.get 0 rfl) KN) ?_); refine Gh ?_
   refine GA rfl ?_; go_wp2_with fail; refine Gh ?_
   refine GA rfl ?_; go_wp2_with fail; refine Gh ?_
   refine H8 rfl rfl (by kernel_rfl) ?_; go_wp2_with (refine K0 (t := 30) rfl (by rfl) rfl ?_)
   refine GG rfl rfl ?_; go_wp2_with (refine K0 (t := 31) rfl (by rfl) rfl ?_)
   refine GA rfl ?_; go_wp2_with (refine K0 (t := 32) rfl (by rfl) rfl ?_); refine Gh ?_
   refine GA rfl ?_; go_wp2_with (refine K0 (t := 33) rfl (by rfl) rfl ?_); refine Gh ?_
   refine GA rfl ?_; go_wp2_with ((refine JP (d := some 34) rfl rfl rfl (Gw rfl) GT ?_)); refine Gh ?_
   refine GA rfl ?_; go_wp2_with fail; refine Gh ?_
   refine GA rfl ?_; go_wp2_with (refine K0 (t := 36) rfl (by rfl) rfl ?_); refine Gh ?_
   refine GA rfl ?_; go_wp2_with (refine K0 (t := 37) rfl (by rfl) rfl ?_); refine Gh ?_
   refine GA rfl ?_; go_wp2_with (refine K0 (t := 38) rfl (by rfl) rfl ?_); refine Gh ?_
   refine GA rfl ?_; go_wp2_with ((refine JP (d := some 39) rfl rfl rfl (Gw rfl) GT ?_)); refine Gh ?_
   refine GA rfl ?_; go_wp2_with fail; refine Gh ?_
   refine GA rfl ?_; go_wp2_with (refine K0 (t := 41) rfl (by rfl) rfl ?_); refine Gh ?_
   refine GA rfl ?_; go_wp2_with (refine K0 (t := 42) rfl (by rfl) rfl ?_); refine Gh ?_
   refine GA rfl ?_; go_wp2_with (refine K0 (t := 43) rfl (by rfl) rfl ?_); refine Gh ?_
   refine GA rfl ?_; go_wp2_with (refine K0 (t := 44) rfl (by rfl) rfl ?_); refine Gh ?_
   refine GA rfl ?_; go_wp2_with ((refine JP (d := some 45) rfl rfl rfl (Gw rfl) GT ?_)); refine Gh ?_
   refine GA rfl ?_; go_wp2_with fail; refine Gh ?_
   refine G5 ?_
   go_wp2_with fail
   go_meet
   case rel => exact ⟨false, HB, rfl, Ga⟩
  subst c1
  by_cases c2 : a2 = GM
  case neg =>
   have HZ := Gg (show decide (a2 = GM) = false from decide_eq_false c2)
   have HB := Gg (show false = decide ((0 : Int) = 0 ∧ a2 = GM ∧ at_ = 0 ∧ m = 0) by simp [c2])
   clear c2
   refine GO [(0, 2), (1, 2), (2, 2), (3, 2), (4, 0), (5, 0), (6, 2), (7, 2), (8, 2), (9, 2), (10, 2), (11, 2), (12, 2), (13, 2), (14, 2), (15, 2), (16, 2), (17, 2), (18, 2), (19, 2), (20, 2)] (by kernel_rfl) (by kernel_rfl) ?_
   replace Ga := Ga.drew
   refine GA rfl ?_; go_wp2_with fail; refine Gh ?_
   refine GA rfl ?_; go_wp2_with (refine Gj 27 rfl (by rfl) uz3 rfl (Gy (Ga.get 0 rfl) KN) ?_); refine Gh ?_
   refine GA rfl ?_; go_wp2_with (fail); refine Gh ?_
   refine GA rfl ?_; go_wp2_with fail; refine Gh ?_
   refine H8 rfl rfl (by kernel_rfl) ?_; go_wp2_with (fail)
   refine GG rfl rfl ?_; go_wp2_with ((refine Gn 31 rfl (by rfl) uz32 rfl Gv (MG (Ga.get 0 rfl)) (Dig.size _) ?_))
   refine GA rfl ?_; go_wp2_with ((go_at_call 52; (try clear Gb); refine (KO _).mono ?_; rintro e Wk4 ⟨rfl, Gb⟩; replace Ga := Ga.keep Gb)); refine Gi Gb ?_
   refine GA rfl ?_; go_wp2_with (refine MJ (d := some 33) rfl rfl rfl uz32 uz5 GF JG (Gw rfl) (Gw rfl) ?_; (try rw [HZ.out])); refine Gh ?_
   refine GA rfl ?_; go_wp2_with ((refine Ka (d := some 34) rfl rfl rfl (Gw rfl) (Gw rfl) ?_)); refine Gh ?_
   refine GA rfl ?_; go_wp2_with fail; refine Gh ?_
   refine GA rfl ?_; go_wp2_with (refine K0 (t := 36) rfl (by rfl) rfl ?_); refine Gh ?_
   refine GA rfl ?_; go_wp2_with (refine K0 (t := 37) rfl (by rfl) rfl ?_); refine Gh ?_
   refine GA rfl ?_; go_wp2_with (refine K0 (t := 38) rfl (by rfl) rfl ?_); refine Gh ?_
   refine GA rfl ?_; go_wp2_with ((refine JP (d := some 39) rfl rfl rfl (Gw rfl) GT ?_)); refine Gh ?_
   refine GA rfl ?_; go_wp2_with fail; refine Gh ?_
   refine GA rfl ?_; go_wp2_with (refine K0 (t := 41) rfl (by rfl) rfl ?_); refine Gh ?_
   refine GA rfl ?_; go_wp2_with (refine K0 (t := 42) rfl (by rfl) rfl ?_); refine Gh ?_
   refine GA rfl ?_; go_wp2_with (refine K0 (t := 43) rfl (by rfl) rfl ?_); refine Gh ?_
   refine GA rfl ?_; go_wp2_with (refine K0 (t := 44) rfl (by rfl) rfl ?_); refine Gh ?_
   refine GA rfl ?_; go_wp2_with ((refine JP (d := some 45) rfl rfl rfl (Gw rfl) GT ?_)); refine Gh ?_
   refine GA rfl ?_; go_wp2_with fail; refine Gh ?_
   refine G5 ?_
   go_wp2_with fail
   go_meet
   case rel => exact ⟨false, HB, rfl, Ga⟩
  have HZ := Gg (show decide (a2 = GM) = true from decide_eq_true c2)
  by_cases c3 : at_ = 0
  case neg =>
   have hx1 : (at_ == 0) = false := by simpa using c3
   have HB := Gg (show false = decide ((0 : Int) = 0 ∧ a2 = GM ∧ at_ = 0 ∧ m = 0) by simp [c3])
   clear c2 c3
   refine GO [(0, 2), (1, 2), (2, 2), (3, 2), (4, 0), (5, 0), (6, 2), (7, 2), (8, 2), (9, 2), (10, 2), (11, 2), (12, 2), (13, 2), (14, 2), (15, 2), (16, 2), (17, 2), (18, 2), (19, 2), (20, 2)] (by kernel_rfl) (by kernel_rfl) ?_
   replace Ga := Ga.drew
   refine GA rfl ?_; go_wp2_with fail; refine Gh ?_
   refine GA rfl ?_; go_wp2_with (refine Gj 27 rfl (by rfl) uz3 rfl (Gy (Ga.get 0 rfl) KN) ?_); refine Gh ?_
   refine GA rfl ?_; go_wp2_with (fail); refine Gh ?_
   refine GA rfl ?_; go_wp2_with fail; refine Gh ?_
   refine H8 rfl rfl (by kernel_rfl) ?_; go_wp2_with (fail)
   refine GG rfl rfl ?_; go_wp2_with ((refine Gn 31 rfl (by rfl) uz32 rfl Gv (MG (Ga.get 0 rfl)) (Dig.size _) ?_))
   refine GA rfl ?_; go_wp2_with ((go_at_call 52; (try clear Gb); refine (KO _).mono ?_; rintro e Wk5 ⟨rfl, Gb⟩; replace Ga := Ga.keep Gb)); refine Gi Gb ?_
   refine GA rfl ?_; go_wp2_with (refine MJ (d := some 33) rfl rfl rfl uz32 uz5 GF JG (Gw rfl) (Gw rfl) ?_; (try rw [HZ.out])); refine Gh ?_
   refine GA rfl ?_; go_wp2_with ((refine Ka (d := some 34) rfl rfl rfl (Gw rfl) (Gw rfl) ?_)); refine Gh ?_
   refine GA rfl ?_; go_wp2_with fail; refine Gh ?_
   refine GA rfl ?_; go_wp2_with (fail); refine Gh ?_
   refine GA rfl ?_; go_wp2_with (refine Gj 37 rfl (by rfl) uz3 rfl (Gy (Ga.get 2 rfl) Kd) ?_); refine Gh ?_
   refine GA rfl ?_; go_wp2_with (fail); refine Gh ?_
   refine GA rfl ?_; go_wp2_with ((refine Ka (d := some 39) rfl rfl rfl (Gw rfl) (Gw rfl) ?_)); refine Gh ?_
   refine GA rfl ?_; go_wp2_with fail; refine Gh ?_
   refine GA rfl ?_; go_wp2_with (refine K0 (t := 41) rfl (by rfl) rfl ?_); refine Gh ?_
   refine GA rfl ?_; go_wp2_with (refine K0 (t := 42) rfl (by rfl) rfl ?_); refine Gh ?_
   refine GA rfl ?_; go_wp2_with (refine K0 (t := 43) rfl (by rfl) rfl ?_); refine Gh ?_
   refine GA rfl ?_; go_wp2_with (refine K0 (t := 44) rfl (by rfl) rfl ?_); refine Gh ?_
   refine GA rfl ?_; go_wp2_with ((refine JP (d := some 45) rfl rfl rfl (Gw rfl) GT ?_)); refine Gh ?_
   refine GA rfl ?_; go_wp2_with fail; refine Gh ?_
   refine G5 ?_
   go_wp2_with fail
   go_meet
   case rel => exact ⟨false, HB, rfl, Ga⟩
  have hx1 : (at_ == 0) = true := by simpa using c3
  have HB := Gg (show ((m : Int) == 0) = decide ((0 : Int) = 0 ∧ a2 = GM ∧ at_ = 0 ∧ m = 0) by rw [Bool.eq_iff_iff]; simp [c2, c3])
  clear c2 c3
  refine GO [(0, 2), (1, 2), (2, 2), (3, 2), (4, 0), (5, 0), (6, 2), (7, 2), (8, 2), (9, 2), (10, 2), (11, 2), (12, 2), (13, 2), (14, 2), (15, 2), (16, 2), (17, 2), (18, 2), (19, 2), (20, 2)] (by kernel_rfl) (by kernel_rfl) ?_
  replace Ga := Ga.drew
  refine GA rfl ?_; go_wp2_with fail; refine Gh ?_
  refine GA rfl ?_; go_wp2_with (refine Gj 27 rfl (by rfl) uz3 rfl (Gy (Ga.get 0 rfl) KN) ?_); refine Gh ?_
  refine GA rfl ?_; go_wp2_with (fail); refine Gh ?_
  refine GA rfl ?_; go_wp2_with fail; refine Gh ?_
  refine H8 rfl rfl (by kernel_rfl) ?_; go_wp2_with (fail)
  refine GG rfl rfl ?_; go_wp2_with ((refine Gn 31 rfl (by rfl) uz32 rfl Gv (MG (Ga.get 0 rfl)) (Dig.size _) ?_))
  refine GA rfl ?_; go_wp2_with ((go_at_call 52; (try clear Gb); refine (KO _).mono ?_; rintro e Wk6 ⟨rfl, Gb⟩; replace Ga := Ga.keep Gb)); refine Gi Gb ?_
  refine GA rfl ?_; go_wp2_with (refine MJ (d := some 33) rfl rfl rfl uz32 uz5 GF JG (Gw rfl) (Gw rfl) ?_; (try rw [HZ.out])); refine Gh ?_
  refine GA rfl ?_; go_wp2_with ((refine Ka (d := some 34) rfl rfl rfl (Gw rfl) (Gw rfl) ?_)); refine Gh ?_
  refine GA rfl ?_; go_wp2_with fail; refine Gh ?_
  refine GA rfl ?_; go_wp2_with (fail); refine Gh ?_
  refine GA rfl ?_; go_wp2_with (refine Gj 37 rfl (by rfl) uz3 rfl (Gy (Ga.get 2 rfl) Kd) ?_); refine Gh ?_
  refine GA rfl ?_; go_wp2_with (fail); refine Gh ?_
  refine GA rfl ?_; go_wp2_with ((refine Ka (d := some 39) rfl rfl rfl (Gw rfl) (Gw rfl) ?_)); refine Gh ?_
  refine GA rfl ?_; go_wp2_with fail; refine Gh ?_
  refine GA rfl ?_; go_wp2_with (fail); refine Gh ?_
  refine GA rfl ?_; go_wp2_with (refine Gj 42 rfl (by rfl) uz44 rfl (Gy (Ga.get 2 rfl) My) ?_); refine Gh ?_
  refine GA rfl ?_; go_wp2_with (fail); refine Gh ?_
  refine GA rfl ?_; go_wp2_with (fail); refine Gh ?_
  refine GA rfl ?_; go_wp2_with ((refine Ka (d := some 45) rfl rfl rfl (Gw rfl) (Gw rfl) ?_)); refine Gh ?_
  refine GA rfl ?_; go_wp2_with fail; refine Gh ?_
  refine G5 ?_
  go_wp2_with fail
  go_meet
  case rel => exact ⟨_, HB, rfl, Ga⟩
 case rest =>
  obtain ⟨b, HB, rfl, Ga⟩ := hcut
  cases b with
  | false =>
   have HR9 := Gg (show r = 9 by
    refine HR.out.2 ?_
    rintro ⟨h1, h2, h3, h4, -⟩
    have := HB.out
    simp [h1, h2, h3, h4] at this)
   clear HR HB HF
   go_wp2_with fail
   refine GO [(0, 2), (1, 2), (2, 2), (3, 2), (4, 2), (5, 2), (6, 2), (7, 2), (8, 2), (9, 0), (11, 0), (12, 0), (14, 0), (15, 0), (10, 2), (13, 2), (16, 2), (17, 2)] (by kernel_rfl) (by kernel_rfl) ?_
   replace Ga := Ga.drew
   refine GA rfl ?_; go_wp2_with fail; refine Gh ?_
   refine GA rfl ?_; go_wp2_with fail; refine Gh ?_
   refine GA rfl ?_; go_wp2_with fail; refine Gh ?_
   refine GA rfl ?_; go_wp2_with (fail); refine Gh ?_
   refine GA rfl ?_; go_wp2_with (fail); refine Gh ?_
   refine GA rfl ?_; go_wp2_with (fail); refine Gh ?_
   refine GA rfl ?_; go_wp2_with (fail); refine Gh ?_
   refine GA rfl ?_; go_wp2_with ((refine Ka (d := some 53) rfl rfl rfl (Gw rfl) GT ?_)); refine Gh ?_
   refine GA rfl ?_; go_wp2_with fail; refine Gh ?_
   refine GG rfl rfl ?_; go_wp2_with (fail)
   refine H8 rfl rfl (by kernel_rfl) ?_; go_wp2_with (fail)
   refine GG rfl rfl ?_; go_wp2_with (fail)
   refine H8 rfl rfl (by kernel_rfl) ?_; go_wp2_with (fail)
   refine GG rfl rfl ?_; go_wp2_with (fail)
   refine GA rfl ?_; go_wp2_with (fail); refine Gh ?_
   refine GA rfl ?_; go_wp2_with (fail); refine Gh ?_
   refine GA rfl ?_; go_wp2_with (fail); refine Gh ?_
   refine GA rfl ?_; go_wp2_with ((refine Ka (d := some 63) rfl rfl rfl (Gw rfl) GT ?_)); refine Gh ?_
   refine G5 ?_
   go_wp2_with (first | (refine Je (d := some 64) rfl rfl rfl ?_) | ((refine Gr 6 64 Ga rfl (by rfl) (Gw rfl) (Hg _ _ _) GD (by rfl) 1 rfl (by rfl) ?_; clear Ga; intro WS1 Ga; simp only [Ge, Gf] at Ga)))
   refine Hu rfl rfl rfl rfl rfl (Ga.get 1 rfl) uz34 rfl GD (GN _ _ _) ?_
   exact ⟨by rw [HR9.out], Ga.forget⟩
  | true =>
   have hB := of_decide_eq_true HB.out.symm
   by_cases c5 : p = 32
   case neg =>
    have hx1 : ((p : Int) != 32) = true := by simp; omega
    have HR9 := Gg (show r = 9 by
     refine HR.out.2 ?_
     rintro ⟨-, -, -, -, h5, -⟩
     exact c5 h5)
    clear HR HB HF hB c5
    go_wp2_with fail
    refine GO [(0, 2), (1, 2), (2, 2), (3, 2), (4, 2), (5, 2), (6, 2), (7, 2), (8, 2), (9, 0), (11, 0), (12, 0), (14, 0), (15, 0), (10, 2), (13, 2), (16, 2), (17, 2)] (by kernel_rfl) (by kernel_rfl) ?_
    replace Ga := Ga.drew
    refine GA rfl ?_; go_wp2_with fail; refine Gh ?_
    refine GA rfl ?_; go_wp2_with fail; refine Gh ?_
    refine GA rfl ?_; go_wp2_with fail; refine Gh ?_
    refine GA rfl ?_; go_wp2_with (fail); refine Gh ?_
    refine GA rfl ?_; go_wp2_with (refine Gj 50 rfl (by rfl) uz44 rfl (Gy (Ga.get 2 rfl) MU) ?_); refine Gh ?_
    refine GA rfl ?_; go_wp2_with (fail); refine Gh ?_
    refine GA rfl ?_; go_wp2_with (fail); refine Gh ?_
    refine GA rfl ?_; go_wp2_with ((refine JP (d := some 53) rfl rfl rfl (Gw rfl) (Gw rfl) ?_)); refine Gh ?_
    refine GA rfl ?_; go_wp2_with fail; refine Gh ?_
    refine GG rfl rfl ?_; go_wp2_with (fail)
    refine H8 rfl rfl (by kernel_rfl) ?_; go_wp2_with (fail)
    refine GG rfl rfl ?_; go_wp2_with (fail)
    refine H8 rfl rfl (by kernel_rfl) ?_; go_wp2_with (fail)
    refine GG rfl rfl ?_; go_wp2_with (fail)
    refine GA rfl ?_; go_wp2_with (fail); refine Gh ?_
    refine GA rfl ?_; go_wp2_with (fail); refine Gh ?_
    refine GA rfl ?_; go_wp2_with (fail); refine Gh ?_
    refine GA rfl ?_; go_wp2_with ((refine Ka (d := some 63) rfl rfl rfl (Gw rfl) GT ?_)); refine Gh ?_
    refine G5 ?_
    go_wp2_with (first | (refine Je (d := some 64) rfl rfl rfl ?_) | ((refine Gr 6 64 Ga rfl (by rfl) (Gw rfl) (Hg _ _ _) GD (by rfl) 1 rfl (by rfl) ?_; clear Ga; intro WS1 Ga; simp only [Ge, Gf] at Ga)))
    refine Hu rfl rfl rfl rfl rfl (Ga.get 1 rfl) uz34 rfl GD (GN _ _ _) ?_
    exact ⟨by rw [HR9.out], Ga.forget⟩
   have hx1 : ((p : Int) != 32) = false := by simp; omega
   have HF2 := Gg (fun w' h => HF.out w' h (by omega))
   by_cases c6 : D = y
   ·have HD := Gg (show (!decide (D = y)) = false by simp [c6])
    have HR0 := Gg (show r = 0 by
     refine HR.out.1 ?_
     exact ⟨hB.2.1, hB.1, hB.2.2.1, hB.2.2.2, c5, c6⟩)
    clear HR HB HF hB c5 c6
    go_wp2_with fail
    refine GO [(0, 2), (1, 2), (2, 2), (3, 2), (4, 2), (5, 2), (6, 2), (7, 2), (8, 2), (9, 0), (11, 0), (12, 0), (14, 0), (15, 0), (10, 2), (13, 2), (16, 2), (17, 2)] (by kernel_rfl) (by kernel_rfl) ?_
    replace Ga := Ga.drew
    refine GA rfl ?_; go_wp2_with fail; refine Gh ?_
    refine GA rfl ?_; go_wp2_with fail; refine Gh ?_
    refine GA rfl ?_; go_wp2_with fail; refine Gh ?_
    refine GA rfl ?_; go_wp2_with (fail); refine Gh ?_
    refine GA rfl ?_; go_wp2_with (refine Gj 50 rfl (by rfl) uz44 rfl (Gy (Ga.get 2 rfl) MU) ?_); refine Gh ?_
    refine GA rfl ?_; go_wp2_with (fail); refine Gh ?_
    refine GA rfl ?_; go_wp2_with (fail); refine Gh ?_
    refine GA rfl ?_; go_wp2_with ((refine JP (d := some 53) rfl rfl rfl (Gw rfl) (Gw rfl) ?_)); refine Gh ?_
    refine GA rfl ?_; go_wp2_with fail; refine Gh ?_
    refine GG rfl rfl ?_; go_wp2_with (fail)
    refine H8 rfl rfl (by kernel_rfl) ?_; go_wp2_with (fail)
    refine GG rfl rfl ?_; go_wp2_with (refine Gj 58 rfl (by rfl) uz44 rfl (Gy (Ga.get 2 rfl) MU) ?_)
    refine H8 rfl rfl (by kernel_rfl) ?_; go_wp2_with (fail)
    refine GG rfl rfl ?_; go_wp2_with ((refine Gn 61 rfl (by rfl) uz32 rfl Gv (Jt (Ga.get 3 rfl)) (Dig.size _) ?_))
    refine GA rfl ?_; go_wp2_with ((go_at_call 52; (try clear Gb); refine (KO _).mono ?_; rintro e Wk7 ⟨rfl, Gb⟩; replace Ga := Ga.keep Gb)); refine Gi Gb ?_
    refine GA rfl ?_; go_wp2_with ((go_at_call 53; (try clear Gb); refine (HF2.out _ (Ga.old (by decide) HX.out)).mono ?_; rintro e Wk8 ⟨rfl, Gb⟩; replace Ga := Ga.keep Gb)); refine Gi Gb ?_
    refine GA rfl ?_; go_wp2_with (refine Ml (d := some 62) rfl rfl rfl uz32 uz5 GF JG (Gw rfl) (Gw rfl) ?_; (try rw [HD.out])); refine Gh ?_
    refine GA rfl ?_; go_wp2_with ((refine JP (d := some 63) rfl rfl rfl (Gw rfl) (Gw rfl) ?_)); refine Gh ?_
    refine G5 ?_
    go_wp2_with (first | (refine Je (d := some 65) rfl rfl rfl ?_) | ((refine Gr 6 65 Ga rfl (by rfl) (Gw rfl) (Hg _ _ _) GD (by rfl) 1 rfl (by rfl) ?_; clear Ga; intro WS1 Ga; simp only [Ge, Gf] at Ga)))
    refine Hu rfl rfl rfl rfl rfl (Ga.get 1 rfl) uz34 rfl GD (GN _ _ _) ?_
    exact ⟨by rw [HR0.out], Ga.forget⟩
   ·have HD := Gg (show (!decide (D = y)) = true by simp [c6])
    have HR9 := Gg (show r = 9 by
     refine HR.out.2 ?_
     rintro ⟨-, -, -, -, -, h6⟩
     exact c6 h6)
    clear HR HB HF hB c5 c6
    go_wp2_with fail
    refine GO [(0, 2), (1, 2), (2, 2), (3, 2), (4, 2), (5, 2), (6, 2), (7, 2), (8, 2), (9, 0), (11, 0), (12, 0), (14, 0), (15, 0), (10, 2), (13, 2), (16, 2), (17, 2)] (by kernel_rfl) (by kernel_rfl) ?_
    replace Ga := Ga.drew
    refine GA rfl ?_; go_wp2_with fail; refine Gh ?_
    refine GA rfl ?_; go_wp2_with fail; refine Gh ?_
    refine GA rfl ?_; go_wp2_with fail; refine Gh ?_
    refine GA rfl ?_; go_wp2_with (fail); refine Gh ?_
    refine GA rfl ?_; go_wp2_with (refine Gj 50 rfl (by rfl) uz44 rfl (Gy (Ga.get 2 rfl) MU) ?_); refine Gh ?_
    refine GA rfl ?_; go_wp2_with (fail); refine Gh ?_
    refine GA rfl ?_; go_wp2_with (fail); refine Gh ?_
    refine GA rfl ?_; go_wp2_with ((refine JP (d := some 53) rfl rfl rfl (Gw rfl) (Gw rfl) ?_)); refine Gh ?_
    refine GA rfl ?_; go_wp2_with fail; refine Gh ?_
    refine GG rfl rfl ?_; go_wp2_with (fail)
    refine H8 rfl rfl (by kernel_rfl) ?_; go_wp2_with (fail)
    refine GG rfl rfl ?_; go_wp2_with (refine Gj 58 rfl (by rfl) uz44 rfl (Gy (Ga.get 2 rfl) MU) ?_)
    refine H8 rfl rfl (by kernel_rfl) ?_; go_wp2_with (fail)
    refine GG rfl rfl ?_; go_wp2_with ((refine Gn 61 rfl (by rfl) uz32 rfl Gv (Jt (Ga.get 3 rfl)) (Dig.size _) ?_))
    refine GA rfl ?_; go_wp2_with ((go_at_call 52; (try clear Gb); refine (KO _).mono ?_; rintro e Wk9 ⟨rfl, Gb⟩; replace Ga := Ga.keep Gb)); refine Gi Gb ?_
    refine GA rfl ?_; go_wp2_with ((go_at_call 53; (try clear Gb); refine (HF2.out _ (Ga.old (by decide) HX.out)).mono ?_; rintro e Wk10 ⟨rfl, Gb⟩; replace Ga := Ga.keep Gb)); refine Gi Gb ?_
    refine GA rfl ?_; go_wp2_with (refine Ml (d := some 62) rfl rfl rfl uz32 uz5 GF JG (Gw rfl) (Gw rfl) ?_; (try rw [HD.out])); refine Gh ?_
    refine GA rfl ?_; go_wp2_with ((refine JP (d := some 63) rfl rfl rfl (Gw rfl) (Gw rfl) ?_)); refine Gh ?_
    refine G5 ?_
    go_wp2_with (first | (refine Je (d := some 64) rfl rfl rfl ?_) | ((refine Gr 6 64 Ga rfl (by rfl) (Gw rfl) (Hg _ _ _) GD (by rfl) 1 rfl (by rfl) ?_; clear Ga; intro WS1 Ga; simp only [Ge, Gf] at Ga)))
    refine Hu rfl rfl rfl rfl rfl (Ga.get 1 rfl) uz34 rfl GD (GN _ _ _) ?_
    exact ⟨by rw [HR9.out], Ga.forget⟩
end
section
open Go.RowKit
attribute [local simp] Jq
theorem looked_bad (n : Int) (x y z : Dig) (s : List UInt8) (nt : NoteN) (at_ : Int) (A : Option Addr) (m c : Nat) (B : Option Addr) (p q : Nat) (w : World) (hsz : s.length ≤ 140737488354000) (hnz : nt.name.length ≤ 9223372036854775807) (hs : JM s = true) (h0 : nt.name ≠ []) (hok : JN nt = false) (hn1 : -9223372036854775808 ≤ nt.turn) (hn2 : nt.turn ≤ 9223372036854775807) :
  Calls Tryz.prog 21 #[.agg (H9 n x y z), .string (GZ s), .agg (JE nt.name nt.key nt.turn at_ A m c B p q)] w fun e w' => e = .returned (.tuple #[.agg (Ha [] GM 0), .bool false, .int .i64 9]) ∧ St w w' [] := by
 have Ga := St.refl w
 have HN := Gg (fun w' => by have := Kx s w' (by omega); rewrite [hs] at this; exact this)
 have HI := Gg (fun w' => MA s w' hsz)
 have HB := Gg (fun w' => rnoteB_no nt w' (by omega) hok hn1 hn2)
 have hb := NA h0
 obtain ⟨a1, a2, a3⟩ := nt
 simp only at *
 generalize Jf s = ix at *
 clear hs h0 hok hn1 hn2 hsz hnz
 go_enter Tryz.func21, Tryz.ntmps21
 go_upto_region 1 with (go_big_may; first | (refine Gm 3 rfl (Gw rfl) ?_; (try clear Gb); intro g3 W3 Gb; replace Ga := Ga.tr1 Gb) | (refine Gm 5 rfl (Gw rfl) ?_; (try clear Gb); intro g5 W5 Gb; replace Ga := Ga.tr1 Gb) | (refine Gk 6 rfl GD ?_; (try clear Gb); intro g6 W6 Gb; replace Ga := Ga.tr1 Gb))
 go_upto_region 3 with (go_big_may; (go_at_call 31; (try clear Gb); refine (HN.out _).mono ?_; rintro e Wk1 ⟨rfl, Gb⟩; replace Ga := Ga.keep Gb))
 go_upto_region 4 with (go_big_may; first | (refine Gn 20 rfl (by rfl) uz34 rfl GD (J4 (Ga.get 1 rfl)) (GN _ _ _) ?_) | (refine Gk 9 rfl GD ?_; (try clear Gb); intro g9 W9 Gb; replace Ga := Ga.tr1 Gb) | ((refine Gr 9 20 Ga rfl (by rfl) (Gw rfl) (Hg _ _ _) GD (GN _ _ _) 0 rfl (by rfl) ?_; clear Ga; intro WS3 Ga; simp only [Ge, Gf] at Ga)))
 go_upto_region 5 with (go_big_may; (go_at_call 33; (try clear Gb); refine (HI.out _).mono ?_; rintro e Wk2 ⟨rfl, Gb⟩; replace Ga := Ga.keep Gb))
 go_upto_region 10 with (go_big_may; (refine Gj 24 rfl (by rfl) uz9 rfl (Gy (Ga.get 0 rfl) Kf) ?_))
 go_upto_region 11 with (go_big_may; first | (go_at_call 49; (try clear Gb); refine (HB.out _).mono ?_; rintro e Wb ⟨r, rfl, hr, Gb⟩; replace Ga := Ga.keep Gb) | (refine Gl 67 rfl (by rfl) uz34 rfl GD (Ga.get 0 rfl) (GN _ _ _) ?_))
 (try clear Gb)
 have hr1 : ((r : Int) != 0) = true := by rcases hr with rfl | rfl <;> rfl
 clear hr
 go_upto_region 12 with (first | (with_reducible refine GI (t := 74) rfl (by kernel_rfl) ?_) | (with_reducible refine GI (t := 75) rfl (by kernel_rfl) ?_) | (with_reducible refine GI (t := 76) rfl (by kernel_rfl) ?_) | (with_reducible refine GI (t := 77) rfl (by kernel_rfl) ?_))
 go_wp2_with (first | (refine Je (d := some 79) rfl rfl rfl ?_) | ((refine Gr 6 79 Ga rfl (by rfl) (Gw rfl) (Hg _ _ _) GD (by rfl) 1 rfl (by rfl) ?_; clear Ga; intro WS1 Ga; simp only [Ge, Gf] at Ga)))
 refine Hu rfl rfl rfl rfl rfl (Ga.get 1 rfl) uz34 rfl GD (GN _ _ _) ?_
 exact ⟨rfl, Ga.forget⟩
theorem looked_other (n : Int) (x y z : Dig) (s : List UInt8) (nt : NoteN) (at_ : Int) (A : Option Addr) (m c : Nat) (B : Option Addr) (p q : Nat) (w : World) (hsz : s.length ≤ 140737488354000) (hs : JM s = true) (h0 : nt.name ≠ []) (hok : JN nt = true) (hns : ¬ nt.name = s) :
  Calls Tryz.prog 21 #[.agg (H9 n x y z), .string (GZ s), .agg (JE nt.name nt.key nt.turn at_ A m c B p q)] w fun e w' => e = .returned (.tuple #[.agg (Ha [] GM 0), .bool false, .int .i64 9]) ∧ St w w' [] := by
 have Ga := St.refl w
 have HN := Gg (fun w' => by have := Kx s w' (by omega); rewrite [hs] at this; exact this)
 have HI := Gg (fun w' => MA s w' hsz)
 have HB := Gg (fun w' => rnoteB_any nt w' hok)
 have HS := Gg (show (!decide (nt.name = s)) = true by simp [hns])
 have hb := NA h0
 generalize KZ nt = bs at *
 obtain ⟨a1, a2, a3⟩ := nt
 simp only at *
 generalize Jf s = ix at *
 clear hs h0 hok hns hsz
 go_enter Tryz.func21, Tryz.ntmps21
 go_upto_region 1 with (go_big_may; first | (refine Gm 3 rfl (Gw rfl) ?_; (try clear Gb); intro g3 W3 Gb; replace Ga := Ga.tr1 Gb) | (refine Gm 5 rfl (Gw rfl) ?_; (try clear Gb); intro g5 W5 Gb; replace Ga := Ga.tr1 Gb) | (refine Gk 6 rfl GD ?_; (try clear Gb); intro g6 W6 Gb; replace Ga := Ga.tr1 Gb))
 go_upto_region 3 with (go_big_may; (go_at_call 31; (try clear Gb); refine (HN.out _).mono ?_; rintro e Wk3 ⟨rfl, Gb⟩; replace Ga := Ga.keep Gb))
 go_upto_region 4 with (go_big_may; first | (refine Gn 20 rfl (by rfl) uz34 rfl GD (J4 (Ga.get 1 rfl)) (GN _ _ _) ?_) | (refine Gk 9 rfl GD ?_; (try clear Gb); intro g9 W9 Gb; replace Ga := Ga.tr1 Gb) | ((refine Gr 9 20 Ga rfl (by rfl) (Gw rfl) (Hg _ _ _) GD (GN _ _ _) 0 rfl (by rfl) ?_; clear Ga; intro WS3 Ga; simp only [Ge, Gf] at Ga)))
 go_upto_region 5 with (go_big_may; (go_at_call 33; (try clear Gb); refine (HI.out _).mono ?_; rintro e Wk4 ⟨rfl, Gb⟩; replace Ga := Ga.keep Gb))
 go_upto_region 10 with (go_big_may; (refine Gj 24 rfl (by rfl) uz9 rfl (Gy (Ga.get 0 rfl) Kf) ?_))
 go_upto_region 11 with (go_big_may; first | (go_at_call 49; (try clear Gb); refine (HB.out _).mono ?_; rintro e Wb ⟨On, on, rfl, Gb⟩; replace Ga := Ga.trans Gb; simp only [Gc, Gd] at Ga) | (refine Gl 67 rfl (by rfl) uz34 rfl GD (Ga.get 0 rfl) (GN _ _ _) ?_))
 (try clear Gb)
 go_upto_region 12 with (go_big_may; first | (refine Gj 75 rfl (by rfl) uz9 rfl (Gy (Ga.get 1 rfl) Kf) ?_) | (refine MW (d := some 77) rfl rfl rfl MD uz9 (Gw rfl) (Gw rfl) ?_; (try rw [HS.out])))
 go_wp2_with (first | (refine Je (d := some 79) rfl rfl rfl ?_) | ((refine Gr 6 79 Ga rfl (by rfl) (Gw rfl) (Hg _ _ _) GD (by rfl) 2 rfl (by rfl) ?_; clear Ga; intro WS1 Ga; simp only [Ge, Gf] at Ga)))
 refine Hu rfl rfl rfl rfl rfl (Ga.get 2 rfl) uz34 rfl GD (GN _ _ _) ?_
 exact ⟨rfl, Ga.forget⟩
theorem looked_has (n : Int) (x y z : Dig) (s : List UInt8) (nt : NoteN) (at_ : Int) (A : Option Addr) (pt : List Dig) (m c : Nat) (B : Option Addr) (ps : List Dig) (p q : Nat) (w : World) (hsz : s.length ≤ 140737488354000) (hs : JM s = true) (hz : SlR w A m c 32 (GP pt)) (hx : SlR w B p q 32 (GP ps)) (h0 : nt.name ≠ []) (hok : JN nt = true) (hns : nt.name = s) :
  Calls Tryz.prog 21 #[.agg (H9 n x y z), .string (GZ s), .agg (JE nt.name nt.key nt.turn at_ A m c B p q)] w fun e w' =>
   (K8 y s (K2 (Jf s) (Jm nt)) ps ∧ NY n x (Jm nt) at_ pt ∧ e = .returned (.tuple #[.agg (Ha nt.name nt.key nt.turn), .bool true, .int .i64 0]) ∨
   ¬ (K8 y s (K2 (Jf s) (Jm nt)) ps ∧ NY n x (Jm nt) at_ pt) ∧ e = .returned (.tuple #[.agg (Ha [] GM 0), .bool false, .int .i64 9])) ∧ St w w' [] := by
 have Ga := St.refl w
 have hlm : pt.length = m := by have := hz.1; rw [G8] at this; omega
 have hlp : ps.length = p := by have := hx.1; rw [G8] at this; omega
 have HZ := Gg hz
 have HX := Gg hx
 have HN := Gg (fun w' => by have := Kx s w' (by omega); rewrite [hs] at this; exact this)
 have HI := Gg (fun w' => MA s w' hsz)
 have HB := Gg (fun w' => rnoteB_any nt w' hok)
 have HS := Gg (show (!decide (nt.name = s)) = false by simp [hns])
 have hb := NA h0
 have hb67 : (KZ nt).length ≤ 67 := by
  have h := hok
  unfold JN at h
  rw [Bool.and_eq_true] at h
  have := J0 h.1
  rw [Nh]
  omega
 have HLf := Gg (fun (w' : World) (O : Option Addr) (oc : Nat) h => rleaf_any (KZ nt) O (KZ nt).length oc w' h (by omega))
 rewrite [show leafBN (KZ nt) = Jm nt from rfl] at HLf
 have HE := Gg (fun w' => rentryleaf_any (Jf s) (Jm nt) w' (Mo s))
 have HF := Gg (fun (w' : World) (h : SlR w' B p q 32 (GP ps)) (hp : p ≤ 32) => rmapfolded_any (Jf s) (K2 (Jf s) (Jm nt)) ps B p q w' h (Mo s) hp)
 have HLo := Gg (fun (i k : Nat) (w' : World) (h1 : i < k) (h2 : k ≤ 256) => rlong_any k i w' h1 h2)
 have HFo := Gg (fun (i k : Nat) (w' : World) (h : SlR w' A m c 32 (GP pt)) (h1 : i < k) (h2 : k ≤ 256) (hm : m = Jn i k) => rfolded_any k (Jm nt) pt A m c i w' h hm h1 h2)
 unfold K8 NY
 rewrite [hlm, hlp]
 obtain ⟨D, hD⟩ : ∃ D, D = KV (Jf s) (K2 (Jf s) (Jm nt)) ps := ⟨_, rfl⟩
 rewrite [← hD] at HF ⊢
 generalize KZ nt = bs at *
 generalize K2 (Jf s) (Jm nt) = el at *
 generalize Jm nt = lf at *
 obtain ⟨a1, a2, a3⟩ := nt
 simp only at *
 generalize Jf s = ix at *
 obtain ⟨Q, hQ⟩ : ∃ Q : Ending → World → Prop, Q = fun e w' => ((p = 32 ∧ D = y) ∧ (1 ≤ n ∧ n ≤ 256 ∧ 0 ≤ at_ ∧ at_ < n ∧ m = Jn at_.toNat n.toNat ∧ JY lf at_.toNat n.toNat pt = x) ∧ e = .returned (.tuple #[.agg (Ha a1 a2 a3), .bool true, .int .i64 0]) ∨
   ¬ ((p = 32 ∧ D = y) ∧ (1 ≤ n ∧ n ≤ 256 ∧ 0 ≤ at_ ∧ at_ < n ∧ m = Jn at_.toNat n.toNat ∧ JY lf at_.toNat n.toNat pt = x)) ∧ e = .returned (.tuple #[.agg (Ha [] GM 0), .bool false, .int .i64 9])) ∧ St w w' [] := ⟨_, rfl⟩
 rewrite [← hQ]
 have HQ := Gg hQ
 clear hs h0 hok hns hsz hD hb67 hz hx hlm hlp hQ
 go_enter Tryz.func21, Tryz.ntmps21
 go_upto_region 1 with (go_big_may; first | (refine Gm 3 rfl (Gw rfl) ?_; (try clear Gb); intro g3 W3 Gb; replace Ga := Ga.tr1 Gb) | (refine Gm 5 rfl (Gw rfl) ?_; (try clear Gb); intro g5 W5 Gb; replace Ga := Ga.tr1 Gb) | (refine Gk 6 rfl GD ?_; (try clear Gb); intro g6 W6 Gb; replace Ga := Ga.tr1 Gb))
 go_upto_region 3 with (go_big_may; (go_at_call 31; (try clear Gb); refine (HN.out _).mono ?_; rintro e Wk5 ⟨rfl, Gb⟩; replace Ga := Ga.keep Gb))
 go_upto_region 4 with (go_big_may; first | (refine Gn 20 rfl (by rfl) uz34 rfl GD (J4 (Ga.get 1 rfl)) (GN _ _ _) ?_) | (refine Gk 9 rfl GD ?_; (try clear Gb); intro g9 W9 Gb; replace Ga := Ga.tr1 Gb) | ((refine Gr 9 20 Ga rfl (by rfl) (Gw rfl) (Hg _ _ _) GD (GN _ _ _) 0 rfl (by rfl) ?_; clear Ga; intro WS3 Ga; simp only [Ge, Gf] at Ga)))
 go_upto_region 5 with (go_big_may; (go_at_call 33; (try clear Gb); refine (HI.out _).mono ?_; rintro e Wk6 ⟨rfl, Gb⟩; replace Ga := Ga.keep Gb))
 go_upto_region 10 with (go_big_may; (refine Gj 24 rfl (by rfl) uz9 rfl (Gy (Ga.get 0 rfl) Kf) ?_))
 go_upto_region 11 with (go_big_may; first | (go_at_call 49; (try clear Gb); refine (HB.out _).mono ?_; rintro e Wb ⟨On, on, rfl, Gb⟩; replace Ga := Ga.trans Gb; simp only [Gc, Gd] at Ga) | (refine Gl 67 rfl (by rfl) uz34 rfl GD (Ga.get 0 rfl) (GN _ _ _) ?_))
 (try clear Gb)
 go_upto_region 13 with (go_big_may; first | (refine Gj 75 rfl (by rfl) uz9 rfl (Gy (Ga.get 1 rfl) Kf) ?_) | (refine MW (d := some 77) rfl rfl rfl MD uz9 (Gw rfl) (Gw rfl) ?_; (try rw [HS.out])))
 go_upto_region 14 with (go_big_may; first | (go_at_call 50; (try clear Gb); refine (HLf.out _ _ _ (Ga.sl 0 rfl)).mono ?_; rintro e Wk7 ⟨rfl, Gb⟩; replace Ga := Ga.keep Gb) | (refine Gk 14 rfl Gv ?_; (try clear Gb); intro g14 W14 Gb; replace Ga := Ga.tr1 Gb) | ((refine Gr 14 81 Ga rfl (by rfl) (Gw rfl) (Dig.one _) Gv (Dig.size _) 0 rfl (by rfl) ?_; clear Ga; intro WS3 Ga; simp only [Ge, Gf] at Ga)))
 (try clear Gb)
 clear HN HI HB HLf HS
 go_simp
 go_cut [98] (fun s98 wx => s98 = .bool (!decide (p = 32 ∧ D = y)) ∧ St w wx [.blk g14 32 lf.arr, .blk g9 34 (Ha a1 a2 a3), .blk g6 34 (Ha [] GM 0), .blk g5 46 (JE a1 a2 a3 at_ A m c B p q), .blk g3 41 (H9 n x y z)])
 case first =>
  by_cases c5 : p = 32
  case neg =>
   have hx1 : ((p : Int) != 32) = true := by simp; omega
   have HP := Gg (show (!decide (p = 32 ∧ D = y)) = true by simp [c5])
   clear c5
   refine GO [(0, 2), (1, 2), (2, 2), (3, 2), (4, 2), (5, 0), (6, 0), (7, 0), (8, 0), (10, 0), (11, 0), (13, 0), (14, 0), (9, 2), (12, 2), (15, 2), (16, 2)] (by kernel_rfl) (by kernel_rfl) ?_
   replace Ga := Ga.drew
   refine GA rfl ?_; go_wp2_with fail; refine Gh ?_
   refine GA rfl ?_; go_wp2_with (refine Gj 83 rfl (by rfl) uz44 rfl (Gy (Ga.get 4 rfl) MU) ?_); refine Gh ?_
   refine GA rfl ?_; go_wp2_with fail; refine Gh ?_
   refine GA rfl ?_; go_wp2_with fail; refine Gh ?_
   refine GA rfl ?_; go_wp2_with fail; refine Gh ?_
   refine GG rfl rfl ?_; go_wp2_with (refine K0 (t := 87) rfl (by rfl) rfl ?_)
   refine GG rfl rfl ?_; go_wp2_with (refine K0 (t := 88) rfl (by rfl) rfl ?_)
   refine GG rfl rfl ?_; go_wp2_with (refine K0 (t := 89) rfl (by rfl) rfl ?_)
   refine GG rfl rfl ?_; go_wp2_with (refine K0 (t := 90) rfl (by rfl) rfl ?_)
   refine H8 rfl rfl (by kernel_rfl) ?_; go_wp2_with (refine K0 (t := 92) rfl (by rfl) rfl ?_)
   refine GG rfl rfl ?_; go_wp2_with (refine K0 (t := 93) rfl (by rfl) rfl ?_)
   refine H8 rfl rfl (by kernel_rfl) ?_; go_wp2_with (refine K0 (t := 95) rfl (by rfl) rfl ?_)
   refine GG rfl rfl ?_; go_wp2_with (refine K0 (t := 96) rfl (by rfl) rfl ?_)
   refine GA rfl ?_; go_wp2_with (refine K0 (t := 91) rfl (by rfl) rfl ?_); refine Gh ?_
   refine GA rfl ?_; go_wp2_with (refine K0 (t := 94) rfl (by rfl) rfl ?_); refine Gh ?_
   refine GA rfl ?_; go_wp2_with (refine K0 (t := 97) rfl (by rfl) rfl ?_); refine Gh ?_
   refine GA rfl ?_; go_wp2_with ((refine Ka (d := some 98) rfl rfl rfl (Gw rfl) GT ?_)); refine Gh ?_
   refine G5 ?_
   go_wp2_with fail
   go_meet
   case rel => exact ⟨by rw [HP.out], Ga.pick [0, 2, 3, 4, 5] (by decide)⟩
  have hx1 : ((p : Int) != 32) = false := by simp; omega
  have HF2 := Gg (fun w' h => HF.out w' h (by omega))
  obtain ⟨b, hbb⟩ : ∃ b, b = !decide (D = y) := ⟨_, rfl⟩
  have HP := Gg (show b = !decide (p = 32 ∧ D = y) by rw [hbb]; simp [c5])
  have HDy := Gg hbb.symm
  clear c5 hbb
  refine GO [(0, 2), (1, 2), (2, 2), (3, 2), (4, 2), (5, 0), (6, 0), (7, 0), (8, 0), (10, 0), (11, 0), (13, 0), (14, 0), (9, 2), (12, 2), (15, 2), (16, 2)] (by kernel_rfl) (by kernel_rfl) ?_
  replace Ga := Ga.drew
  refine GA rfl ?_; go_wp2_with fail; refine Gh ?_
  refine GA rfl ?_; go_wp2_with (refine Gj 83 rfl (by rfl) uz44 rfl (Gy (Ga.get 4 rfl) MU) ?_); refine Gh ?_
  refine GA rfl ?_; go_wp2_with (fail); refine Gh ?_
  refine GA rfl ?_; go_wp2_with (fail); refine Gh ?_
  refine GA rfl ?_; go_wp2_with fail; refine Gh ?_
  refine GG rfl rfl ?_; go_wp2_with (fail)
  refine GG rfl rfl ?_; go_wp2_with (fail)
  refine GG rfl rfl ?_; go_wp2_with ((refine Gl 89 rfl (by rfl) uz32 rfl Gv (Ga.get 0 rfl) (Dig.size _) ?_))
  refine GG rfl rfl ?_; go_wp2_with (refine L_buildP (d := some 90) rfl rfl rfl uz110 Jo Gv rfl rfl Hc (Jq _ _) (Gw rfl) (Gw rfl) ?_)
  refine H8 rfl rfl (by kernel_rfl) ?_; go_wp2_with (fail)
  refine GG rfl rfl ?_; go_wp2_with (refine Gj 93 rfl (by rfl) uz44 rfl (Gy (Ga.get 4 rfl) MU) ?_)
  refine H8 rfl rfl (by kernel_rfl) ?_; go_wp2_with (fail)
  refine GG rfl rfl ?_; go_wp2_with ((refine Gn 96 rfl (by rfl) uz32 rfl Gv (Jt (Ga.get 5 rfl)) (Dig.size _) ?_))
  refine GA rfl ?_; go_wp2_with ((go_at_call 54; (try clear Gb); refine (HE.out _).mono ?_; rintro e Wk8 ⟨rfl, Gb⟩; replace Ga := Ga.keep Gb)); refine Gi Gb ?_
  refine GA rfl ?_; go_wp2_with ((go_at_call 53; (try clear Gb); refine (HF2.out _ (Ga.old (by decide) HX.out)).mono ?_; rintro e Wk9 ⟨rfl, Gb⟩; replace Ga := Ga.keep Gb)); refine Gi Gb ?_
  refine GA rfl ?_; go_wp2_with (refine Ml (d := some 97) rfl rfl rfl uz32 uz5 GF JG (Gw rfl) (Gw rfl) ?_; (try rw [HDy.out])); refine Gh ?_
  refine GA rfl ?_; go_wp2_with ((refine JP (d := some 98) rfl rfl rfl (Gw rfl) (Gw rfl) ?_)); refine Gh ?_
  refine G5 ?_
  go_wp2_with fail
  go_meet
  case rel => exact ⟨by rw [HP.out], Ga.pick [0, 2, 3, 4, 5] (by decide)⟩
 case rest =>
  obtain ⟨rfl, Ga⟩ := hcut
  clear HE HF HX
  by_cases cM : p = 32 ∧ D = y
  case neg =>
   have HP := Gg (show (!decide (p = 32 ∧ D = y)) = true by simp [cM])
   have HR := Gg (fun (w' : World) (h : St w w' []) => show Q (.returned (.tuple #[.agg (Ha [] GM 0), .bool false, .int .i64 9])) w' by rw [HQ.out]; exact ⟨.inr ⟨fun hc => cM hc.1, rfl⟩, h⟩)
   rewrite [HP.out]
   clear cM HP HQ HLo HFo
   go_wp2_with (first | (refine Je (d := some 99) rfl rfl rfl ?_) | ((refine Gr 6 99 Ga rfl (by rfl) (Gw rfl) (Hg _ _ _) GD (by rfl) 2 rfl (by rfl) ?_; clear Ga; intro WS1 Ga; simp only [Ge, Gf] at Ga)))
   refine Hu rfl rfl rfl rfl rfl (Ga.get 2 rfl) uz34 rfl GD (GN _ _ _) ?_
   exact HR.out _ Ga.forget
  have HP := Gg (show (!decide (p = 32 ∧ D = y)) = false by simp [cM])
  rewrite [HP.out]
  have HNo := Gg (fun (h : ¬ (1 ≤ n ∧ n ≤ 256 ∧ 0 ≤ at_ ∧ at_ < n ∧ m = Jn at_.toNat n.toNat ∧ JY lf at_.toNat n.toNat pt = x)) (w' : World) (hs : St w w' []) => show Q (.returned (.tuple #[.agg (Ha [] GM 0), .bool false, .int .i64 9])) w' by rw [HQ.out]; exact ⟨.inr ⟨fun hc => h hc.2, rfl⟩, hs⟩)
  have HYes := Gg (fun (h : 1 ≤ n ∧ n ≤ 256 ∧ 0 ≤ at_ ∧ at_ < n ∧ m = Jn at_.toNat n.toNat ∧ JY lf at_.toNat n.toNat pt = x) (w' : World) (hs : St w w' []) => show Q (.returned (.tuple #[.agg (Ha a1 a2 a3), .bool true, .int .i64 0])) w' by rw [HQ.out]; exact ⟨.inl ⟨cM, h, rfl⟩, hs⟩)
  clear cM HP HQ
  go_upto_region 16 with (go_big_may; fail)
  go_simp
  go_cut [130] (fun s130 wx => s130 = .bool (!decide (1 ≤ n ∧ n ≤ 256 ∧ 0 ≤ at_ ∧ at_ < n ∧ m = Jn at_.toNat n.toNat)) ∧ St w wx [.blk g14 32 lf.arr, .blk g9 34 (Ha a1 a2 a3), .blk g6 34 (Ha [] GM 0), .blk g5 46 (JE a1 a2 a3 at_ A m c B p q), .blk g3 41 (H9 n x y z)])
  case first =>
   by_cases d1 : n < 1
   ·have HP := Gg (show true = !decide (1 ≤ n ∧ n ≤ 256 ∧ 0 ≤ at_ ∧ at_ < n ∧ m = Jn at_.toNat n.toNat) by simp; omega)
    have e1 : decide (n < 1) = true := decide_eq_true d1
    clear d1
    refine GO [(0, 2), (1, 2), (2, 2), (3, 2), (4, 2), (5, 2), (6, 2), (7, 2), (8, 2), (9, 2), (10, 2), (11, 2), (12, 2), (13, 2), (14, 0), (15, 0), (16, 2), (17, 2), (18, 2), (19, 2), (20, 2), (21, 0), (22, 0), (23, 0), (24, 0), (25, 0), (26, 2), (27, 2), (28, 2), (29, 2), (30, 2)] (by kernel_rfl) (by kernel_rfl) ?_
    replace Ga := Ga.drew
    refine GA rfl ?_; go_wp2_with fail; refine Gh ?_
    refine GA rfl ?_; go_wp2_with (refine Gj 101 rfl (by rfl) uz3 rfl (Gy (Ga.get 4 rfl) GQ) ?_); refine Gh ?_
    refine GA rfl ?_; go_wp2_with fail; refine Gh ?_
    refine GA rfl ?_; go_wp2_with fail; refine Gh ?_
    refine GA rfl ?_; go_wp2_with ((with_reducible refine GI (t := 104) rfl (by kernel_rfl) ?_; (try go_simp))); refine Gh ?_
    refine GA rfl ?_; go_wp2_with ((with_reducible refine GI (t := 105) rfl (by kernel_rfl) ?_; (try go_simp))); refine Gh ?_
    refine GA rfl ?_; go_wp2_with ((with_reducible refine GI (t := 106) rfl (by kernel_rfl) ?_; (try go_simp))); refine Gh ?_
    refine GA rfl ?_; go_wp2_with ((refine Ka (d := some 107) rfl rfl rfl (Gw rfl) GT ?_)); refine Gh ?_
    refine GA rfl ?_; go_wp2_with fail; refine Gh ?_
    refine GA rfl ?_; go_wp2_with ((with_reducible refine GI (t := 109) rfl (by kernel_rfl) ?_; (try go_simp))); refine Gh ?_
    refine GA rfl ?_; go_wp2_with ((with_reducible refine GI (t := 110) rfl (by kernel_rfl) ?_; (try go_simp))); refine Gh ?_
    refine GA rfl ?_; go_wp2_with ((with_reducible refine GI (t := 111) rfl (by kernel_rfl) ?_; (try go_simp))); refine Gh ?_
    refine GA rfl ?_; go_wp2_with ((refine Ka (d := some 112) rfl rfl rfl (Gw rfl) GT ?_)); refine Gh ?_
    refine GA rfl ?_; go_wp2_with fail; refine Gh ?_
    refine K3 114 rfl rfl (by kernel_rfl) ?_; (try simp only [Act.put, List.setIfInBounds_toArray, List.set_cons_succ, List.set_cons_zero])
    refine K3 115 rfl rfl (by kernel_rfl) ?_; (try simp only [Act.put, List.setIfInBounds_toArray, List.set_cons_succ, List.set_cons_zero])
    refine GA rfl ?_; go_wp2_with ((with_reducible refine GI (t := 116) rfl (by kernel_rfl) ?_; (try go_simp))); refine Gh ?_
    refine GA rfl ?_; go_wp2_with ((with_reducible refine GI (t := 117) rfl (by kernel_rfl) ?_; (try go_simp))); refine Gh ?_
    refine GA rfl ?_; go_wp2_with ((with_reducible refine GI (t := 118) rfl (by kernel_rfl) ?_; (try go_simp))); refine Gh ?_
    refine GA rfl ?_; go_wp2_with ((refine Ka (d := some 119) rfl rfl rfl (Gw rfl) GT ?_)); refine Gh ?_
    refine GA rfl ?_; go_wp2_with fail; refine Gh ?_
    refine K3 121 rfl rfl (by kernel_rfl) ?_; (try simp only [Act.put, List.setIfInBounds_toArray, List.set_cons_succ, List.set_cons_zero])
    refine K3 122 rfl rfl (by kernel_rfl) ?_; (try simp only [Act.put, List.setIfInBounds_toArray, List.set_cons_succ, List.set_cons_zero])
    refine K3 123 rfl rfl (by kernel_rfl) ?_; (try simp only [Act.put, List.setIfInBounds_toArray, List.set_cons_succ, List.set_cons_zero])
    refine K3 124 rfl rfl (by kernel_rfl) ?_; (try simp only [Act.put, List.setIfInBounds_toArray, List.set_cons_succ, List.set_cons_zero])
    refine K3 125 rfl rfl (by kernel_rfl) ?_; (try simp only [Act.put, List.setIfInBounds_toArray, List.set_cons_succ, List.set_cons_zero])
    refine GA rfl ?_; go_wp2_with ((with_reducible refine GI (t := 126) rfl (by kernel_rfl) ?_; (try go_simp))); refine Gh ?_
    refine GA rfl ?_; go_wp2_with ((with_reducible refine GI (t := 127) rfl (by kernel_rfl) ?_; (try go_simp))); refine Gh ?_
    refine GA rfl ?_; go_wp2_with ((with_reducible refine GI (t := 128) rfl (by kernel_rfl) ?_; (try go_simp))); refine Gh ?_
    refine GA rfl ?_; go_wp2_with ((with_reducible refine GI (t := 129) rfl (by kernel_rfl) ?_; (try go_simp))); refine Gh ?_
    refine GA rfl ?_; go_wp2_with ((refine Ka (d := some 130) rfl rfl rfl (Gw rfl) GT ?_)); refine Gh ?_
    refine G5 ?_
    go_wp2_with fail
    go_meet
    case rel => exact ⟨by rw [← HP.out], Ga⟩
   by_cases d2 : 256 < n
   ·have HP := Gg (show true = !decide (1 ≤ n ∧ n ≤ 256 ∧ 0 ≤ at_ ∧ at_ < n ∧ m = Jn at_.toNat n.toNat) by simp; omega)
    have e1 : decide (n < 1) = false := decide_eq_false d1
    have e2 : decide (256 < n) = true := decide_eq_true d2
    clear d1 d2
    refine GO [(0, 2), (1, 2), (2, 2), (3, 2), (4, 2), (5, 2), (6, 2), (7, 2), (8, 2), (9, 2), (10, 2), (11, 2), (12, 2), (13, 2), (14, 0), (15, 0), (16, 2), (17, 2), (18, 2), (19, 2), (20, 2), (21, 0), (22, 0), (23, 0), (24, 0), (25, 0), (26, 2), (27, 2), (28, 2), (29, 2), (30, 2)] (by kernel_rfl) (by kernel_rfl) ?_
    replace Ga := Ga.drew
    refine GA rfl ?_; go_wp2_with fail; refine Gh ?_
    refine GA rfl ?_; go_wp2_with (refine Gj 101 rfl (by rfl) uz3 rfl (Gy (Ga.get 4 rfl) GQ) ?_); refine Gh ?_
    refine GA rfl ?_; go_wp2_with fail; refine Gh ?_
    refine GA rfl ?_; go_wp2_with fail; refine Gh ?_
    refine GA rfl ?_; go_wp2_with fail; refine Gh ?_
    refine GA rfl ?_; go_wp2_with (refine Gj 105 rfl (by rfl) uz3 rfl (Gy (Ga.get 4 rfl) GQ) ?_); refine Gh ?_
    refine GA rfl ?_; go_wp2_with fail; refine Gh ?_
    refine GA rfl ?_; go_wp2_with ((refine JP (d := some 107) rfl rfl rfl (Gw rfl) (Gw rfl) ?_)); refine Gh ?_
    refine GA rfl ?_; go_wp2_with fail; refine Gh ?_
    refine GA rfl ?_; go_wp2_with ((with_reducible refine GI (t := 109) rfl (by kernel_rfl) ?_; (try go_simp))); refine Gh ?_
    refine GA rfl ?_; go_wp2_with ((with_reducible refine GI (t := 110) rfl (by kernel_rfl) ?_; (try go_simp))); refine Gh ?_
    refine GA rfl ?_; go_wp2_with ((with_reducible refine GI (t := 111) rfl (by kernel_rfl) ?_; (try go_simp))); refine Gh ?_
    refine GA rfl ?_; go_wp2_with ((refine Ka (d := some 112) rfl rfl rfl (Gw rfl) GT ?_)); refine Gh ?_
    refine GA rfl ?_; go_wp2_with fail; refine Gh ?_
    refine K3 114 rfl rfl (by kernel_rfl) ?_; (try simp only [Act.put, List.setIfInBounds_toArray, List.set_cons_succ, List.set_cons_zero])
    refine K3 115 rfl rfl (by kernel_rfl) ?_; (try simp only [Act.put, List.setIfInBounds_toArray, List.set_cons_succ, List.set_cons_zero])
    refine GA rfl ?_; go_wp2_with ((with_reducible refine GI (t := 116) rfl (by kernel_rfl) ?_; (try go_simp))); refine Gh ?_
    refine GA rfl ?_; go_wp2_with ((with_reducible refine GI (t := 117) rfl (by kernel_rfl) ?_; (try go_simp))); refine Gh ?_
    refine GA rfl ?_; go_wp2_with ((with_reducible refine GI (t := 118) rfl (by kernel_rfl) ?_; (try go_simp))); refine Gh ?_
    refine GA rfl ?_; go_wp2_with ((refine Ka (d := some 119) rfl rfl rfl (Gw rfl) GT ?_)); refine Gh ?_
    refine GA rfl ?_; go_wp2_with fail; refine Gh ?_
    refine K3 121 rfl rfl (by kernel_rfl) ?_; (try simp only [Act.put, List.setIfInBounds_toArray, List.set_cons_succ, List.set_cons_zero])
    refine K3 122 rfl rfl (by kernel_rfl) ?_; (try simp only [Act.put, List.setIfInBounds_toArray, List.set_cons_succ, List.set_cons_zero])
    refine K3 123 rfl rfl (by kernel_rfl) ?_; (try simp only [Act.put, List.setIfInBounds_toArray, List.set_cons_succ, List.set_cons_zero])
    refine K3 124 rfl rfl (by kernel_rfl) ?_; (try simp only [Act.put, List.setIfInBounds_toArray, List.set_cons_succ, List.set_cons_zero])
    refine K3 125 rfl rfl (by kernel_rfl) ?_; (try simp only [Act.put, List.setIfInBounds_toArray, List.set_cons_succ, List.set_cons_zero])
    refine GA rfl ?_; go_wp2_with ((with_reducible refine GI (t := 126) rfl (by kernel_rfl) ?_; (try go_simp))); refine Gh ?_
    refine GA rfl ?_; go_wp2_with ((with_reducible refine GI (t := 127) rfl (by kernel_rfl) ?_; (try go_simp))); refine Gh ?_
    refine GA rfl ?_; go_wp2_with ((with_reducible refine GI (t := 128) rfl (by kernel_rfl) ?_; (try go_simp))); refine Gh ?_
    refine GA rfl ?_; go_wp2_with ((with_reducible refine GI (t := 129) rfl (by kernel_rfl) ?_; (try go_simp))); refine Gh ?_
    refine GA rfl ?_; go_wp2_with ((refine Ka (d := some 130) rfl rfl rfl (Gw rfl) GT ?_)); refine Gh ?_
    refine G5 ?_
    go_wp2_with fail
    go_meet
    case rel => exact ⟨by rw [← HP.out], Ga⟩
   by_cases d3 : at_ < 0
   ·have HP := Gg (show true = !decide (1 ≤ n ∧ n ≤ 256 ∧ 0 ≤ at_ ∧ at_ < n ∧ m = Jn at_.toNat n.toNat) by simp; omega)
    have e1 : decide (n < 1) = false := decide_eq_false d1
    have e2 : decide (256 < n) = false := decide_eq_false d2
    have e3 : decide (at_ < 0) = true := decide_eq_true d3
    clear d1 d2 d3
    refine GO [(0, 2), (1, 2), (2, 2), (3, 2), (4, 2), (5, 2), (6, 2), (7, 2), (8, 2), (9, 2), (10, 2), (11, 2), (12, 2), (13, 2), (14, 0), (15, 0), (16, 2), (17, 2), (18, 2), (19, 2), (20, 2), (21, 0), (22, 0), (23, 0), (24, 0), (25, 0), (26, 2), (27, 2), (28, 2), (29, 2), (30, 2)] (by kernel_rfl) (by kernel_rfl) ?_
    replace Ga := Ga.drew
    refine GA rfl ?_; go_wp2_with fail; refine Gh ?_
    refine GA rfl ?_; go_wp2_with (refine Gj 101 rfl (by rfl) uz3 rfl (Gy (Ga.get 4 rfl) GQ) ?_); refine Gh ?_
    refine GA rfl ?_; go_wp2_with fail; refine Gh ?_
    refine GA rfl ?_; go_wp2_with fail; refine Gh ?_
    refine GA rfl ?_; go_wp2_with fail; refine Gh ?_
    refine GA rfl ?_; go_wp2_with (refine Gj 105 rfl (by rfl) uz3 rfl (Gy (Ga.get 4 rfl) GQ) ?_); refine Gh ?_
    refine GA rfl ?_; go_wp2_with fail; refine Gh ?_
    refine GA rfl ?_; go_wp2_with ((refine JP (d := some 107) rfl rfl rfl (Gw rfl) (Gw rfl) ?_)); refine Gh ?_
    refine GA rfl ?_; go_wp2_with fail; refine Gh ?_
    refine GA rfl ?_; go_wp2_with fail; refine Gh ?_
    refine GA rfl ?_; go_wp2_with (refine Gj 110 rfl (by rfl) uz3 rfl (Gy (Ga.get 3 rfl) Kd) ?_); refine Gh ?_
    refine GA rfl ?_; go_wp2_with fail; refine Gh ?_
    refine GA rfl ?_; go_wp2_with ((refine JP (d := some 112) rfl rfl rfl (Gw rfl) (Gw rfl) ?_)); refine Gh ?_
    refine GA rfl ?_; go_wp2_with fail; refine Gh ?_
    refine K3 114 rfl rfl (by kernel_rfl) ?_; (try simp only [Act.put, List.setIfInBounds_toArray, List.set_cons_succ, List.set_cons_zero])
    refine K3 115 rfl rfl (by kernel_rfl) ?_; (try simp only [Act.put, List.setIfInBounds_toArray, List.set_cons_succ, List.set_cons_zero])
    refine GA rfl ?_; go_wp2_with ((with_reducible refine GI (t := 116) rfl (by kernel_rfl) ?_; (try go_simp))); refine Gh ?_
    refine GA rfl ?_; go_wp2_with ((with_reducible refine GI (t := 117) rfl (by kernel_rfl) ?_; (try go_simp))); refine Gh ?_
    refine GA rfl ?_; go_wp2_with ((with_reducible refine GI (t := 118) rfl (by kernel_rfl) ?_; (try go_simp))); refine Gh ?_
    refine GA rfl ?_; go_wp2_with ((refine Ka (d := some 119) rfl rfl rfl (Gw rfl) GT ?_)); refine Gh ?_
    refine GA rfl ?_; go_wp2_with fail; refine Gh ?_
    refine K3 121 rfl rfl (by kernel_rfl) ?_; (try simp only [Act.put, List.setIfInBounds_toArray, List.set_cons_succ, List.set_cons_zero])
    refine K3 122 rfl rfl (by kernel_rfl) ?_; (try simp only [Act.put, List.setIfInBounds_toArray, List.set_cons_succ, List.set_cons_zero])
    refine K3 123 rfl rfl (by kernel_rfl) ?_; (try simp only [Act.put, List.setIfInBounds_toArray, List.set_cons_succ, List.set_cons_zero])
    refine K3 124 rfl rfl (by kernel_rfl) ?_; (try simp only [Act.put, List.setIfInBounds_toArray, List.set_cons_succ, List.set_cons_zero])
    refine K3 125 rfl rfl (by kernel_rfl) ?_; (try simp only [Act.put, List.setIfInBounds_toArray, List.set_cons_succ, List.set_cons_zero])
    refine GA rfl ?_; go_wp2_with ((with_reducible refine GI (t := 126) rfl (by kernel_rfl) ?_; (try go_simp))); refine Gh ?_
    refine GA rfl ?_; go_wp2_with ((with_reducible refine GI (t := 127) rfl (by kernel_rfl) ?_; (try go_simp))); refine Gh ?_
    refine GA rfl ?_; go_wp2_with ((with_reducible refine GI (t := 128) rfl (by kernel_rfl) ?_; (try go_simp))); refine Gh ?_
    refine GA rfl ?_; go_wp2_with ((with_reducible refine GI (t := 129) rfl (by kernel_rfl) ?_; (try go_simp))); refine Gh ?_
    refine GA rfl ?_; go_wp2_with ((refine Ka (d := some 130) rfl rfl rfl (Gw rfl) GT ?_)); refine Gh ?_
    refine G5 ?_
    go_wp2_with fail
    go_meet
    case rel => exact ⟨by rw [← HP.out], Ga⟩
   by_cases d4 : n ≤ at_
   ·have HP := Gg (show true = !decide (1 ≤ n ∧ n ≤ 256 ∧ 0 ≤ at_ ∧ at_ < n ∧ m = Jn at_.toNat n.toNat) by simp; omega)
    have e1 : decide (n < 1) = false := decide_eq_false d1
    have e2 : decide (256 < n) = false := decide_eq_false d2
    have e3 : decide (at_ < 0) = false := decide_eq_false d3
    have e4 : decide (n ≤ at_) = true := decide_eq_true d4
    clear d1 d2 d3 d4
    refine GO [(0, 2), (1, 2), (2, 2), (3, 2), (4, 2), (5, 2), (6, 2), (7, 2), (8, 2), (9, 2), (10, 2), (11, 2), (12, 2), (13, 2), (14, 0), (15, 0), (16, 2), (17, 2), (18, 2), (19, 2), (20, 2), (21, 0), (22, 0), (23, 0), (24, 0), (25, 0), (26, 2), (27, 2), (28, 2), (29, 2), (30, 2)] (by kernel_rfl) (by kernel_rfl) ?_
    replace Ga := Ga.drew
    refine GA rfl ?_; go_wp2_with fail; refine Gh ?_
    refine GA rfl ?_; go_wp2_with (refine Gj 101 rfl (by rfl) uz3 rfl (Gy (Ga.get 4 rfl) GQ) ?_); refine Gh ?_
    refine GA rfl ?_; go_wp2_with fail; refine Gh ?_
    refine GA rfl ?_; go_wp2_with fail; refine Gh ?_
    refine GA rfl ?_; go_wp2_with fail; refine Gh ?_
    refine GA rfl ?_; go_wp2_with (refine Gj 105 rfl (by rfl) uz3 rfl (Gy (Ga.get 4 rfl) GQ) ?_); refine Gh ?_
    refine GA rfl ?_; go_wp2_with fail; refine Gh ?_
    refine GA rfl ?_; go_wp2_with ((refine JP (d := some 107) rfl rfl rfl (Gw rfl) (Gw rfl) ?_)); refine Gh ?_
    refine GA rfl ?_; go_wp2_with fail; refine Gh ?_
    refine GA rfl ?_; go_wp2_with fail; refine Gh ?_
    refine GA rfl ?_; go_wp2_with (refine Gj 110 rfl (by rfl) uz3 rfl (Gy (Ga.get 3 rfl) Kd) ?_); refine Gh ?_
    refine GA rfl ?_; go_wp2_with fail; refine Gh ?_
    refine GA rfl ?_; go_wp2_with ((refine JP (d := some 112) rfl rfl rfl (Gw rfl) (Gw rfl) ?_)); refine Gh ?_
    refine GA rfl ?_; go_wp2_with fail; refine Gh ?_
    refine H8 rfl rfl (by kernel_rfl) ?_; go_wp2_with fail
    refine GG rfl rfl ?_; go_wp2_with (refine Gj 115 rfl (by rfl) uz3 rfl (Gy (Ga.get 3 rfl) Kd) ?_)
    refine GA rfl ?_; go_wp2_with fail; refine Gh ?_
    refine GA rfl ?_; go_wp2_with (refine Gj 117 rfl (by rfl) uz3 rfl (Gy (Ga.get 4 rfl) GQ) ?_); refine Gh ?_
    refine GA rfl ?_; go_wp2_with fail; refine Gh ?_
    refine GA rfl ?_; go_wp2_with ((refine JP (d := some 119) rfl rfl rfl (Gw rfl) (Gw rfl) ?_)); refine Gh ?_
    refine GA rfl ?_; go_wp2_with fail; refine Gh ?_
    refine K3 121 rfl rfl (by kernel_rfl) ?_; (try simp only [Act.put, List.setIfInBounds_toArray, List.set_cons_succ, List.set_cons_zero])
    refine K3 122 rfl rfl (by kernel_rfl) ?_; (try simp only [Act.put, List.setIfInBounds_toArray, List.set_cons_succ, List.set_cons_zero])
    refine K3 123 rfl rfl (by kernel_rfl) ?_; (try simp only [Act.put, List.setIfInBounds_toArray, List.set_cons_succ, List.set_cons_zero])
    refine K3 124 rfl rfl (by kernel_rfl) ?_; (try simp only [Act.put, List.setIfInBounds_toArray, List.set_cons_succ, List.set_cons_zero])
    refine K3 125 rfl rfl (by kernel_rfl) ?_; (try simp only [Act.put, List.setIfInBounds_toArray, List.set_cons_succ, List.set_cons_zero])
    refine GA rfl ?_; go_wp2_with ((with_reducible refine GI (t := 126) rfl (by kernel_rfl) ?_; (try go_simp))); refine Gh ?_
    refine GA rfl ?_; go_wp2_with ((with_reducible refine GI (t := 127) rfl (by kernel_rfl) ?_; (try go_simp))); refine Gh ?_
    refine GA rfl ?_; go_wp2_with ((with_reducible refine GI (t := 128) rfl (by kernel_rfl) ?_; (try go_simp))); refine Gh ?_
    refine GA rfl ?_; go_wp2_with ((with_reducible refine GI (t := 129) rfl (by kernel_rfl) ?_; (try go_simp))); refine Gh ?_
    refine GA rfl ?_; go_wp2_with ((refine Ka (d := some 130) rfl rfl rfl (Gw rfl) GT ?_)); refine Gh ?_
    refine G5 ?_
    go_wp2_with fail
    go_meet
    case rel => exact ⟨by rw [← HP.out], Ga⟩
   obtain ⟨i, hi⟩ : ∃ i : Nat, at_ = (i : Int) := ⟨at_.toNat, by omega⟩
   obtain ⟨k, hk⟩ : ∃ k : Nat, n = (k : Int) := ⟨n.toNat, by omega⟩
   have HL2 := Gg (fun w' => by
    have := HLo.out i k w' (by omega) (by omega)
    rewrite [← hi, ← hk] at this
    exact this)
   obtain ⟨g, hg⟩ : ∃ g, g = Jn i k := ⟨_, rfl⟩
   rewrite [← hg] at HL2
   have HP := Gg (show ((m : Int) != (g : Int)) = !decide (1 ≤ n ∧ n ≤ 256 ∧ 0 ≤ at_ ∧ at_ < n ∧ m = Jn at_.toNat n.toNat) by
    have e : Jn at_.toNat n.toNat = g := by rw [hg, hi, hk]; rfl
    rw [e]
    by_cases hc : m = g
    ·simp [hc]; omega
    ·simp [hc]; omega)
   clear hi hk hg HLo HFo
   have e1 : decide (n < 1) = false := decide_eq_false d1
   have e2 : decide (256 < n) = false := decide_eq_false d2
   have e3 : decide (at_ < 0) = false := decide_eq_false d3
   have e4 : decide (n ≤ at_) = false := decide_eq_false d4
   clear d1 d2 d3 d4
   refine GO [(0, 2), (1, 2), (2, 2), (3, 2), (4, 2), (5, 2), (6, 2), (7, 2), (8, 2), (9, 2), (10, 2), (11, 2), (12, 2), (13, 2), (14, 0), (15, 0), (16, 2), (17, 2), (18, 2), (19, 2), (20, 2), (21, 0), (22, 0), (23, 0), (24, 0), (25, 0), (26, 2), (27, 2), (28, 2), (29, 2), (30, 2)] (by kernel_rfl) (by kernel_rfl) ?_
   replace Ga := Ga.drew
   refine GA rfl ?_; go_wp2_with fail; refine Gh ?_
   refine GA rfl ?_; go_wp2_with (refine Gj 101 rfl (by rfl) uz3 rfl (Gy (Ga.get 4 rfl) GQ) ?_); refine Gh ?_
   refine GA rfl ?_; go_wp2_with fail; refine Gh ?_
   refine GA rfl ?_; go_wp2_with fail; refine Gh ?_
   refine GA rfl ?_; go_wp2_with fail; refine Gh ?_
   refine GA rfl ?_; go_wp2_with (refine Gj 105 rfl (by rfl) uz3 rfl (Gy (Ga.get 4 rfl) GQ) ?_); refine Gh ?_
   refine GA rfl ?_; go_wp2_with fail; refine Gh ?_
   refine GA rfl ?_; go_wp2_with ((refine JP (d := some 107) rfl rfl rfl (Gw rfl) (Gw rfl) ?_)); refine Gh ?_
   refine GA rfl ?_; go_wp2_with fail; refine Gh ?_
   refine GA rfl ?_; go_wp2_with fail; refine Gh ?_
   refine GA rfl ?_; go_wp2_with (refine Gj 110 rfl (by rfl) uz3 rfl (Gy (Ga.get 3 rfl) Kd) ?_); refine Gh ?_
   refine GA rfl ?_; go_wp2_with fail; refine Gh ?_
   refine GA rfl ?_; go_wp2_with ((refine JP (d := some 112) rfl rfl rfl (Gw rfl) (Gw rfl) ?_)); refine Gh ?_
   refine GA rfl ?_; go_wp2_with fail; refine Gh ?_
   refine H8 rfl rfl (by kernel_rfl) ?_; go_wp2_with fail
   refine GG rfl rfl ?_; go_wp2_with (refine Gj 115 rfl (by rfl) uz3 rfl (Gy (Ga.get 3 rfl) Kd) ?_)
   refine GA rfl ?_; go_wp2_with fail; refine Gh ?_
   refine GA rfl ?_; go_wp2_with (refine Gj 117 rfl (by rfl) uz3 rfl (Gy (Ga.get 4 rfl) GQ) ?_); refine Gh ?_
   refine GA rfl ?_; go_wp2_with fail; refine Gh ?_
   refine GA rfl ?_; go_wp2_with ((refine JP (d := some 119) rfl rfl rfl (Gw rfl) (Gw rfl) ?_)); refine Gh ?_
   refine GA rfl ?_; go_wp2_with fail; refine Gh ?_
   refine H8 rfl rfl (by kernel_rfl) ?_; go_wp2_with fail
   refine GG rfl rfl ?_; go_wp2_with (refine Gj 122 rfl (by rfl) uz44 rfl (Gy (Ga.get 3 rfl) My) ?_)
   refine GG rfl rfl ?_; go_wp2_with (fail)
   refine H8 rfl rfl (by kernel_rfl) ?_; go_wp2_with fail
   refine GG rfl rfl ?_; go_wp2_with (refine Gj 125 rfl (by rfl) uz3 rfl (Gy (Ga.get 3 rfl) Kd) ?_)
   refine GA rfl ?_; go_wp2_with fail; refine Gh ?_
   refine GA rfl ?_; go_wp2_with (refine Gj 127 rfl (by rfl) uz3 rfl (Gy (Ga.get 4 rfl) GQ) ?_); refine Gh ?_
   refine GA rfl ?_; go_wp2_with ((go_at_call 55; (try clear Gb); refine (HL2.out _).mono ?_; rintro e Wk10 ⟨rfl, Gb⟩; replace Ga := Ga.keep Gb)); refine Gi Gb ?_
   refine GA rfl ?_; go_wp2_with (fail); refine Gh ?_
   refine GA rfl ?_; go_wp2_with ((refine JP (d := some 130) rfl rfl rfl (Gw rfl) (Gw rfl) ?_)); refine Gh ?_
   refine G5 ?_
   go_wp2_with fail
   go_meet
   case rel => exact ⟨by rw [← HP.out], Ga⟩
  case rest =>
   obtain ⟨rfl, Ga⟩ := hcut
   by_cases cT : 1 ≤ n ∧ n ≤ 256 ∧ 0 ≤ at_ ∧ at_ < n ∧ m = Jn at_.toNat n.toNat
   case neg =>
    have HP := Gg (show (!decide (1 ≤ n ∧ n ≤ 256 ∧ 0 ≤ at_ ∧ at_ < n ∧ m = Jn at_.toNat n.toNat)) = true by rw [decide_eq_false cT]; rfl)
    have HR := Gg (HNo.out (fun h => cT ⟨h.1, h.2.1, h.2.2.1, h.2.2.2.1, h.2.2.2.2.1⟩))
    rewrite [HP.out]
    clear cT HP HNo HYes HLo HFo
    go_wp2_with (first | (refine Je (d := some 131) rfl rfl rfl ?_) | ((refine Gr 6 131 Ga rfl (by rfl) (Gw rfl) (Hg _ _ _) GD (by rfl) 2 rfl (by rfl) ?_; clear Ga; intro WS1 Ga; simp only [Ge, Gf] at Ga)))
    refine Hu rfl rfl rfl rfl rfl (Ga.get 2 rfl) uz34 rfl GD (GN _ _ _) ?_
    exact HR.out _ Ga.forget
   have HP := Gg (show (!decide (1 ≤ n ∧ n ≤ 256 ∧ 0 ≤ at_ ∧ at_ < n ∧ m = Jn at_.toNat n.toNat)) = false by rw [decide_eq_true cT]; rfl)
   rewrite [HP.out]
   obtain ⟨t1, t2, t3, t4, t5⟩ := cT
   have hni := Int.toNat_of_nonneg t3
   have hnn := Int.toNat_of_nonneg (show 0 ≤ n by omega)
   have HF2 := Gg (fun w' h => by
    have := HFo.out at_.toNat n.toNat w' h (by omega) (by omega) t5
    rewrite [hni, hnn] at this
    exact this)
   by_cases cx : JY lf at_.toNat n.toNat pt = x
   ·have HD := Gg (show (!decide (JY lf at_.toNat n.toNat pt = x)) = false by simp [cx])
    have HR := Gg (HYes.out ⟨t1, t2, t3, t4, t5, cx⟩)
    clear cx HP HNo HYes HLo HFo t1 t2 t3 t4 t5 hni hnn
    generalize JY lf at_.toNat n.toNat pt = fo at *
    go_upto_region 18 with (go_big_may; fail)
    refine GO [(0, 0), (1, 0), (2, 0), (3, 0), (4, 0), (5, 0), (6, 0), (8, 0), (9, 0), (7, 2), (10, 2)] (by kernel_rfl) (by kernel_rfl) ?_
    replace Ga := Ga.drew
    refine GG rfl rfl ?_; go_wp2_with ((refine Gl 132 rfl (by rfl) uz32 rfl Gv (Ga.get 0 rfl) (Dig.size _) ?_))
    refine H8 rfl rfl (by kernel_rfl) ?_; go_wp2_with fail
    refine GG rfl rfl ?_; go_wp2_with (refine Gj 134 rfl (by rfl) uz3 rfl (Gy (Ga.get 3 rfl) Kd) ?_)
    refine H8 rfl rfl (by kernel_rfl) ?_; go_wp2_with fail
    refine GG rfl rfl ?_; go_wp2_with (refine Gj 136 rfl (by rfl) uz3 rfl (Gy (Ga.get 4 rfl) GQ) ?_)
    refine H8 rfl rfl (by kernel_rfl) ?_; go_wp2_with fail
    refine GG rfl rfl ?_; go_wp2_with (refine Gj 138 rfl (by rfl) uz44 rfl (Gy (Ga.get 3 rfl) My) ?_)
    refine H8 rfl rfl (by kernel_rfl) ?_; go_wp2_with fail
    refine GG rfl rfl ?_; go_wp2_with ((refine Gn 141 rfl (by rfl) uz32 rfl Gv (Hy (Ga.get 4 rfl)) (Dig.size _) ?_))
    refine GA rfl ?_; go_wp2_with ((go_at_call 56; (try clear Gb); refine (HF2.out _ (Ga.old (by decide) HZ.out)).mono ?_; rintro e Wk11 ⟨rfl, Gb⟩; replace Ga := Ga.keep Gb)); refine Gi Gb ?_
    refine GA rfl ?_; go_wp2_with (refine Ml (d := some 142) rfl rfl rfl uz32 uz5 GF JG (Gw rfl) (Gw rfl) ?_; (try rw [HD.out])); refine Gh ?_
    refine G5 ?_
    go_wp2_with (first | (refine Gl 144 rfl (by rfl) uz34 rfl GD (Ga.get 1 rfl) (GN _ _ _) ?_) | ((refine Gr 6 144 Ga rfl (by rfl) (Gw rfl) (Hg _ _ _) GD (GN _ _ _) 2 rfl (by rfl) ?_; clear Ga; intro WS1 Ga; simp only [Ge, Gf] at Ga)))
    refine Hu rfl rfl rfl rfl rfl (Ga.get 2 rfl) uz34 rfl GD (GN _ _ _) ?_
    exact HR.out _ Ga.forget
   ·have HD := Gg (show (!decide (JY lf at_.toNat n.toNat pt = x)) = true by simp [cx])
    have HR := Gg (HNo.out (fun h => cx h.2.2.2.2.2))
    clear cx HP HNo HYes HLo HFo t1 t2 t3 t4 t5 hni hnn
    generalize JY lf at_.toNat n.toNat pt = fo at *
    go_upto_region 18 with (go_big_may; fail)
    refine GO [(0, 0), (1, 0), (2, 0), (3, 0), (4, 0), (5, 0), (6, 0), (8, 0), (9, 0), (7, 2), (10, 2)] (by kernel_rfl) (by kernel_rfl) ?_
    replace Ga := Ga.drew
    refine GG rfl rfl ?_; go_wp2_with ((refine Gl 132 rfl (by rfl) uz32 rfl Gv (Ga.get 0 rfl) (Dig.size _) ?_))
    refine H8 rfl rfl (by kernel_rfl) ?_; go_wp2_with fail
    refine GG rfl rfl ?_; go_wp2_with (refine Gj 134 rfl (by rfl) uz3 rfl (Gy (Ga.get 3 rfl) Kd) ?_)
    refine H8 rfl rfl (by kernel_rfl) ?_; go_wp2_with fail
    refine GG rfl rfl ?_; go_wp2_with (refine Gj 136 rfl (by rfl) uz3 rfl (Gy (Ga.get 4 rfl) GQ) ?_)
    refine H8 rfl rfl (by kernel_rfl) ?_; go_wp2_with fail
    refine GG rfl rfl ?_; go_wp2_with (refine Gj 138 rfl (by rfl) uz44 rfl (Gy (Ga.get 3 rfl) My) ?_)
    refine H8 rfl rfl (by kernel_rfl) ?_; go_wp2_with fail
    refine GG rfl rfl ?_; go_wp2_with ((refine Gn 141 rfl (by rfl) uz32 rfl Gv (Hy (Ga.get 4 rfl)) (Dig.size _) ?_))
    refine GA rfl ?_; go_wp2_with ((go_at_call 56; (try clear Gb); refine (HF2.out _ (Ga.old (by decide) HZ.out)).mono ?_; rintro e Wk12 ⟨rfl, Gb⟩; replace Ga := Ga.keep Gb)); refine Gi Gb ?_
    refine GA rfl ?_; go_wp2_with (refine Ml (d := some 142) rfl rfl rfl uz32 uz5 GF JG (Gw rfl) (Gw rfl) ?_; (try rw [HD.out])); refine Gh ?_
    refine G5 ?_
    go_wp2_with (first | (refine Je (d := some 143) rfl rfl rfl ?_) | ((refine Gr 6 143 Ga rfl (by rfl) (Gw rfl) (Hg _ _ _) GD (by rfl) 2 rfl (by rfl) ?_; clear Ga; intro WS1 Ga; simp only [Ge, Gf] at Ga)))
    refine Hu rfl rfl rfl rfl rfl (Ga.get 2 rfl) uz34 rfl GD (GN _ _ _) ?_
    exact HR.out _ Ga.forget
theorem looked_any (n : Int) (x y z : Dig) (s : List UInt8) (f : FoundN) (A : Option Addr) (m c : Nat) (B : Option Addr) (p q : Nat) (w : World) (hsz : s.length ≤ 140737488354000) (hnz : f.note.name.length ≤ 9223372036854775807) (hz : SlR w A m c 32 (GP f.path)) (hx : SlR w B p q 32 (GP f.mpath)) (hn1 : -9223372036854775808 ≤ f.note.turn) (hn2 : f.note.turn ≤ 9223372036854775807) :
  Calls Tryz.prog 21 #[.agg (H9 n x y z), .string (GZ s), .agg (JE f.note.name f.note.key f.note.turn f.at_ A m c B p q)] w fun e w' => e = .returned (lookQ (PQ n x y s f)) ∧ St w w' [] := by
 obtain ⟨nt, at_, pt, ps⟩ := f
 simp only at *
 have hm : pt.length = m := by have := hz.1; rw [G8] at this; omega
 unfold PQ
 by_cases hs : JM s = true
 ·rw [if_pos hs]
  by_cases h0 : nt.name = []
  ·rw [if_pos h0]
   obtain ⟨a1, a2, a3⟩ := nt
   simp only at *
   subst h0
   refine (looked_none n x y z s a2 a3 at_ A m c B ps p q w hsz hs hx).mono ?_
   rintro e w' ⟨rfl, h⟩
   refine ⟨?_, h⟩
   have hp : (pt = []) ↔ m = 0 := by rw [← hm, List.length_eq_zero_iff]
   simp only [hp]
   split <;> rfl
  ·rw [if_neg h0]
   by_cases hok : JN nt = true
   ·by_cases hns : nt.name = s
    ·rw [if_pos ⟨hok, hns⟩]
     refine (looked_has n x y z s nt at_ A pt m c B ps p q w hsz hs hz hx h0 hok hns).mono ?_
     rintro e w' ⟨(⟨h1, h2, rfl⟩ | ⟨h1, rfl⟩), h⟩
     ·rw [if_pos ⟨h1, h2⟩]
      exact ⟨rfl, h⟩
     ·rw [if_neg h1]
      exact ⟨rfl, h⟩
    ·rw [if_neg (fun h => hns h.2)]
     exact (looked_other n x y z s nt at_ A m c B p q w hsz hs h0 hok hns).mono fun e w' h => ⟨h.1, h.2⟩
   ·rw [if_neg (fun h => hok h.1)]
    exact (looked_bad n x y z s nt at_ A m c B p q w hsz hnz hs h0 (by simpa using hok) hn1 hn2).mono fun e w' h => ⟨h.1, h.2⟩
 ·rw [if_neg hs]
  exact (looked_no n x y z s nt.name nt.key nt.turn at_ A m c B p q w (by omega) (by simpa using hs)).mono fun e w' h => ⟨h.1, h.2⟩
end
end Go.Proofs.YtaebeemnipafbaaGreatDoor
