/-
  Proved here: DeskAnswers: the law returns true for every input, and leaves its arguments as they were.
-/
import Derived.Test.YtaebeemnipafbaaGreatDoorPkDeskAnswersE
import Derived.Test.YtaebeemnipafbaaGreatDoorPkDeskAnswersX
import Derived.Test.YtaebeemnipafbaaGreatDoorSq
import Derived.Test.YtaebeemnipafbaaGreatDoorPkDeskAnswersY
import Derived.Test.YtaebeemnipafbaaGreatDoorPkDeskAnswersA
import Derived.Test.YtaebeemnipafbaaGreatDoorPkDeskAnswersB
import Derived.Test.YtaebeemnipafbaaGreatDoorOpenB
import Derived.Test.YtaebeemnipafbaaGreatDoorOpenH
import Derived.Test.YtaebeemnipafbaaGreatDoorRows
import Derived.LaidLaws
import Derived.SizedLaws
import Derived.LaidHandle
import Derived.ChangeSame
import Derived.ChangeVars
import Derived.JoinedOf
import Derived.RowKit
import Derived.RowKitTokens
import Derived.Stop.Joined
import Derived.Test.YtaebeemnipafbaaGreatDoorCards
import Derived.Test.YtaebeemnipafbaaGreatDoorTie
import Derived.Deep.DeepHandedRow
import Derived.ProofKit
import Derived.OpenShut
set_option linter.unusedSimpArgs false
set_option linter.unusedVariables false
set_option maxRecDepth 100000
set_option maxHeartbeats 200000000
namespace Go.Proofs.YtaebeemnipafbaaGreatDoor
section
open Go.RowKit
attribute [local simp] GR GN
def J9 (K : Option Addr) (m mc : Nat) (A : Option Addr) (n c : Nat) (n0 : Int) (x y z : Dig) : Array Value := ((Jw K m mc A n c).toList ++ (H9 n0 x y z).toList).toArray
section
variable {K : Option Addr} {m mc : Nat} {A : Option Addr} {n c : Nat} {n0 : Int} {x y z : Dig}
theorem rdArr_list : (J9 K m mc A n c n0 x y z).toList = (Jw K m mc A n c).toList ++ (H9 n0 x y z).toList := rfl
theorem rdArr_0 : (J9 K m mc A n c n0 x y z)[0]? = some (.slice K m mc) := rfl
theorem rdArr_2 : (J9 K m mc A n c n0 x y z)[2]? = some (.int .i64 n0) := rfl
theorem Pq {W : World} {g t : Nat} {fr : Nat × Nat} (h : W.heap[g]? = some (.cells (J9 K m mc A n c n0 x y z) t fr)) : W.rangeAt g 0 (Jw K m mc A n c).toList := PF h [] _ (H9 n0 x y z).toList rfl rfl
theorem rdArr_h {W : World} {g t : Nat} {fr : Nat × Nat} (h : W.heap[g]? = some (.cells (J9 K m mc A n c n0 x y z) t fr)) : W.rangeAt g 2 (H9 n0 x y z).toList := PF h [.slice K m mc, .slice A n c] _ [] (by rw [rdArr_list]; simp [Jw]) rfl
end
theorem G3 (K : Option Addr) (m mc : Nat) (A : Option Addr) (n c : Nat) (n0 : Int) (x y z : Dig) : (J9 K m mc A n c n0 x y z).size = 99 := by simp [J9, Jw, GR]
theorem JX (K : Option Addr) (m mc : Nat) (A : Option Addr) (n c : Nat) (n0 : Int) (x y z : Dig) : (J9 K m mc A n c n0 x y z).all (·.oneCell') = true := Array.all_eq_true_iff_forall_mem.2 fun u hu => by
 rw [← Array.mem_toList_iff, rdArr_list] at hu
 rcases List.mem_append.1 hu with hu | hu
 ·exact Array.all_eq_true_iff_forall_mem.1 (Kn K m mc A n c) u (Array.mem_toList_iff.1 hu)
 ·exact Array.all_eq_true_iff_forall_mem.1 (Jr n0 x y z) u (Array.mem_toList_iff.1 hu)
theorem NP (K : Option Addr) (m mc : Nat) (A : Option Addr) (n c : Nat) (n0 : Int) (x y z : Dig) (n1 : Int) (x1 y1 z1 : Dig) : Jg (J9 K m mc A n c n0 x y z) 2 (H9 n1 x1 y1 z1).toList = J9 K m mc A n c n1 x1 y1 z1 :=
 Kr (cs := J9 K m mc A n c n0 x y z) (ds := J9 K m mc A n c n1 x1 y1 z1) [.slice K m mc, .slice A n c] (H9 n0 x y z).toList (H9 n1 x1 y1 z1).toList [] (by rw [rdArr_list]; simp [Jw]) (by rw [rdArr_list]; simp [Jw]) (by rw [Array.length_toList, Array.length_toList, GR, GR]) rfl
theorem rdArr_putQ (K : Option Addr) (m mc : Nat) (A : Option Addr) (n c : Nat) (n0 : Int) (x y z : Dig) (A' : Option Addr) (n' c' : Nat) : Jg (J9 K m mc A n c n0 x y z) 0 (Jw K m mc A' n' c').toList = J9 K m mc A' n' c' n0 x y z :=
 Kr (cs := J9 K m mc A n c n0 x y z) (ds := J9 K m mc A' n' c' n0 x y z) [] (Jw K m mc A n c).toList (Jw K m mc A' n' c').toList (H9 n0 x y z).toList rfl rfl rfl rfl
theorem GE : GW Tryz.prog 69 (.agg (J9 none 0 0 none 0 0 0 GM GM GM)) 99 152 := by unfold GW; kernel_rfl
def Kv (K : Option Addr) (m mc : Nat) (A : Option Addr) (n c : Nat) (s : DkS) : Array Value := J9 K m mc A n c (s.j : Int) (G4 (lvN (s.ns.take s.j))) (Jz (s.ns.take s.j)) s.z
theorem ransw_head (key : List UInt8) (K : Option Addr) (m mc : Nat) (s : DkS) (l : List UInt8) (A : Option Addr) (n c : Nat) (w : World) (hk : SlR w K m mc 1 (GK key)) (hm : m ≤ 140737488351232) (hx : SlR w A n c 34 (H6 s.ns)) (hok : DkOk s) (hl : l.length ≤ 140737488351232) (Q : Ending → World → Prop)
  (c1 : l = Ki)
  (hQ : ∀ w', St w w' [] → Q (.returned (.tuple #[.agg (Kv K m mc A n c (Jp key s l).1), .string (GZ (N3 (Jp key s l).2))])) w') :
  Calls Tryz.prog 28 #[.agg (Kv K m mc A n c s), .string (GZ l)] w Q := by
 have Ga := St.refl w
 have HX := Gg hx
 have HK := Gg hk
 obtain ⟨hg, hj⟩ := hok
 have hn := hg.len
 have hln : s.ns.length = n := by have := hx.1; rw [JB] at this; omega
 have HQ := Gg hQ
 have HHd := Gg (fun (w' : World) (h1 : SlR w' K m mc 1 (GK key)) (h2 : SlR w' A n c 34 (H6 s.ns)) => N4 key K m mc s.ns A n c w' h1 h2 hg (by omega))
 have HB1 := Gg (fun w' => JV l Mj w' (by decide))
 have HB2 := Gg (fun w' => JV l Nk w' (by decide))
 have HTx := Gg (fun (w' : World) (z : Dig) => rheadText_any n (G4 (lvN s.ns)) (Jz s.ns) z (by omega) w')
 have HA := Gg (show Kv K m mc A n c (Jp key s l).1 = Kv K m mc A n c s ∧ N3 (Jp key s l).2 = Np n (G4 (lvN s.ns)) (Jz s.ns) by rw [c1, ans_head, hln]; exact ⟨rfl, rfl⟩)
 rewrite [HA.out.1, HA.out.2] at HQ
 have HD := Gg (show decide (l = Ki) = true from decide_eq_true c1)
 unfold Kv at *
 generalize Np n (G4 (lvN s.ns)) (Jz s.ns) = tx at *
 generalize G4 (lvN s.ns) = rt at *
 generalize G4 (lvN (s.ns.take s.j)) = rx at *
 generalize Jz (s.ns.take s.j) = ry at *
 generalize Jz s.ns = mp at *
 generalize Mc key s.ns = hr at *
 clear hk hx hg hQ HA c1 HB1 HB2
 go_enter Tryz.func28, Tryz.ntmps28
 go_upto_region 1 with (go_big_may; first | (refine Gm 2 rfl (Gw rfl) ?_; (try clear Gb); intro g2 W2 Gb; replace Ga := Ga.tr1 Gb) | (refine Gk 4 rfl GE ?_; (try clear Gb); intro g4 W4 Gb; replace Ga := Ga.tr1 Gb))
 go_upto_region 2 with (go_big_may; (refine Ja (d := some 25) (u := Ki) rfl rfl rfl (by kernel_rfl) uz9 (Gw rfl) GT ?_; rewrite [HD.out]))
 (try clear Gb)
 refine GO [(0, 0), (1, 2), (2, 2), (3, 2), (4, 2), (5, 1), (6, 2)] (by kernel_rfl) (by kernel_rfl) ?_
 replace Ga := Ga.drew
 refine GG rfl rfl ?_; go_wp2_with ((refine Gl 26 rfl (by rfl) uz69 rfl GE (Ga.get 1 rfl) (G3 _ _ _ _ _ _ _ _ _ _) ?_))
 refine GA rfl ?_; go_wp2_with fail; refine Gh ?_
 refine GA rfl ?_; go_wp2_with ((refine Gn 28 rfl (by rfl) uz27 rfl GL (Pq (Ga.get 1 rfl)) (Hk _ _ _ _ _ _) ?_)); refine Gh ?_
 refine GA rfl ?_; go_wp2_with ((go_at_call 13; (try clear Gb); refine (HHd.out _ (Ga.old (by decide) HK.out) (Ga.old (by decide) HX.out)).mono ?_; rintro e Wh ⟨rfl, Gb⟩; replace Ga := Ga.keep Gb)); refine Gi Gb ?_
 refine GA rfl ?_; go_wp2_with ((go_at_call 67; (try clear Gb); refine (HTx.out _ _).mono ?_; rintro e Wk1 ⟨rfl, Gb⟩; replace Ga := Ga.keep Gb)); refine Gi Gb ?_
 refine J6 rfl ?_; go_wp2_with ((refine Gr 4 26 Ga rfl (by rfl) (Gw rfl) (JX _ _ _ _ _ _ _ _ _ _) GE (G3 _ _ _ _ _ _ _ _ _ _) 0 rfl (by rfl) ?_; clear Ga; intro WS5 Ga; simp only [Ge, Gf] at Ga))
 refine GA rfl ?_; go_wp2_with fail; refine Gh ?_
 refine G5 ?_
 go_wp2_with fail
 refine He rfl rfl rfl rfl (Ga.get 0 rfl) uz69 rfl GE (G3 _ _ _ _ _ _ _ _ _ _) ?_
 exact HQ.out _ Ga.forget
theorem ransw_held (key : List UInt8) (K : Option Addr) (m mc : Nat) (s : DkS) (l : List UInt8) (A : Option Addr) (n c : Nat) (w : World) (hk : SlR w K m mc 1 (GK key)) (hm : m ≤ 140737488351232) (hx : SlR w A n c 34 (H6 s.ns)) (hok : DkOk s) (hl : l.length ≤ 140737488351232) (Q : Ending → World → Prop)
  (c1 : l = Kw)
  (hQ : ∀ w', St w w' [] → Q (.returned (.tuple #[.agg (Kv K m mc A n c (Jp key s l).1), .string (GZ (N3 (Jp key s l).2))])) w') :
  Calls Tryz.prog 28 #[.agg (Kv K m mc A n c s), .string (GZ l)] w Q := by
 have Ga := St.refl w
 have HX := Gg hx
 have HK := Gg hk
 obtain ⟨hg, hj⟩ := hok
 have hn := hg.len
 have hln : s.ns.length = n := by have := hx.1; rw [JB] at this; omega
 have HQ := Gg hQ
 have HHd := Gg (fun (w' : World) (h1 : SlR w' K m mc 1 (GK key)) (h2 : SlR w' A n c 34 (H6 s.ns)) => N4 key K m mc s.ns A n c w' h1 h2 hg (by omega))
 have HB1 := Gg (fun w' => JV l Mj w' (by decide))
 have HB2 := Gg (fun w' => JV l Nk w' (by decide))
 have HTx := Gg (fun (w' : World) => rheadText_any s.j (G4 (lvN (s.ns.take s.j))) (Jz (s.ns.take s.j)) s.z (by omega) w')
 have HA := Gg (show Kv K m mc A n c (Jp key s l).1 = Kv K m mc A n c s ∧ N3 (Jp key s l).2 = Np s.j (G4 (lvN (s.ns.take s.j))) (Jz (s.ns.take s.j)) by rw [c1, ans_held]; exact ⟨rfl, rfl⟩)
 rewrite [HA.out.1, HA.out.2] at HQ
 have HD1 := Gg (show decide (l = Ki) = false from decide_eq_false (by rw [c1]; decide))
 have HD2 := Gg (show decide (l = Kw) = true from decide_eq_true c1)
 unfold Kv at *
 generalize Np s.j (G4 (lvN (s.ns.take s.j))) (Jz (s.ns.take s.j)) = tx at *
 generalize G4 (lvN (s.ns.take s.j)) = rx at *
 generalize Jz (s.ns.take s.j) = ry at *
 clear hk hx hg hQ HA c1 HB1 HB2 HHd
 go_enter Tryz.func28, Tryz.ntmps28
 go_upto_region 1 with (go_big_may; first | (refine Gm 2 rfl (Gw rfl) ?_; (try clear Gb); intro g2 W2 Gb; replace Ga := Ga.tr1 Gb) | (refine Gk 4 rfl GE ?_; (try clear Gb); intro g4 W4 Gb; replace Ga := Ga.tr1 Gb))
 go_upto_region 3 with (go_big_may; (refine Ja (d := some 25) (u := Ki) rfl rfl rfl (by kernel_rfl) uz9 (Gw rfl) GT ?_; rewrite [HD1.out]))
 go_upto_region 4 with (go_big_may; (refine Ja (d := some 32) (u := Kw) rfl rfl rfl (by kernel_rfl) uz9 (Gw rfl) GT ?_; rewrite [HD2.out]))
 (try clear Gb)
 refine GO [(0, 0), (1, 2), (2, 2), (3, 2), (4, 1), (5, 2)] (by kernel_rfl) (by kernel_rfl) ?_
 replace Ga := Ga.drew
 refine GG rfl rfl ?_; go_wp2_with ((refine Gl 33 rfl (by rfl) uz69 rfl GE (Ga.get 1 rfl) (G3 _ _ _ _ _ _ _ _ _ _) ?_))
 refine GA rfl ?_; go_wp2_with fail; refine Gh ?_
 refine GA rfl ?_; go_wp2_with ((refine Gn 35 rfl (by rfl) uz41 rfl GS (rdArr_h (Ga.get 1 rfl)) (GR _ _ _ _) ?_)); refine Gh ?_
 refine GA rfl ?_; go_wp2_with ((go_at_call 67; (try clear Gb); refine (HTx.out _).mono ?_; rintro e Wk2 ⟨rfl, Gb⟩; replace Ga := Ga.keep Gb)); refine Gi Gb ?_
 refine J6 rfl ?_; go_wp2_with ((refine Gr 4 33 Ga rfl (by rfl) (Gw rfl) (JX _ _ _ _ _ _ _ _ _ _) GE (G3 _ _ _ _ _ _ _ _ _ _) 0 rfl (by rfl) ?_; clear Ga; intro WS4 Ga; simp only [Ge, Gf] at Ga))
 refine GA rfl ?_; go_wp2_with fail; refine Gh ?_
 refine G5 ?_
 go_wp2_with fail
 refine He rfl rfl rfl rfl (Ga.get 0 rfl) uz69 rfl GE (G3 _ _ _ _ _ _ _ _ _ _) ?_
 exact HQ.out _ Ga.forget
theorem ransw_take (key : List UInt8) (K : Option Addr) (m mc : Nat) (s : DkS) (l : List UInt8) (A : Option Addr) (n c : Nat) (w : World) (hk : SlR w K m mc 1 (GK key)) (hm : m ≤ 140737488351232) (hx : SlR w A n c 34 (H6 s.ns)) (hok : DkOk s) (hl : l.length ≤ 140737488351232) (Q : Ending → World → Prop)
  (c1 : l = KM)
  (hQ : ∀ w', St w w' [] → Q (.returned (.tuple #[.agg (Kv K m mc A n c (Jp key s l).1), .string (GZ (N3 (Jp key s l).2))])) w') :
  Calls Tryz.prog 28 #[.agg (Kv K m mc A n c s), .string (GZ l)] w Q := by
 have Ga := St.refl w
 have HX := Gg hx
 have HK := Gg hk
 obtain ⟨hg, hj⟩ := hok
 have hn := hg.len
 have hln : s.ns.length = n := by have := hx.1; rw [JB] at this; omega
 have HQ := Gg hQ
 have HHd := Gg (fun (w' : World) (h1 : SlR w' K m mc 1 (GK key)) (h2 : SlR w' A n c 34 (H6 s.ns)) => N4 key K m mc s.ns A n c w' h1 h2 hg (by omega))
 have HB1 := Gg (fun w' => JV l Mj w' (by decide))
 have HB2 := Gg (fun w' => JV l Nk w' (by decide))
 have hTk := take_honest key hj hn
 rewrite [show tagN key (s.ns.length : Int) (G4 (lvN s.ns)) (Jz s.ns) = Mc key s.ns from rfl] at hTk
 have HA := Gg (show Kv K m mc A n c (Jp key s l).1 = J9 K m mc A n c (n : Int) (G4 (lvN s.ns)) (Jz s.ns) (Mc key s.ns) ∧ N3 (Jp key s l).2 = tOk by
  rw [c1, ans_take]
  refine ⟨?_, rfl⟩
  unfold Kv
  simp only [List.take_length]
  rw [hln])
 rewrite [HA.out.1, HA.out.2] at HQ
 have HD1 := Gg (show decide (l = Ki) = false from decide_eq_false (by rw [c1]; decide))
 have HD2 := Gg (show decide (l = Kw) = false from decide_eq_false (by rw [c1]; decide))
 have HD3 := Gg (show decide (l = KM) = true from decide_eq_true c1)
 rewrite [hln] at hTk
 clear HA c1
 by_cases hj0 : s.j = 0
 ·have hpr : prfN s.ns s.j = [] := if_pos hj0
  rewrite [hpr] at hTk
  have HTk := Gg (fun (w' : World) (h1 : SlR w' K m mc 1 (GK key)) => by
   have := rtaken_any key K m mc (s.j : Int) (G4 (lvN (s.ns.take s.j))) (Jz (s.ns.take s.j)) s.z (n : Int) (G4 (lvN s.ns)) (Jz s.ns) (Mc key s.ns) [] none 0 0 w' h1 (by omega) (SlR.nil_ w' 32) (by omega)
   rewrite [hTk] at this
   exact this)
  have e0 : decide ((0 : Int) < (s.j : Int)) = false := by rw [hj0]; decide
  have e1 : decide (0 < s.j) = false := by rw [hj0]; decide
  have e2 : ¬ 0 < s.j := by omega
  unfold Kv at *
  generalize G4 (lvN (s.ns.take s.j)) = rx at *
  generalize Jz (s.ns.take s.j) = ry at *
  generalize G4 (lvN s.ns) = rt at *
  generalize Jz s.ns = mp at *
  generalize Mc key s.ns = hr at *
  clear hk hx hg hQ HB1 HB2 hTk hpr hj0
  go_enter Tryz.func28, Tryz.ntmps28
  go_upto_region 1 with (go_big_may; first | (refine Gm 2 rfl (Gw rfl) ?_; (try clear Gb); intro g2 W2 Gb; replace Ga := Ga.tr1 Gb) | (refine Gk 4 rfl GE ?_; (try clear Gb); intro g4 W4 Gb; replace Ga := Ga.tr1 Gb))
  go_upto_region 3 with (go_big_may; (refine Ja (d := some 25) (u := Ki) rfl rfl rfl (by kernel_rfl) uz9 (Gw rfl) GT ?_; rewrite [HD1.out]))
  go_upto_region 5 with (go_big_may; (refine Ja (d := some 32) (u := Kw) rfl rfl rfl (by kernel_rfl) uz9 (Gw rfl) GT ?_; rewrite [HD2.out]))
  go_upto_region 6 with (go_big_may; (refine Ja (d := some 38) (u := KM) rfl rfl rfl (by kernel_rfl) uz9 (Gw rfl) GT ?_; rewrite [HD3.out]))
  go_upto_region 7 with (go_big_may; first | (go_at_call 13; (try clear Gb); refine (HHd.out _ (Ga.old (by decide) HK.out) (Ga.old (by decide) HX.out)).mono ?_; rintro e Wh ⟨rfl, Gb⟩; replace Ga := Ga.keep Gb) | (refine Gn 40 rfl (by rfl) uz27 rfl GL (Pq (Ga.get 1 rfl)) (Hk _ _ _ _ _ _) ?_) | (refine Gk 6 rfl GS ?_; (try clear Gb); intro g6 W6 Gb; replace Ga := Ga.tr1 Gb) | ((refine Gr 6 41 Ga rfl (by rfl) (Gw rfl) (Jr _ _ _ _) GS (GR _ _ _ _) 0 rfl (by rfl) ?_; clear Ga; intro WS4 Ga; simp only [Ge, Gf, NP _ _ _ _ _ _ _ _ _ _ _ _ _ _] at Ga)))
  go_upto_region 8 with (go_big_may; fail)
  go_upto_region 10 with (go_big_may; (refine Gj 44 rfl (by rfl) uz3 rfl (Gy (Ga.get 2 rfl) rdArr_2) ?_))
  go_upto_region 11 with (go_big_may; first | (go_at_call 68; (try clear Gb); refine (HTk.out _ (Ga.old (by decide) HK.out)).mono ?_; rintro e Wk3 ⟨rfl, Gb⟩; replace Ga := Ga.keep Gb) | (refine Gj 55 rfl (by rfl) uz22 rfl (Gy (Ga.get 2 rfl) rdArr_0) ?_) | (refine Gn 57 rfl (by rfl) uz41 rfl GS (rdArr_h (Ga.get 2 rfl)) (GR _ _ _ _) ?_) | (refine Gl 58 rfl (by rfl) uz41 rfl GS (Ga.get 0 rfl) (GR _ _ _ _) ?_))
  go_upto_region 13 with (go_big_may; fail)
  go_upto_region 14 with (go_big_may; first | (refine Gl 66 rfl (by rfl) uz41 rfl GS (Ga.get 0 rfl) (GR _ _ _ _) ?_) | ((refine Gs 67 66 Ga rfl (by rfl) (Gw rfl) (Jr _ _ _ _) GS (GR _ _ _ _) 2 rfl (by (rw [G3 _ _ _ _ _ _ _ _ _ _]; decide)) ?_; clear Ga; intro WS2 Ga; simp only [Ge, Gf, NP _ _ _ _ _ _ _ _ _ _ _ _ _ _] at Ga)))
  go_wp2_with (first | (refine Gl 68 rfl (by rfl) uz69 rfl GE (Ga.get 2 rfl) (G3 _ _ _ _ _ _ _ _ _ _) ?_) | ((refine Gr 4 68 Ga rfl (by rfl) (Gw rfl) (JX _ _ _ _ _ _ _ _ _ _) GE (G3 _ _ _ _ _ _ _ _ _ _) 1 rfl (by rfl) ?_; clear Ga; intro WS1 Ga; simp only [Ge, Gf, NP _ _ _ _ _ _ _ _ _ _ _ _ _ _] at Ga)))
  refine He rfl rfl rfl rfl (Ga.get 1 rfl) uz69 rfl GE (G3 _ _ _ _ _ _ _ _ _ _) ?_
  exact HQ.out _ Ga.forget
 ·have hpr : prfN s.ns s.j = gpN (lvN s.ns) s.j true := if_neg hj0
  rewrite [hpr] at hTk
  have hok' := hg.ok
  have HLv := Gg (fun (w' : World) (h : SlR w' A n c 34 (H6 s.ns)) => PU K m mc s.ns A n c w' h hok' (by omega))
  have HPr := Gg (fun (w' : World) (Ol : Option Addr) (ol : Nat) (h : SlR w' Ol n ol 32 (GP (lvN s.ns))) => rproof_any n (lvN s.ns) Ol ol s.j true w' h (by omega) (by omega) (by omega))
  have HTk := Gg (fun (w' : World) (O : Option Addr) (k oc : Nat) (h1 : SlR w' K m mc 1 (GK key)) (h2 : SlR w' O k oc 32 (GP (gpN (lvN s.ns) s.j true))) => by
   have := rtaken_any key K m mc (s.j : Int) (G4 (lvN (s.ns.take s.j))) (Jz (s.ns.take s.j)) s.z (n : Int) (G4 (lvN s.ns)) (Jz s.ns) (Mc key s.ns) (gpN (lvN s.ns) s.j true) O k oc w' h1 (by omega) h2 (by omega)
   rewrite [hTk] at this
   exact this)
  have p1 : 0 < s.j := by omega
  have p2 : (0 : Int) < (s.j : Int) := by omega
  have e1 : decide (0 < s.j) = true := decide_eq_true p1
  unfold Kv at *
  generalize gpN (lvN s.ns) s.j true = gpf at *
  generalize plN n s.j true = pl at *
  generalize G4 (lvN (s.ns.take s.j)) = rx at *
  generalize Jz (s.ns.take s.j) = ry at *
  generalize G4 (lvN s.ns) = rt at *
  generalize Jz s.ns = mp at *
  generalize Mc key s.ns = hr at *
  clear hk hx hg hQ HB1 HB2 hTk hpr hj0
  go_enter Tryz.func28, Tryz.ntmps28
  go_upto_region 1 with (go_big_may; first | (refine Gm 2 rfl (Gw rfl) ?_; (try clear Gb); intro g2 W2 Gb; replace Ga := Ga.tr1 Gb) | (refine Gk 4 rfl GE ?_; (try clear Gb); intro g4 W4 Gb; replace Ga := Ga.tr1 Gb))
  go_upto_region 3 with (go_big_may; (refine Ja (d := some 25) (u := Ki) rfl rfl rfl (by kernel_rfl) uz9 (Gw rfl) GT ?_; rewrite [HD1.out]))
  go_upto_region 5 with (go_big_may; (refine Ja (d := some 32) (u := Kw) rfl rfl rfl (by kernel_rfl) uz9 (Gw rfl) GT ?_; rewrite [HD2.out]))
  go_upto_region 6 with (go_big_may; (refine Ja (d := some 38) (u := KM) rfl rfl rfl (by kernel_rfl) uz9 (Gw rfl) GT ?_; rewrite [HD3.out]))
  go_upto_region 7 with (go_big_may; first | (go_at_call 13; (try clear Gb); refine (HHd.out _ (Ga.old (by decide) HK.out) (Ga.old (by decide) HX.out)).mono ?_; rintro e Wh ⟨rfl, Gb⟩; replace Ga := Ga.keep Gb) | (refine Gn 40 rfl (by rfl) uz27 rfl GL (Pq (Ga.get 1 rfl)) (Hk _ _ _ _ _ _) ?_) | (refine Gk 6 rfl GS ?_; (try clear Gb); intro g6 W6 Gb; replace Ga := Ga.tr1 Gb) | ((refine Gr 6 41 Ga rfl (by rfl) (Gw rfl) (Jr _ _ _ _) GS (GR _ _ _ _) 0 rfl (by rfl) ?_; clear Ga; intro WS4 Ga; simp only [Ge, Gf] at Ga)))
  go_upto_region 8 with (go_big_may; fail)
  go_upto_region 9 with (go_big_may; (refine Gj 44 rfl (by rfl) uz3 rfl (Gy (Ga.get 2 rfl) rdArr_2) ?_))
  (try clear Gb)
  refine GO [(0, 0), (1, 0), (3, 0), (4, 0), (5, 0), (2, 2), (6, 2), (7, 2)] (by kernel_rfl) (by kernel_rfl) ?_
  replace Ga := Ga.drew
  refine H8 rfl rfl (by kernel_rfl) ?_; go_wp2_with fail
  refine GG rfl rfl ?_; go_wp2_with ((refine Gn 47 rfl (by rfl) uz27 rfl GL (Pq (Ga.get 2 rfl)) (Hk _ _ _ _ _ _) ?_))
  refine H8 rfl rfl (by kernel_rfl) ?_; go_wp2_with fail
  refine H8 rfl rfl (by kernel_rfl) ?_; go_wp2_with fail
  refine GG rfl rfl ?_; go_wp2_with (refine Gj 51 rfl (by rfl) uz3 rfl (Gy (Ga.get 2 rfl) rdArr_2) ?_)
  refine GA rfl ?_; go_wp2_with ((go_at_call 18; (try clear Gb); refine (HLv.out _ (Ga.old (by decide) HX.out)).mono ?_; rintro e Wl ⟨Ol, ol, rfl, Gb⟩; replace Ga := Ga.trans Gb; simp only [Gc, Gd] at Ga)); refine Gi Gb ?_
  refine GA rfl ?_; go_wp2_with ((go_at_call 17; (try clear Gb); refine (HPr.out _ _ _ (Ga.sl 0 rfl)).mono ?_; rintro e Wp ⟨Op, op, rfl, Gb⟩; replace Ga := Ga.trans Gb; simp only [Gc, Gd] at Ga)); refine Gi Gb ?_
  refine GA rfl ?_; go_wp2_with fail; refine Gh ?_
  refine G5 ?_
  (try clear Gb)
  go_upto_region 11 with (go_big_may; first | (go_at_call 68; (try clear Gb); refine (HTk.out _ _ _ _ (Ga.old (by decide) HK.out) (Ga.sl 0 rfl)).mono ?_; rintro e Wk4 ⟨rfl, Gb⟩; replace Ga := Ga.keep Gb) | (refine Gj 55 rfl (by rfl) uz22 rfl (Gy (Ga.get 4 rfl) rdArr_0) ?_) | (refine Gn 57 rfl (by rfl) uz41 rfl GS (rdArr_h (Ga.get 4 rfl)) (GR _ _ _ _) ?_) | (refine Gl 58 rfl (by rfl) uz41 rfl GS (Ga.get 2 rfl) (GR _ _ _ _) ?_))
  go_upto_region 13 with (go_big_may; fail)
  go_upto_region 14 with (go_big_may; first | (refine Gl 66 rfl (by rfl) uz41 rfl GS (Ga.get 2 rfl) (GR _ _ _ _) ?_) | ((refine Gs 67 66 Ga rfl (by rfl) (Gw rfl) (Jr _ _ _ _) GS (GR _ _ _ _) 4 rfl (by (rw [G3 _ _ _ _ _ _ _ _ _ _]; decide)) ?_; clear Ga; intro WS2 Ga; simp only [Ge, Gf, NP _ _ _ _ _ _ _ _ _ _ _ _ _ _] at Ga)))
  go_wp2_with (first | (refine Gl 68 rfl (by rfl) uz69 rfl GE (Ga.get 4 rfl) (G3 _ _ _ _ _ _ _ _ _ _) ?_) | ((refine Gr 4 68 Ga rfl (by rfl) (Gw rfl) (JX _ _ _ _ _ _ _ _ _ _) GE (G3 _ _ _ _ _ _ _ _ _ _) 3 rfl (by rfl) ?_; clear Ga; intro WS1 Ga; simp only [Ge, Gf, NP _ _ _ _ _ _ _ _ _ _ _ _ _ _] at Ga)))
  refine He rfl rfl rfl rfl (Ga.get 3 rfl) uz69 rfl GE (G3 _ _ _ _ _ _ _ _ _ _) ?_
  exact HQ.out _ Ga.forget
theorem ransw_none (key : List UInt8) (K : Option Addr) (m mc : Nat) (s : DkS) (l : List UInt8) (A : Option Addr) (n c : Nat) (w : World) (hk : SlR w K m mc 1 (GK key)) (hm : m ≤ 140737488351232) (hx : SlR w A n c 34 (H6 s.ns)) (hok : DkOk s) (hl : l.length ≤ 140737488351232) (Q : Ending → World → Prop)
  (c1 : ¬ l = Ki) (c2 : ¬ l = Kw) (c3 : ¬ l = KM) (c4 : NU l Mj = false) (c5 : NU l Nk = false)
  (hQ : ∀ w', St w w' [] → Q (.returned (.tuple #[.agg (Kv K m mc A n c (Jp key s l).1), .string (GZ (N3 (Jp key s l).2))])) w') :
  Calls Tryz.prog 28 #[.agg (Kv K m mc A n c s), .string (GZ l)] w Q := by
 have Ga := St.refl w
 have HX := Gg hx
 have HK := Gg hk
 obtain ⟨hg, hj⟩ := hok
 have hn := hg.len
 have hln : s.ns.length = n := by have := hx.1; rw [JB] at this; omega
 have HQ := Gg hQ
 have HHd := Gg (fun (w' : World) (h1 : SlR w' K m mc 1 (GK key)) (h2 : SlR w' A n c 34 (H6 s.ns)) => N4 key K m mc s.ns A n c w' h1 h2 hg (by omega))
 have HB1 := Gg (fun w' => JV l Mj w' (by decide))
 have HB2 := Gg (fun w' => JV l Nk w' (by decide))
 have HA := Gg (show Kv K m mc A n c (Jp key s l).1 = Kv K m mc A n c s ∧ N3 (Jp key s l).2 = Pa 1 by
  unfold Jp
  rw [if_neg c1, if_neg c2, if_neg c3, if_neg (by rw [c4]; decide), if_neg (by rw [c5]; decide)]
  exact ⟨rfl, rfl⟩)
 rewrite [HA.out.1, HA.out.2] at HQ
 have HD1 := Gg (show decide (l = Ki) = false from decide_eq_false c1)
 have HD2 := Gg (show decide (l = Kw) = false from decide_eq_false c2)
 have HD3 := Gg (show decide (l = KM) = false from decide_eq_false c3)
 rewrite [c4] at HB1
 rewrite [c5] at HB2
 unfold Kv at *
 generalize G4 (lvN (s.ns.take s.j)) = rx at *
 generalize Jz (s.ns.take s.j) = ry at *
 clear hk hx hg hQ HA c1 c2 c3 c4 c5 HHd
 go_enter Tryz.func28, Tryz.ntmps28
 go_upto_region 1 with (go_big_may; first | (refine Gm 2 rfl (Gw rfl) ?_; (try clear Gb); intro g2 W2 Gb; replace Ga := Ga.tr1 Gb) | (refine Gk 4 rfl GE ?_; (try clear Gb); intro g4 W4 Gb; replace Ga := Ga.tr1 Gb))
 go_upto_region 3 with (go_big_may; (refine Ja (d := some 25) (u := Ki) rfl rfl rfl (by kernel_rfl) uz9 (Gw rfl) GT ?_; rewrite [HD1.out]))
 go_upto_region 5 with (go_big_may; (refine Ja (d := some 32) (u := Kw) rfl rfl rfl (by kernel_rfl) uz9 (Gw rfl) GT ?_; rewrite [HD2.out]))
 go_upto_region 15 with (go_big_may; (refine Ja (d := some 38) (u := KM) rfl rfl rfl (by kernel_rfl) uz9 (Gw rfl) GT ?_; rewrite [HD3.out]))
 go_upto_region 27 with (go_big_may; (go_at_call_of 70 (Value.string ⟨#[102, 105, 110, 100, 32]⟩); (try clear Gb); refine (HB1.out _).mono ?_; rintro e Wh ⟨rfl, Gb⟩; replace Ga := Ga.keep Gb))
 go_upto_region 47 with (go_big_may; (go_at_call_of 70 (Value.string ⟨#[97, 100, 100, 32]⟩); (try clear Gb); refine (HB2.out _).mono ?_; rintro e Wh ⟨rfl, Gb⟩; replace Ga := Ga.keep Gb))
 go_wp2_with (first | (refine Gl 181 rfl (by rfl) uz69 rfl GE (Ga.get 1 rfl) (G3 _ _ _ _ _ _ _ _ _ _) ?_) | ((refine Gr 4 181 Ga rfl (by rfl) (Gw rfl) (JX _ _ _ _ _ _ _ _ _ _) GE (G3 _ _ _ _ _ _ _ _ _ _) 0 rfl (by rfl) ?_; clear Ga; intro WS1 Ga; simp only [Ge, Gf] at Ga)))
 refine He rfl rfl rfl rfl (Ga.get 0 rfl) uz69 rfl GE (G3 _ _ _ _ _ _ _ _ _ _) ?_
 exact HQ.out _ Ga.forget
end
section
open Go.RowKit
attribute [local simp] GR GN
def tellN : Option NoteN → List UInt8
 | none => tNone
 | some n => NB n.key.l ++ [32] ++ Lib.itoa n.turn
theorem findN_nm {ns : List NoteN} (h : Logged ns) (s : List UInt8) : (Jd ns s).note.name.length ≤ 9223372036854775807 := by
 unfold Jd
 split
 ·split
  ·rename_i i hi
   obtain ⟨n, h1, _⟩ := JO hi
   simp only [h1, Option.getD_some]
   have := (J0 (h.nm n (List.mem_of_getElem? h1))).2
   omega
  ·exact Nat.zero_le _
 ·exact Nat.zero_le _
theorem ransw_find (key : List UInt8) (K : Option Addr) (m mc : Nat) (s : DkS) (l : List UInt8) (A : Option Addr) (n c : Nat) (w : World) (hk : SlR w K m mc 1 (GK key)) (hm : m ≤ 140737488351232) (hx : SlR w A n c 34 (H6 s.ns)) (hok : DkOk s) (hl : l.length ≤ 140737488351232) (Q : Ending → World → Prop)
  (hf : NU l Mj = true)
  (hQ : ∀ w', St w w' [] → Q (.returned (.tuple #[.agg (Kv K m mc A n c (Jp key s l).1), .string (GZ (N3 (Jp key s l).2))])) w') :
  Calls Tryz.prog 28 #[.agg (Kv K m mc A n c s), .string (GZ l)] w Q := by
 have Ga := St.refl w
 have HX := Gg hx
 have HK := Gg hk
 obtain ⟨hg, hj⟩ := hok
 have hn := hg.len
 have hln : s.ns.length = n := by have := hx.1; rw [JB] at this; omega
 have HHd := Gg (fun (w' : World) (h1 : SlR w' K m mc 1 (GK key)) (h2 : SlR w' A n c 34 (H6 s.ns)) => N4 key K m mc s.ns A n c w' h1 h2 hg (by omega))
 have HB1 := Gg (fun w' => JV l Mj w' (by decide))
 rewrite [hf] at HB1
 have n1 : ¬ l = Ki := fun h => by rw [h] at hf; revert hf; decide
 have n2 : ¬ l = Kw := fun h => by rw [h] at hf; revert hf; decide
 have n3 : ¬ l = KM := fun h => by rw [h] at hf; revert hf; decide
 have hl5 : 5 ≤ l.length := by
  have := of_decide_eq_true hf
  have := congrArg List.length this
  rw [List.length_take] at this
  have h5 : Mj.length = 5 := rfl
  omega
 have hA : Jp key s l = (s, N2 s.ns (l.drop 5)) := by
  unfold Jp
  rw [if_neg n1, if_neg n2, if_neg n3, if_pos hf]
 rewrite [hA] at hQ
 simp only at hQ
 have HD1 := Gg (show decide (l = Ki) = false from decide_eq_false n1)
 have HD2 := Gg (show decide (l = Kw) = false from decide_eq_false n2)
 have HD3 := Gg (show decide (l = KM) = false from decide_eq_false n3)
 have htl : (l.drop 5).length ≤ 140737488351232 := by rw [List.length_drop]; omega
 obtain ⟨t, ht⟩ : ∃ t, t = l.drop 5 := ⟨_, rfl⟩
 rewrite [← ht] at hQ htl
 have HTt := Gg ht.symm
 clear hA ht n1 n2 n3 hf hm
 have HFi := Gg (fun (w' : World) (h : SlR w' A n c 34 (H6 s.ns)) => rfoundU_any K m mc s.ns t A n c w' h hg (by omega))
 have hnm := findN_nm hg t
 have hft := findN_turn hg t
 have HLk := Gg (fun (w' : World) (z : Dig) (A B : Option Addr) (c q : Nat) h1 h2 => looked_any (n : Int) (G4 (lvN s.ns)) (Jz s.ns) z t (Jd s.ns t) A (Jd s.ns t).path.length c B (Jd s.ns t).mpath.length q w' (by omega) hnm h1 h2 (by omega) (by omega))
 have hfT : N2 s.ns t = (if (PT s.ns t).1 = 0 then (0, tellN (PT s.ns t).2) else ((PT s.ns t).1, [])) := by
  unfold N2 tellN
  rfl
 have hfR : PT s.ns t = PQ (n : Int) (G4 (lvN s.ns)) (Jz s.ns) t (Jd s.ns t) := by unfold PT; rw [hln]
 have hr9 := lookN_le (n : Int) (G4 (lvN s.ns)) (Jz s.ns) t (Jd s.ns t)
 have hsm := fun nt => lookN_some (n := (n : Int)) (x := G4 (lvN s.ns)) (y := Jz s.ns) (s := t) (f := Jd s.ns t) (nt := nt)
 by_cases hs : JM t = true
 case neg =>
  have hs' : JM t = false := by simpa using hs
  have hf : N2 s.ns t = (1, []) := by rw [hfT, findR_no hs']; rfl
  rewrite [hf, show N3 (1, []) = Pa 1 from rfl] at hQ
  rewrite [findE_no hs', findN_no hs'] at HFi
  have HEr := Gg (fun w' => errTx_any 1 (by decide) w')
  have HQ := Gg hQ
  unfold Kv at *
  generalize Pa 1 = et at *
  generalize G4 (lvN (s.ns.take s.j)) = rx at *
  generalize Jz (s.ns.take s.j) = ry at *
  clear HLk hft hnm hfT hfR hr9 hsm hs hs' hf hg hj hx hk hQ HHd
  go_enter Tryz.func28, Tryz.ntmps28
  go_upto_region 1 with (go_big_may; first | (refine Gm 2 rfl (Gw rfl) ?_; (try clear Gb); intro g2 W2 Gb; replace Ga := Ga.tr1 Gb) | (refine Gk 4 rfl GE ?_; (try clear Gb); intro g4 W4 Gb; replace Ga := Ga.tr1 Gb))
  go_upto_region 3 with (go_big_may; (refine Ja (d := some 25) (u := Ki) rfl rfl rfl (by kernel_rfl) uz9 (Gw rfl) GT ?_; rewrite [HD1.out]))
  go_upto_region 5 with (go_big_may; (refine Ja (d := some 32) (u := Kw) rfl rfl rfl (by kernel_rfl) uz9 (Gw rfl) GT ?_; rewrite [HD2.out]))
  go_upto_region 15 with (go_big_may; (refine Ja (d := some 38) (u := KM) rfl rfl rfl (by kernel_rfl) uz9 (Gw rfl) GT ?_; rewrite [HD3.out]))
  go_upto_region 16 with (go_big_may; (go_at_call_of 70 (Value.string ⟨#[102, 105, 110, 100, 32]⟩); (try clear Gb); refine (HB1.out _).mono ?_; rintro e Wh ⟨rfl, Gb⟩; replace Ga := Ga.keep Gb))
  go_upto_region 17 with (go_big_may; (refine ME (d := some 72) rfl rfl rfl uz9 (Gw rfl) GT 5 rfl hl5 ?_; rewrite [HTt.out]))
  go_upto_region 18 with (go_big_may; first | (go_at_call 14; (try clear Gb); refine (HFi.out _ (Ga.old (by decide) HX.out)).mono ?_; rintro e Wf ⟨A1, c1, B1, d1, rfl, Gb⟩; replace Ga := Ga.trans Gb; simp only [Gc, Gd] at Ga) | (refine Gn 75 rfl (by rfl) uz27 rfl GL (Pq (Ga.get 1 rfl)) (Hk _ _ _ _ _ _) ?_) | (refine Gk 10 rfl G1 ?_; (try clear Gb); intro g10 W10 Gb; replace Ga := Ga.tr1 Gb) | ((refine Gr 10 78 Ga rfl (by rfl) (Gw rfl) (Ky _ _ _ _ _ _ _ _ _ _) G1 (by rfl) 0 rfl (by rfl) ?_; clear Ga; intro WS8 Ga; simp only [Ge, Gf] at Ga)))
  go_upto_region 19 with (go_big_may; fail)
  (try clear Gb)
  refine GO [(0, 0), (1, 2), (2, 2), (3, 1), (4, 2)] (by kernel_rfl) (by kernel_rfl) ?_
  replace Ga := Ga.drew
  refine GG rfl rfl ?_; go_wp2_with ((refine Gl 82 rfl (by rfl) uz69 rfl GE (Ga.get 4 rfl) (G3 _ _ _ _ _ _ _ _ _ _) ?_))
  refine GA rfl ?_; go_wp2_with fail; refine Gh ?_
  refine GA rfl ?_; go_wp2_with ((go_at_call 69; (try clear Gb); refine (HEr.out _).mono ?_; rintro e Wk1 ⟨rfl, Gb⟩; replace Ga := Ga.keep Gb)); refine Gi Gb ?_
  refine J6 rfl ?_; go_wp2_with ((refine Gr 4 82 Ga rfl (by rfl) (Gw rfl) (JX _ _ _ _ _ _ _ _ _ _) GE (G3 _ _ _ _ _ _ _ _ _ _) 3 rfl (by rfl) ?_; clear Ga; intro WS3 Ga; simp only [Ge, Gf] at Ga))
  refine GA rfl ?_; go_wp2_with fail; refine Gh ?_
  refine G5 ?_
  go_wp2_with fail
  refine He rfl rfl rfl rfl (Ga.get 3 rfl) uz69 rfl GE (G3 _ _ _ _ _ _ _ _ _ _) ?_
  exact HQ.out _ Ga.forget
 rewrite [findE_yes hs] at HFi
 rewrite [hfR] at hfT
 unfold lookQ at HLk
 generalize N2 s.ns t = ft at hfT hQ
 generalize PQ (n : Int) (G4 (lvN s.ns)) (Jz s.ns) t (Jd s.ns t) = r at *
 obtain ⟨r1, o⟩ := r
 simp only at *
 unfold NoteN.arr at HLk
 have hq : N3 ft = if r1 = 0 then tellN o else Pa r1 := by
  rw [hfT]
  unfold N3
  by_cases h : r1 = 0
  ·rw [if_pos h, if_pos h]; rfl
  ·rw [if_neg h, if_neg h, if_neg h]
 rewrite [hq] at hQ
 clear hq hfT hfR
 have HEr := Gg (fun w' => errTx_any r1 hr9 w')
 have HQ := Gg hQ
 unfold Kv at *
 generalize G4 (lvN (s.ns.take s.j)) = rx at *
 generalize Jz (s.ns.take s.j) = ry at *
 generalize G4 (lvN s.ns) = rt at *
 generalize Jz s.ns = mp at *
 generalize Mc key s.ns = hr at *
 generalize Jd s.ns t = fd at *
 obtain ⟨⟨a1, a2, a3⟩, a4, a5, a6⟩ := fd
 simp only at *
 obtain ⟨l5, hl5'⟩ : ∃ l, l = a5.length := ⟨_, rfl⟩
 obtain ⟨l6, hl6'⟩ : ∃ l, l = a6.length := ⟨_, rfl⟩
 rewrite [← hl5', ← hl6'] at HFi HLk
 clear hl5' hl6' hs hg hj hx hk hQ hft hnm
 go_enter Tryz.func28, Tryz.ntmps28
 go_upto_region 1 with (go_big_may; first | (refine Gm 2 rfl (Gw rfl) ?_; (try clear Gb); intro g2 W2 Gb; replace Ga := Ga.tr1 Gb) | (refine Gk 4 rfl GE ?_; (try clear Gb); intro g4 W4 Gb; replace Ga := Ga.tr1 Gb))
 go_upto_region 3 with (go_big_may; (refine Ja (d := some 25) (u := Ki) rfl rfl rfl (by kernel_rfl) uz9 (Gw rfl) GT ?_; rewrite [HD1.out]))
 go_upto_region 5 with (go_big_may; (refine Ja (d := some 32) (u := Kw) rfl rfl rfl (by kernel_rfl) uz9 (Gw rfl) GT ?_; rewrite [HD2.out]))
 go_upto_region 15 with (go_big_may; (refine Ja (d := some 38) (u := KM) rfl rfl rfl (by kernel_rfl) uz9 (Gw rfl) GT ?_; rewrite [HD3.out]))
 go_upto_region 16 with (go_big_may; (go_at_call_of 70 (Value.string ⟨#[102, 105, 110, 100, 32]⟩); (try clear Gb); refine (HB1.out _).mono ?_; rintro e Wh ⟨rfl, Gb⟩; replace Ga := Ga.keep Gb))
 go_upto_region 17 with (go_big_may; (refine ME (d := some 72) rfl rfl rfl uz9 (Gw rfl) GT 5 rfl hl5 ?_; rewrite [HTt.out]))
 go_upto_region 18 with (go_big_may; first | (go_at_call 14; (try clear Gb); refine (HFi.out _ (Ga.old (by decide) HX.out)).mono ?_; rintro e Wf ⟨A1, c1, B1, d1, rfl, Gb⟩; replace Ga := Ga.trans Gb; simp only [Gc, Gd] at Ga) | (refine Gn 75 rfl (by rfl) uz27 rfl GL (Pq (Ga.get 1 rfl)) (Hk _ _ _ _ _ _) ?_) | (refine Gk 10 rfl G1 ?_; (try clear Gb); intro g10 W10 Gb; replace Ga := Ga.tr1 Gb) | ((refine Gr 10 78 Ga rfl (by rfl) (Gw rfl) (Ky _ _ _ _ _ _ _ _ _ _) G1 (Ji _ _ _ _ _ _ _ _ _ _) 0 rfl (by rfl) ?_; clear Ga; intro WS8 Ga; simp only [Ge, Gf] at Ga)))
 go_upto_region 20 with (go_big_may; fail)
 (try clear Gb)
 clear HFi HB1
 go_simp
 go_cut [12, 13, 11] (fun s12 s13 s11 wx => ∃ (g12 : Nat), s12 = .pointer (some ⟨g12, 0, none⟩) ∧ s13 = .bool o.isSome ∧ s11 = .int .i64 (r1 : Int) ∧ St w wx [.blk g12 34 (Ha (o.getD ND).name (o.getD ND).key (o.getD ND).turn), .blk g4 69 (J9 none 0 0 none 0 0 0 GM GM GM), .blk g2 69 (J9 K m mc A n c (s.j : Int) rx ry s.z)])
 case first =>
  refine Ht (.one 3 3 (.one 0 0 (.one 1 0 (.one 4 0 (.two 2 2 (.two 5 2 (.one 6 3 (.one 7 3 (.one 8 3 (.one 9 3 (.one 10 2 (.one 11 1 (.one 12 2 (.one 13 2 .nil)))))))) 10 2 (.one 5 2 (.one 6 2 (.one 7 3 (.one 8 3 (.one 9 3 (.one 11 1 (.one 12 2 (.one 13 2 .nil))))))))) 10 2 (.one 2 2 (.one 5 2 (.one 6 2 (.one 7 3 (.one 8 3 (.one 9 3 (.one 11 1 (.one 12 2 (.one 13 2 .nil)))))))))))))) (by kernel_rfl) (by kernel_rfl) ?_
  replace Ga := Ga.drew
  refine Jj rfl rfl ?_; go_wp2_with fail
  refine Pc rfl rfl (by kernel_rfl) ?_; go_wp2_with fail
  refine Kl rfl rfl ?_; go_wp2_with ((refine Gn 87 rfl (by rfl) uz27 rfl GL (Pq (Ga.get 4 rfl)) (Hk _ _ _ _ _ _) ?_))
  refine Kl rfl rfl ?_; go_wp2_with ((refine Gl 90 rfl (by rfl) uz46 rfl G1 (Ga.get 0 rfl) (Ji _ _ _ _ _ _ _ _ _ _) ?_))
  refine JF (ki := 2) (kj := 2) rfl rfl ?_ ?_
  ·go_wp2_with ((go_at_call 13; (try clear Gb); refine (HHd.out _ (Ga.old (by decide) HK.out) (Ga.old (by decide) HX.out)).mono ?_; rintro e Wh ⟨rfl, Gb⟩; replace Ga := Ga.keep Gb)); refine ⟨fun _ => (Gb.below), ?_⟩
   refine JF (ki := 2) (kj := 2) rfl rfl ?_ ?_
   ·go_wp2_with ((go_at_call 21; (try clear Gb); refine (HLk.out _ _ _ _ _ _ (Ga.sl 1 rfl) (Ga.sl 2 rfl)).mono ?_; rintro e Wl ⟨rfl, Gb⟩; replace Ga := Ga.keep Gb)); refine ⟨fun _ => (Gb.below), ?_⟩
    refine Jj rfl rfl ?_; go_wp2_with fail
    refine Jj rfl rfl ?_; go_wp2_with fail
    refine Jj rfl rfl ?_; go_wp2_with fail
    refine Jj rfl rfl ?_; go_wp2_with fail
    refine G6 rfl ?_; go_wp2_with (refine Gk 12 rfl GD ?_; (try clear Gb); intro g12 W12 Gb; replace Ga := Ga.tr1 Gb); refine Gi Gb ?_
    refine JA rfl ?_; go_wp2_with ((refine Gr 12 92 Ga rfl (by rfl) (Gw rfl) (Hg _ _ _) GD (GN _ _ _) 0 rfl (by rfl) ?_; clear Ga; intro WS11 Ga; simp only [Ge, Gf] at Ga))
    refine G6 rfl ?_; go_wp2_with fail; refine Gh ?_
    refine G6 rfl ?_; go_wp2_with fail; refine Gh ?_
    refine H5 ?_
    go_wp2_with fail
    go_meet
    case rel => exact ⟨_, rfl, rfl, rfl, Ga.pick [0, 4, 5] (by decide)⟩
   ·go_wp2_with (refine Gk 12 rfl GD ?_; (try clear Gb); intro g12 W12 Gb; replace Ga := Ga.tr1 Gb); refine ⟨fun _ => (Gb.below), ?_⟩
    refine G6 rfl ?_; go_wp2_with ((go_at_call 21; (try clear Gb); refine (HLk.out _ _ _ _ _ _ (Ga.sl 2 rfl) (Ga.sl 3 rfl)).mono ?_; rintro e Wl ⟨rfl, Gb⟩; replace Ga := Ga.keep Gb)); refine Gi Gb ?_
    refine G6 rfl ?_; go_wp2_with fail; refine Gh ?_
    refine Jj rfl rfl ?_; go_wp2_with fail
    refine Jj rfl rfl ?_; go_wp2_with fail
    refine Jj rfl rfl ?_; go_wp2_with fail
    refine JA rfl ?_; go_wp2_with ((refine Gr 12 92 Ga rfl (by rfl) (Gw rfl) (Hg _ _ _) GD (GN _ _ _) 0 rfl (by rfl) ?_; clear Ga; intro WS11 Ga; simp only [Ge, Gf] at Ga))
    refine G6 rfl ?_; go_wp2_with fail; refine Gh ?_
    refine G6 rfl ?_; go_wp2_with fail; refine Gh ?_
    refine H5 ?_
    go_wp2_with fail
    go_meet
    case rel => exact ⟨_, rfl, rfl, rfl, Ga.pick [0, 4, 5] (by decide)⟩
  ·go_wp2_with (refine Gk 12 rfl GD ?_; (try clear Gb); intro g12 W12 Gb; replace Ga := Ga.tr1 Gb); refine ⟨fun _ => (Gb.below), ?_⟩
   refine G6 rfl ?_; go_wp2_with ((go_at_call 13; (try clear Gb); refine (HHd.out _ (Ga.old (by decide) HK.out) (Ga.old (by decide) HX.out)).mono ?_; rintro e Wh ⟨rfl, Gb⟩; replace Ga := Ga.keep Gb)); refine Gi Gb ?_
   refine G6 rfl ?_; go_wp2_with ((go_at_call 21; (try clear Gb); refine (HLk.out _ _ _ _ _ _ (Ga.sl 2 rfl) (Ga.sl 3 rfl)).mono ?_; rintro e Wl ⟨rfl, Gb⟩; replace Ga := Ga.keep Gb)); refine Gi Gb ?_
   refine G6 rfl ?_; go_wp2_with fail; refine Gh ?_
   refine Jj rfl rfl ?_; go_wp2_with fail
   refine Jj rfl rfl ?_; go_wp2_with fail
   refine Jj rfl rfl ?_; go_wp2_with fail
   refine JA rfl ?_; go_wp2_with ((refine Gr 12 92 Ga rfl (by rfl) (Gw rfl) (Hg _ _ _) GD (GN _ _ _) 0 rfl (by rfl) ?_; clear Ga; intro WS11 Ga; simp only [Ge, Gf] at Ga))
   refine G6 rfl ?_; go_wp2_with fail; refine Gh ?_
   refine G6 rfl ?_; go_wp2_with fail; refine Gh ?_
   refine H5 ?_
   go_wp2_with fail
   go_meet
   case rel => exact ⟨_, rfl, rfl, rfl, Ga.pick [0, 4, 5] (by decide)⟩
 case rest =>
  obtain ⟨g12, rfl, rfl, rfl, hst2⟩ := hcut
  clear Ga
  have Ga := hst2
  clear hst2
  clear HLk HHd
  by_cases hr0 : r1 = 0
  case neg =>
   rewrite [if_neg hr0] at HQ
   generalize Pa r1 = et at *
   have p1 : ((r1 : Int) != 0) = true := by rw [bne_iff_ne]; omega
   clear hr0 hr9 hsm
   go_upto_region 22 with (go_big_may; fail)
   refine GO [(0, 0), (1, 2), (2, 2), (3, 1), (4, 2)] (by kernel_rfl) (by kernel_rfl) ?_
   replace Ga := Ga.drew
   refine GG rfl rfl ?_; go_wp2_with ((refine Gl 97 rfl (by rfl) uz69 rfl GE (Ga.get 2 rfl) (G3 _ _ _ _ _ _ _ _ _ _) ?_))
   refine GA rfl ?_; go_wp2_with fail; refine Gh ?_
   refine GA rfl ?_; go_wp2_with ((go_at_call 69; (try clear Gb); refine (HEr.out _).mono ?_; rintro e Wk2 ⟨rfl, Gb⟩; replace Ga := Ga.keep Gb)); refine Gi Gb ?_
   refine J6 rfl ?_; go_wp2_with ((refine Gr 4 97 Ga rfl (by rfl) (Gw rfl) (JX _ _ _ _ _ _ _ _ _ _) GE (G3 _ _ _ _ _ _ _ _ _ _) 1 rfl (by rfl) ?_; clear Ga; intro WS3 Ga; simp only [Ge, Gf] at Ga))
   refine GA rfl ?_; go_wp2_with fail; refine Gh ?_
   refine G5 ?_
   go_wp2_with fail
   refine He rfl rfl rfl rfl (Ga.get 1 rfl) uz69 rfl GE (G3 _ _ _ _ _ _ _ _ _ _) ?_
   exact HQ.out _ Ga.forget
  subst hr0
  rewrite [if_pos rfl] at HQ
  clear HEr
  cases o with
  | none =>
   go_upto_region 23 with (go_big_may; fail)
   go_upto_region 24 with (go_big_may; fail)
   go_wp2_with (first | (refine Gl 102 rfl (by rfl) uz69 rfl GE (Ga.get 2 rfl) (G3 _ _ _ _ _ _ _ _ _ _) ?_) | ((refine Gr 4 102 Ga rfl (by rfl) (Gw rfl) (JX _ _ _ _ _ _ _ _ _ _) GE (G3 _ _ _ _ _ _ _ _ _ _) 1 rfl (by rfl) ?_; clear Ga; intro WS1 Ga; simp only [Ge, Gf] at Ga)))
   refine He rfl rfl rfl rfl (Ga.get 1 rfl) uz69 rfl GE (G3 _ _ _ _ _ _ _ _ _ _) ?_
   exact HQ.out _ Ga.forget
  | some nt =>
   obtain ⟨h1, h2⟩ := hsm nt rfl
   obtain ⟨b1, b2, b3⟩ := nt
   have hb3 : 0 ≤ b3 ∧ b3 < 4294967296 := by
    unfold JN at h2
    rw [Bool.and_eq_true] at h2
    exact of_decide_eq_true h2.2
   simp only [Option.getD_some, Option.isSome_some] at Ga ⊢
   clear h1 h2 hsm
   obtain ⟨k3, rfl⟩ := Int.eq_ofNat_of_zero_le hb3.1
   have HI := Gg (fun (w' : World) => rnumber_any k3 (by omega) w')
   have HXx := Gg (fun (A : Option Addr) (w' : World) (h : SlR w' A 32 32 1 (GK b2.l)) => show Calls Tryz.prog 71 #[.slice A 32 32] w' fun e w2 => e = .returned (.string (GZ (NB b2.l))) ∧ St w' w2 [] from rhex_any b2.l A 32 32 w' h (by decide))
   simp only [tellN, itoa_nat] at HQ
   have hx1 := P8 b2
   have hd1 := Ph k3
   generalize Lib.decDigits k3 = dn at *
   go_upto_region 23 with (go_big_may; fail)
   go_upto_region 25 with (go_big_may; fail)
   go_upto_region 26 with (go_big_may; first | (refine Gn 104 rfl (by rfl) uz32 rfl Gv (MG (Ga.get 0 rfl)) (Dig.size _) ?_) | (refine Gk 14 rfl Gv ?_; (try clear Gb); intro g14 W14 Gb; replace Ga := Ga.tr1 Gb) | ((refine Gr 14 104 Ga rfl (by rfl) (Gw rfl) (Dig.one _) Gv (Dig.size _) 0 rfl (by rfl) ?_; clear Ga; intro WS3 Ga; simp only [Ge, Gf] at Ga)))
   (try clear Gb)
   refine Ht (.one 0 0 (.one 1 0 (.one 4 0 (.one 5 0 (.one 2 2 (.one 3 3 (.one 6 2 (.one 7 3 (.one 8 1 (.one 9 2 .nil)))))))))) (by kernel_rfl) (by kernel_rfl) ?_
   replace Ga := Ga.drew
   refine Kl rfl rfl ?_; go_wp2_with ((refine Gl 105 rfl (by rfl) uz69 rfl GE (Ga.get 3 rfl) (G3 _ _ _ _ _ _ _ _ _ _) ?_))
   refine Kl rfl rfl ?_; go_wp2_with (refine Jx (d := some 106) rfl rfl rfl (by rfl) uz32 GF (Ga.get 0 rfl) (Dig.size _) (by decide) ?_; intro hs106)
   refine Pc rfl rfl (by kernel_rfl) ?_; go_wp2_with fail
   refine Kl rfl rfl ?_; go_wp2_with (refine Gj 110 rfl (by rfl) uz3 rfl (Gy (Ga.get 1 rfl) KN) ?_)
   refine G6 rfl ?_; go_wp2_with ((go_at_call 71; (try clear Gb); have h1 := slr_dig (Ga.get 0 rfl); refine (HXx.out _ _ h1).mono ?_; clear h1; rintro e Wx ⟨rfl, Gb⟩; replace Ga := Ga.keep Gb)); refine Gi Gb ?_
   refine pm_pv rfl (pureV_strAdd (u := GZ [32]) rfl (Gw rfl) GT (by simp only [Hf, List.length_append, List.length_cons, List.length_nil]; omega)) ?_; go_wp2_with (refine KE (d := some 108) rfl rfl rfl (u := GZ [32]) (Gw rfl) GT (by simp only [Hf, List.length_append, List.length_cons, List.length_nil]; omega) (KL _ _) ?_)
   refine G6 rfl ?_; go_wp2_with ((go_at_call 72; (try clear Gb); refine (HI.out _).mono ?_; rintro e Wk3 ⟨rfl, Gb⟩; replace Ga := Ga.keep Gb)); refine Gi Gb ?_
   refine pm_pv rfl (pureV_strAdd rfl (Gw rfl) (Gw rfl) (by simp only [Hf, List.length_append, List.length_cons, List.length_nil]; omega)) ?_; go_wp2_with (refine KE (d := some 112) rfl rfl rfl (Gw rfl) (Gw rfl) (by simp only [Hf, List.length_append, List.length_cons, List.length_nil]; omega) (KL _ _) ?_)
   refine JA rfl ?_; go_wp2_with ((refine Gr 4 105 Ga rfl (by rfl) (Gw rfl) (JX _ _ _ _ _ _ _ _ _ _) GE (G3 _ _ _ _ _ _ _ _ _ _) 2 rfl (by rfl) ?_; clear Ga; intro WS8 Ga; simp only [Ge, Gf] at Ga))
   refine G6 rfl ?_; go_wp2_with fail; refine Gh ?_
   refine H5 ?_
   go_wp2_with fail
   refine He rfl rfl rfl rfl (Ga.get 2 rfl) uz69 rfl GE (G3 _ _ _ _ _ _ _ _ _ _) ?_
   have hq9 := HQ.out _ Ga.forget
   simp only [List.append_assoc, Gc, Gd] at hq9
   exact hq9
end
section
open Go.RowKit
attribute [local simp] GR GN
theorem sp_lt (t : List UInt8) (i : Nat) (h : i < spI t) : (((t.getD i 0).toNat : Int) != 32) = true := by
 have hl : i < t.length := Nat.lt_of_lt_of_le h (spI_le t)
 have h1 : (t[i] == 32) = false := by simpa using List.not_of_lt_findIdx (p := fun b => b == 32) h
 rw [List.getD_eq_getElem?_getD, List.getElem?_eq_getElem hl, Option.getD_some, bne_iff_ne]
 intro e
 have h2 : t[i] = 32 := UInt8.toNat_inj.1 (by have : (32 : UInt8).toNat = 32 := rfl; omega)
 rw [h2] at h1
 exact absurd h1 (by decide)
theorem sp_eq (t : List UInt8) (h : spI t < t.length) : (((t.getD (spI t) 0).toNat : Int) != 32) = false := by
 rw [List.getD_eq_getElem?_getD, spI_at t h]
 rfl
theorem beg_not (l : List UInt8) (h : NU l Nk = true) : NU l Mj = false := by
 cases h2 : NU l Mj with
 | false => rfl
 | true =>
  have e1 : l.take 4 = Nk := of_decide_eq_true h
  have e2 : l.take 5 = Mj := of_decide_eq_true h2
  have e3 : (l.take 5).take 4 = l.take 4 := by rw [List.take_take]; rfl
  rw [e1, e2] at e3
  exact absurd e3 (by decide)
theorem beg_add4 (l : List UInt8) (h : NU l Nk = true) : 4 ≤ l.length := by
 have := of_decide_eq_true h
 have := congrArg List.length this
 rw [List.length_take] at this
 have h5 : Nk.length = 4 := rfl
 omega
theorem ans_add (key : List UInt8) (s : DkS) (l : List UInt8) (h : NU l Nk = true) : Jp key s l = PJ s (l.drop 4) := by
 have n1 : ¬ l = Ki := fun e => by rw [e] at h; revert h; decide
 have n2 : ¬ l = Kw := fun e => by rw [e] at h; revert h; decide
 have n3 : ¬ l = KM := fun e => by rw [e] at h; revert h; decide
 unfold Jp
 rw [if_neg n1, if_neg n2, if_neg n3, if_neg (by rw [beg_not l h]; decide), if_pos h]
def kdC (d : Dig) (n : Nat) : Array Value := K5 (d.l.take n ++ List.replicate (32 - n) 0)
theorem kdC_size (d : Dig) (n : Nat) (h : n ≤ 32) : (kdC d n).size = 32 := by
 unfold kdC
 rw [PK, List.length_append, List.length_take, List.length_replicate, d.h]
 omega
theorem kdC_0 (d : Dig) : kdC d 0 = GM.arr := by
 unfold kdC
 rw [List.take_zero]
 rfl
theorem kdC_32 (d : Dig) : kdC d 32 = d.arr := by
 unfold kdC Dig.arr
 rw [List.take_of_length_le (by rw [d.h]; exact Nat.le_refl _)]
 simp
theorem kdC_set (d : Dig) (n : Nat) (hn : n < 32) : (kdC d n).setIfInBounds n (JC (d.l.getD n 0)) = kdC d (n + 1) := by
 have hl : n < d.l.length := by rw [d.h]; exact hn
 have hg : d.l.getD n 0 = d.l[n] := by rw [List.getD_eq_getElem?_getD, List.getElem?_eq_getElem hl]; rfl
 have hz : List.replicate (32 - n) (0 : UInt8) = 0 :: List.replicate (32 - (n + 1)) 0 := by
  rw [show 32 - n = (32 - (n + 1)) + 1 by omega, List.replicate_succ]
 have ht : (d.l.take n).length = n := by rw [List.length_take, d.h]; omega
 unfold kdC K5 GK
 rw [hz, List.take_succ_eq_append_getElem hl, hg]
 apply Array.ext'
 simp only [Array.toList_setIfInBounds, List.map_append, List.map_cons]
 rw [List.set_append, if_neg (by rw [List.length_map, ht]; omega), List.length_map, ht, Nat.sub_self, List.set_cons_zero]
 simp
theorem ransw_addB (key : List UInt8) (K : Option Addr) (m mc : Nat) (s : DkS) (l : List UInt8) (A : Option Addr) (n c : Nat) (w : World) (hl : l.length ≤ 140737488351232) (Q : Ending → World → Prop)
  (hf : NU l Nk = true) (hb : ¬ (spI (l.drop 4) < (l.drop 4).length ∧ hx64 ((l.drop 4).drop (spI (l.drop 4) + 1))))
  (hQ : ∀ w', St w w' [] → Q (.returned (.tuple #[.agg (Kv K m mc A n c (Jp key s l).1), .string (GZ (N3 (Jp key s l).2))])) w') :
  Calls Tryz.prog 28 #[.agg (Kv K m mc A n c s), .string (GZ l)] w Q := by
 have Ga := St.refl w
 have HB1 := Gg (fun w' => JV l Mj w' (by decide))
 have HB2 := Gg (fun w' => JV l Nk w' (by decide))
 rewrite [beg_not l hf] at HB1
 rewrite [hf] at HB2
 have HD1 := Gg (show decide (l = Ki) = false from decide_eq_false (fun e => by rw [e] at hf; revert hf; decide))
 have HD2 := Gg (show decide (l = Kw) = false from decide_eq_false (fun e => by rw [e] at hf; revert hf; decide))
 have HD3 := Gg (show decide (l = KM) = false from decide_eq_false (fun e => by rw [e] at hf; revert hf; decide))
 have hl4 := beg_add4 l hf
 have hA : Jp key s l = (s, (1, [])) := by rw [ans_add key s l hf]; unfold PJ; rw [if_neg hb]
 rewrite [hA] at hQ
 have HQ := Gg hQ
 simp only at HQ
 rewrite [show N3 (1, []) = Pa 1 from rfl] at HQ
 have htl : (l.drop 4).length ≤ 140737488351232 := by rw [List.length_drop]; omega
 obtain ⟨t, ht⟩ : ∃ t, t = l.drop 4 := ⟨_, rfl⟩
 rewrite [← ht] at htl hb
 have HTt := Gg ht.symm
 clear ht hA hQ hf
 have hsp0 := spI_le t
 have hz0 := Hf t
 have HC := Gg (fun j h => bs_at t j h)
 have HN := Gg (fun j h => sp_lt t j h)
 have HE := Gg (fun h => sp_eq t h)
 have HUn := Gg (fun (h : spI t < t.length) => runhexP_no (t.drop (spI t + 1)) (fun h2 => hb ⟨h, h2⟩) (by rw [List.length_drop]; omega))
 obtain ⟨sp, hsp⟩ : ∃ k, k = spI t := ⟨_, rfl⟩
 obtain ⟨tl, hl9⟩ : ∃ k, k = t.length := ⟨_, rfl⟩
 rewrite [← hsp] at HN HE HUn hsp0
 rewrite [← hl9] at HC HE HUn htl hsp0 hz0
 have HL9 := Gg hl9
 clear hb hsp hl9
 unfold Kv at *
 generalize G4 (lvN (s.ns.take s.j)) = rx at *
 generalize Jz (s.ns.take s.j) = ry at *
 go_enter Tryz.func28, Tryz.ntmps28
 go_upto_region 1 with (go_big_may; first | (refine Gm 2 rfl (Gw rfl) ?_; (try clear Gb); intro g2 W2 Gb; replace Ga := Ga.tr1 Gb) | (refine Gk 4 rfl GE ?_; (try clear Gb); intro g4 W4 Gb; replace Ga := Ga.tr1 Gb))
 go_upto_region 3 with (go_big_may; (refine Ja (d := some 25) (u := Ki) rfl rfl rfl (by kernel_rfl) uz9 (Gw rfl) GT ?_; rewrite [HD1.out]))
 go_upto_region 5 with (go_big_may; (refine Ja (d := some 32) (u := Kw) rfl rfl rfl (by kernel_rfl) uz9 (Gw rfl) GT ?_; rewrite [HD2.out]))
 go_upto_region 15 with (go_big_may; (refine Ja (d := some 38) (u := KM) rfl rfl rfl (by kernel_rfl) uz9 (Gw rfl) GT ?_; rewrite [HD3.out]))
 go_upto_region 27 with (go_big_may; (go_at_call_of 70 (Value.string ⟨#[102, 105, 110, 100, 32]⟩); (try clear Gb); refine (HB1.out _).mono ?_; rintro e Wh ⟨rfl, Gb⟩; replace Ga := Ga.keep Gb))
 go_upto_region 28 with (go_big_may; (go_at_call_of 70 (Value.string ⟨#[97, 100, 100, 32]⟩); (try clear Gb); refine (HB2.out _).mono ?_; rintro e Wh ⟨rfl, Gb⟩; replace Ga := Ga.keep Gb))
 go_upto_region 29 with (go_big_may; (refine ME (d := some 116) rfl rfl rfl uz9 (Gw rfl) GT 4 rfl hl4 ?_; rewrite [HTt.out]))
 go_wp2_with (fail)
 (try clear Gb)
 clear HB1 HB2
 go_loopg [16] tl (fun gk s16 wr => ∃ i : Nat, Hid (i + gk = tl) ∧ Hid (i ≤ sp) ∧ s16 = .int .i64 (i : Int) ∧ St w wr [.blk g4 69 (J9 none 0 0 none 0 0 0 GM GM GM), .blk g2 69 (J9 K m mc A n c (s.j : Int) rx ry s.z)])
 case atStart => exact ⟨0, Gg (by omega), Gg (by omega), rfl, Ga⟩
 case round =>
  clear Ga
  obtain ⟨i, HI, HS, rfl, Ga⟩ := hrel
  have hi := HI.out
  have his := HS.out
  by_cases hin : i < sp
  ·have HCi := Gg (HC.out i (by omega))
   have hne := HN.out i hin
   generalize t.getD i 0 = b at HCi hne
   have p1 : (i : Int) < (tl : Int) := by omega
   have e1 : decide ((i : Int) < (tl : Int)) = true := decide_eq_true p1
   have e2 : decide (i < tl) = true := decide_eq_true (by omega)
   clear hi his
   go_upto_region 31 with (go_big_may; (refine MI (d := some 124) rfl rfl rfl uz9 rfl (by rfl) i rfl HCi.out ?_))
   go_wp2_with (fail)
   go_roundg (gk - 1)
   case measure => have := HI.out; omega
   case rel => exact ⟨i + 1, Gg (by have := HI.out; omega), Gg (by omega), by go_num, Ga⟩
  ·obtain rfl : i = sp := by omega
   clear hin his HI HS
   by_cases c1 : i < tl
   ·have HCi := Gg (HC.out i c1)
    have hne := HE.out c1
    generalize t.getD i 0 = b at HCi hne
    have p1 : (i : Int) < (tl : Int) := by omega
    have p2 : ((i : Int) == (tl : Int)) = false := by rw [beq_eq_false_iff_ne]; omega
    have e1 : decide ((i : Int) < (tl : Int)) = true := decide_eq_true p1
    have e2 : decide (i < tl) = true := decide_eq_true c1
    have HX1 := HUn.out c1
    have hdl : i + 1 ≤ t.length := by rw [← HL9.out]; omega
    generalize htb : t.drop (i + 1) = tb at HX1
    have HTb := Gg htb
    clear htb HC HN HE HUn c1 hi
    rcases HX1 with ⟨u, bs, pb, hu, hU⟩ | hU
    ·have HU := Gg hU
     clear hU
     cases pb with
     | true =>
      have p3 : ((u : Int) != 32) = true := by rw [bne_iff_ne]; intro e; exact hu ⟨rfl, by omega⟩
      clear hu
      go_upto_region 32 with (go_big_may; (refine MI (d := some 124) rfl rfl rfl uz9 rfl (by rfl) i rfl HCi.out ?_))
      go_upto_region 34 with (go_big_may; fail)
      go_upto_region 35 with (go_big_may; first | (refine ME (d := some 138) rfl rfl rfl uz9 (Gw rfl) (Gw rfl) (i + 1) (by rfl) hdl ?_; rewrite [HTb.out]) | (go_at_call 73; (try clear Gb); refine (HU.out _).mono ?_; rintro e Wu ⟨Au, cu, rfl, Gb⟩; replace Ga := Ga.trans Gb; simp only [Gc, Gd] at Ga))
      go_upto_region 36 with (go_big_may; fail)
      go_wp2_with (first | (refine Gl 149 rfl (by rfl) uz69 rfl GE (Ga.get 2 rfl) (G3 _ _ _ _ _ _ _ _ _ _) ?_) | ((refine Gr 4 149 Ga rfl (by rfl) (Gw rfl) (JX _ _ _ _ _ _ _ _ _ _) GE (G3 _ _ _ _ _ _ _ _ _ _) 1 rfl (by rfl) ?_; clear Ga; intro WS1 Ga; simp only [Ge, Gf] at Ga)))
      refine He rfl rfl rfl rfl (Ga.get 1 rfl) uz69 rfl GE (G3 _ _ _ _ _ _ _ _ _ _) ?_
      exact HQ.out _ Ga.forget
     | false =>
      clear hu
      go_upto_region 32 with (go_big_may; (refine MI (d := some 124) rfl rfl rfl uz9 rfl (by rfl) i rfl HCi.out ?_))
      go_upto_region 34 with (go_big_may; fail)
      go_upto_region 35 with (go_big_may; first | (refine ME (d := some 138) rfl rfl rfl uz9 (Gw rfl) (Gw rfl) (i + 1) (by rfl) hdl ?_; rewrite [HTb.out]) | (go_at_call 73; (try clear Gb); refine (HU.out _).mono ?_; rintro e Wu ⟨Au, cu, rfl, Gb⟩; replace Ga := Ga.trans Gb; simp only [Gc, Gd] at Ga))
      go_upto_region 36 with (first | (with_reducible refine GI (t := 145) rfl (by kernel_rfl) ?_) | (with_reducible refine GI (t := 146) rfl (by kernel_rfl) ?_) | (with_reducible refine GI (t := 147) rfl (by kernel_rfl) ?_))
      go_wp2_with (first | (refine Gl 149 rfl (by rfl) uz69 rfl GE (Ga.get 2 rfl) (G3 _ _ _ _ _ _ _ _ _ _) ?_) | ((refine Gr 4 149 Ga rfl (by rfl) (Gw rfl) (JX _ _ _ _ _ _ _ _ _ _) GE (G3 _ _ _ _ _ _ _ _ _ _) 1 rfl (by rfl) ?_; clear Ga; intro WS1 Ga; simp only [Ge, Gf] at Ga)))
      refine He rfl rfl rfl rfl (Ga.get 1 rfl) uz69 rfl GE (G3 _ _ _ _ _ _ _ _ _ _) ?_
      exact HQ.out _ Ga.forget
    ·have HU := Gg hU
     clear hU
     go_upto_region 32 with (go_big_may; (refine MI (d := some 124) rfl rfl rfl uz9 rfl (by rfl) i rfl HCi.out ?_))
     go_upto_region 34 with (go_big_may; fail)
     go_upto_region 35 with (go_big_may; first | (refine ME (d := some 138) rfl rfl rfl uz9 (Gw rfl) (Gw rfl) (i + 1) (by rfl) hdl ?_; rewrite [HTb.out]) | (go_at_call 73; (try clear Gb); refine (HU.out _).mono ?_; rintro e Wk1 ⟨rfl, Gb⟩; replace Ga := Ga.keep Gb))
     go_upto_region 36 with (first | (with_reducible refine GI (t := 145) rfl (by kernel_rfl) ?_) | (with_reducible refine GI (t := 146) rfl (by kernel_rfl) ?_) | (with_reducible refine GI (t := 147) rfl (by kernel_rfl) ?_))
     go_wp2_with (first | (refine Gl 149 rfl (by rfl) uz69 rfl GE (Ga.get 1 rfl) (G3 _ _ _ _ _ _ _ _ _ _) ?_) | ((refine Gr 4 149 Ga rfl (by rfl) (Gw rfl) (JX _ _ _ _ _ _ _ _ _ _) GE (G3 _ _ _ _ _ _ _ _ _ _) 0 rfl (by rfl) ?_; clear Ga; intro WS1 Ga; simp only [Ge, Gf] at Ga)))
     refine He rfl rfl rfl rfl (Ga.get 0 rfl) uz69 rfl GE (G3 _ _ _ _ _ _ _ _ _ _) ?_
     exact HQ.out _ Ga.forget
   ·obtain rfl : i = tl := by omega
    clear c1 hi HC HN HE HUn
    go_upto_region 32 with (first | (with_reducible refine GI (t := 122) rfl (by kernel_rfl) ?_) | (with_reducible refine GI (t := 123) rfl (by kernel_rfl) ?_) | (with_reducible refine GI (t := 124) rfl (by kernel_rfl) ?_) | (with_reducible refine GI (t := 125) rfl (by kernel_rfl) ?_))
    go_upto_region 33 with (go_big_may; fail)
    go_wp2_with (first | (refine Gl 133 rfl (by rfl) uz69 rfl GE (Ga.get 1 rfl) (G3 _ _ _ _ _ _ _ _ _ _) ?_) | ((refine Gr 4 133 Ga rfl (by rfl) (Gw rfl) (JX _ _ _ _ _ _ _ _ _ _) GE (G3 _ _ _ _ _ _ _ _ _ _) 0 rfl (by rfl) ?_; clear Ga; intro WS1 Ga; simp only [Ge, Gf] at Ga)))
    refine He rfl rfl rfl rfl (Ga.get 0 rfl) uz69 rfl GE (G3 _ _ _ _ _ _ _ _ _ _) ?_
    exact HQ.out _ Ga.forget
theorem ransw_addG (key : List UInt8) (K : Option Addr) (m mc : Nat) (s : DkS) (l : List UInt8) (A : Option Addr) (n c : Nat) (w : World) (hx : SlR w A n c 34 (H6 s.ns)) (hok : DkOk s) (hl : l.length ≤ 140737488351232) (Q : Ending → World → Prop)
  (hf : NU l Nk = true) (hb : spI (l.drop 4) < (l.drop 4).length ∧ hx64 ((l.drop 4).drop (spI (l.drop 4) + 1)))
  (hno : (Jp key s l).1.ns = s.ns → ∀ w', St w w' [] → Q (.returned (.tuple #[.agg (Kv K m mc A n c (Jp key s l).1), .string (GZ (N3 (Jp key s l).2))])) w')
  (hmo : (Jp key s l).1.ns.length = n + 1 → ∀ w' O oc, St w w' [.row O (n + 1) oc 34 34 (H6 (Jp key s l).1.ns)] → Q (.returned (.tuple #[.agg (Kv K m mc O (n + 1) oc (Jp key s l).1), .string (GZ (N3 (Jp key s l).2))])) w') :
  Calls Tryz.prog 28 #[.agg (Kv K m mc A n c s), .string (GZ l)] w Q := by
 have Ga := St.refl w
 have HX := Gg hx
 obtain ⟨hg, hj⟩ := hok
 have hn := hg.len
 have hln : s.ns.length = n := by have := hx.1; rw [JB] at this; omega
 have HB1 := Gg (fun w' => JV l Mj w' (by decide))
 have HB2 := Gg (fun w' => JV l Nk w' (by decide))
 rewrite [beg_not l hf] at HB1
 rewrite [hf] at HB2
 have HD1 := Gg (show decide (l = Ki) = false from decide_eq_false (fun e => by rw [e] at hf; revert hf; decide))
 have HD2 := Gg (show decide (l = Kw) = false from decide_eq_false (fun e => by rw [e] at hf; revert hf; decide))
 have HD3 := Gg (show decide (l = KM) = false from decide_eq_false (fun e => by rw [e] at hf; revert hf; decide))
 have hl4 := beg_add4 l hf
 rewrite [ans_add key s l hf] at hno hmo
 have htl : (l.drop 4).length ≤ 140737488351232 := by rw [List.length_drop]; omega
 obtain ⟨t, ht⟩ : ∃ t, t = l.drop 4 := ⟨_, rfl⟩
 rewrite [← ht] at htl hb hno hmo
 have HTt := Gg ht.symm
 clear ht hf
 have HAd := Gg (fun (w' : World) (h : SlR w' A n c 34 (H6 s.ns)) => radded_gen K m mc s.ns (t.take (spI t)) (PY (t.drop (spI t + 1))) A n c w' h hg (by rw [List.length_take]; omega))
 have HU := Gg (fun w' => runhexP_yes (t.drop (spI t + 1)) hb.2 w')
 have hsp0 := hb.1
 have hz0 := Hf t
 have HC := Gg (fun j h => bs_at t j h)
 have HN := Gg (fun j h => sp_lt t j h)
 have HE := Gg (sp_eq t hb.1)
 have HNu := Gg (fun w' => rnumber_any n (by omega) w')
 have her := addE_le s.ns (t.take (spI t))
 have HEr := Gg (fun w' => errTx_any (Kk s.ns (t.take (spI t))) her w')
 have HQ0 := Gg (fun (h0 : Kk s.ns (t.take (spI t)) = 0) (w' : World) (O : Option Addr) (oc : Nat) (h : St w w' [.row O (n + 1) oc 34 34 (H6 (s.ns ++ [M0 s.ns (t.take (spI t)) (PY (t.drop (spI t + 1)))]))]) => show Q (.returned (.tuple #[.agg (Kv K m mc O (n + 1) oc s), .string (GZ (Lib.decDigits n))])) w' by
  have e1 : PJ s t = (⟨s.ns ++ [M0 s.ns (t.take (spI t)) (PY (t.drop (spI t + 1)))], s.j, s.z⟩, (0, Lib.decDigits n)) := by
   unfold PJ
   rw [if_pos hb, if_pos h0, hln]
   unfold addL
   rw [if_pos h0]
  have := hmo (by rw [e1]; simp [hln]) w' O oc (by rw [e1]; exact h)
  rewrite [e1] at this
  unfold Kv at *
  simp only [List.take_append_of_le_length hj] at this
  exact this)
 have HQ1 := Gg (fun (h0 : Kk s.ns (t.take (spI t)) ≠ 0) (w' : World) (h : St w w' []) => show Q (.returned (.tuple #[.agg (Kv K m mc A n c s), .string (GZ (Pa (Kk s.ns (t.take (spI t)))))])) w' by
  have e1 : PJ s t = (s, (Kk s.ns (t.take (spI t)), [])) := by
   unfold PJ
   rw [if_pos hb, if_neg h0]
  have := hno (by rw [e1]) w' h
  rewrite [e1] at this
  rewrite [show N3 (Kk s.ns (t.take (spI t)), []) = Pa (Kk s.ns (t.take (spI t))) from if_neg h0] at this
  exact this)
 generalize M0 s.ns (t.take (spI t)) (PY (t.drop (spI t + 1))) = nw at *
 obtain ⟨kd, hkd⟩ : ∃ d, d = PY (t.drop (spI t + 1)) := ⟨_, rfl⟩
 rewrite [← hkd] at HAd HU
 clear hkd hno hmo hx hg
 obtain ⟨sp, hsp⟩ : ∃ k, k = spI t := ⟨_, rfl⟩
 obtain ⟨tl, hl9⟩ : ∃ k, k = t.length := ⟨_, rfl⟩
 rewrite [← hsp] at HN HE HU HAd HQ0 HQ1 HEr her hsp0
 rewrite [← hl9] at HC htl hsp0 hz0
 have HL9 := Gg hl9
 have hdl : sp + 1 ≤ t.length := by rw [← hl9]; omega
 have HDl := Gg hdl
 clear hb hsp hl9 hdl
 obtain ⟨ta, hta⟩ : ∃ q, q = t.take sp := ⟨_, rfl⟩
 rewrite [← hta] at HAd HQ0 HQ1 HEr her
 have HTa := Gg hta.symm
 obtain ⟨tb, htb⟩ : ∃ q, q = t.drop (sp + 1) := ⟨_, rfl⟩
 rewrite [← htb] at HU
 have HTb := Gg htb.symm
 clear hta htb
 have HLn := Gg hln
 generalize H6 (s.ns ++ [nw]) = NL at *
 unfold Kv at *
 generalize G4 (lvN (s.ns.take s.j)) = rx at *
 generalize Jz (s.ns.take s.j) = ry at *
 go_enter Tryz.func28, Tryz.ntmps28
 go_upto_region 1 with (go_big_may; first | (refine Gm 2 rfl (Gw rfl) ?_; (try clear Gb); intro g2 W2 Gb; replace Ga := Ga.tr1 Gb) | (refine Gk 4 rfl GE ?_; (try clear Gb); intro g4 W4 Gb; replace Ga := Ga.tr1 Gb))
 go_upto_region 3 with (go_big_may; (refine Ja (d := some 25) (u := Ki) rfl rfl rfl (by kernel_rfl) uz9 (Gw rfl) GT ?_; rewrite [HD1.out]))
 go_upto_region 5 with (go_big_may; (refine Ja (d := some 32) (u := Kw) rfl rfl rfl (by kernel_rfl) uz9 (Gw rfl) GT ?_; rewrite [HD2.out]))
 go_upto_region 15 with (go_big_may; (refine Ja (d := some 38) (u := KM) rfl rfl rfl (by kernel_rfl) uz9 (Gw rfl) GT ?_; rewrite [HD3.out]))
 go_upto_region 27 with (go_big_may; (go_at_call_of 70 (Value.string ⟨#[102, 105, 110, 100, 32]⟩); (try clear Gb); refine (HB1.out _).mono ?_; rintro e Wh ⟨rfl, Gb⟩; replace Ga := Ga.keep Gb))
 go_upto_region 28 with (go_big_may; (go_at_call_of 70 (Value.string ⟨#[97, 100, 100, 32]⟩); (try clear Gb); refine (HB2.out _).mono ?_; rintro e Wh ⟨rfl, Gb⟩; replace Ga := Ga.keep Gb))
 go_upto_region 29 with (go_big_may; (refine ME (d := some 116) rfl rfl rfl uz9 (Gw rfl) GT 4 rfl hl4 ?_; rewrite [HTt.out]))
 go_wp2_with (fail)
 (try clear Gb)
 clear HB1 HB2
 go_loopg [16] tl (fun gk s16 wr => ∃ i : Nat, Hid (i + gk = tl) ∧ Hid (i ≤ sp) ∧ s16 = .int .i64 (i : Int) ∧ St w wr [.blk g4 69 (J9 none 0 0 none 0 0 0 GM GM GM), .blk g2 69 (J9 K m mc A n c (s.j : Int) rx ry s.z)])
 case atStart => exact ⟨0, Gg (by omega), Gg (by omega), rfl, Ga⟩
 case round =>
  clear Ga
  obtain ⟨i, HI, HS, rfl, Ga⟩ := hrel
  have hi := HI.out
  have his := HS.out
  by_cases hin : i < sp
  ·have HCi := Gg (HC.out i (by omega))
   have hne := HN.out i hin
   generalize t.getD i 0 = b at HCi hne
   have p1 : (i : Int) < (tl : Int) := by omega
   have e1 : decide ((i : Int) < (tl : Int)) = true := decide_eq_true p1
   have e2 : decide (i < tl) = true := decide_eq_true (by omega)
   clear hi his
   go_upto_region 31 with (go_big_may; (refine MI (d := some 124) rfl rfl rfl uz9 rfl (by rfl) i rfl HCi.out ?_))
   go_wp2_with (fail)
   go_roundg (gk - 1)
   case measure => have := HI.out; omega
   case rel => exact ⟨i + 1, Gg (by have := HI.out; omega), Gg (by omega), by go_num, Ga⟩
  ·obtain rfl : i = sp := by omega
   clear hin his HI HS hi
   have HCi := Gg (HC.out i hsp0)
   have hne := HE.out
   generalize t.getD i 0 = b at HCi hne
   have p1 : (i : Int) < (tl : Int) := by omega
   have p2 : ((i : Int) == (tl : Int)) = false := by rw [beq_eq_false_iff_ne]; omega
   have e1 : decide ((i : Int) < (tl : Int)) = true := decide_eq_true p1
   have e2 : decide (i < tl) = true := decide_eq_true hsp0
   clear HC HN HE hsp0
   go_upto_region 32 with (go_big_may; (refine MI (d := some 124) rfl rfl rfl uz9 rfl (by rfl) i rfl HCi.out ?_))
   go_upto_region 34 with (go_big_may; fail)
   go_upto_region 35 with (go_big_may; first | (refine ME (d := some 138) rfl rfl rfl uz9 (Gw rfl) (Gw rfl) (i + 1) (by rfl) HDl.out ?_; rewrite [HTb.out]) | (go_at_call 73; (try clear Gb); refine (HU.out _).mono ?_; rintro e Wu ⟨Au, cu, rfl, Gb⟩; replace Ga := Ga.trans Gb; simp only [Gc, Gd] at Ga))
   go_upto_region 37 with (go_big_may; fail)
   go_upto_region 38 with (go_big_may; (refine Gk 19 rfl Gv ?_; (try clear Gb); intro g19 W19 Gb; replace Ga := Ga.tr1 Gb))
   go_wp2_with (fail)
   (try clear Gb)
   obtain ⟨ob, oo, rfl, -⟩ := (Ga.sl 1 rfl).2.2.2 (by decide)
   rewrite [← kdC_0 kd] at Ga
   clear hne p1 p2 e1 e2 HCi
   go_loopg [20] 32 (fun gk s20 wr => ∃ j : Nat, Hid (j + gk = 32) ∧ s20 = .int .i64 (j : Int) ∧ St w wr [.blk g19 32 (kdC kd j), .row (some ⟨ob, oo, none⟩) 32 cu 5 1 (GK kd.l), .blk g4 69 (J9 none 0 0 none 0 0 0 GM GM GM), .blk g2 69 (J9 K m mc A n c (s.j : Int) rx ry s.z)])
   case atStart => exact ⟨0, Gg (by omega), rfl, Ga⟩
   case round =>
    clear Ga
    obtain ⟨j, HI, rfl, Ga⟩ := hrel
    have hi := HI.out
    by_cases hjn : j < 32
    ·have hjl : j < kd.l.length := by rw [kd.h]; exact hjn
     have HCb := Gg (fun (W : World) (g off : Nat) h => Me (W := W) (g := g) (off := off) (i := j) (l := kd.l) h hjl)
     have HSz := Gg (kdC_size kd j (by omega))
     have HSt := Gg (kdC_set kd j hjn)
     generalize kd.l.getD j 0 = x at HCb HSt
     clear hjl hi
     go_upto_region 41 with (go_big_may; fail)
     go_upto_region 40 with (go_big_may; first | (refine L_idxC (d := some 157) rfl rfl rfl (by rfl) (by rfl) uz22 GF (Ga.sl 1 rfl) (by omega) (by omega) ?_; intro hr157) | (refine Gj 158 rfl (by rfl) uz5 rfl (HCb.out _ _ _ hr157) ?_) | (refine GB (.store 5 (.tmp 159) (.tmp 158)) rfl ?_; refine Jh rfl rfl Ga rfl (by rfl) (Gw rfl) rfl GF 0 rfl (by rw [HSz.out]; omega) ?_; clear Ga; intro WS6 Ga; simp only [Ge, Gf] at Ga))
     go_wp2_with (fail)
     rw [show (Value.int .u8 (x.toNat : Int)) = JC x from rfl, HSt.out] at Ga
     go_roundg (gk - 1)
     case measure => have := HI.out; omega
     case rel => exact ⟨j + 1, Gg (by have := HI.out; omega), by go_num, Ga⟩
    ·obtain rfl : j = 32 := by omega
     rewrite [kdC_32] at Ga
     clear hi HI hjn
     go_upto_region 42 with (go_big_may; fail)
     by_cases h0 : Kk s.ns ta = 0
     ·have HA1 := Gg (fun (w' : World) (h : SlR w' A n c 34 (H6 s.ns)) => HAd.out w' h (fun e w2 => ∃ O oc, e = .returned (.tuple #[.agg (Jw K m mc O (n + 1) oc), .int .i64 (n : Int), .int .i64 0]) ∧ St w' w2 [.row O (n + 1) oc 34 34 NL]) (fun _ w2 O oc h => ⟨O, oc, rfl, h⟩) (fun r h hr => absurd (h.symm.trans h0) hr))
      have HQ := Gg (HQ0.out h0)
      clear HAd HQ0 HQ1 HEr her h0
      go_simp
      go_cut [21, 22, 23] (fun s21 s22 s23 wx => ∃ (g21 : Nat) (O : Option Addr) (oc : Nat), s21 = .pointer (some ⟨g21, 0, none⟩) ∧ s22 = .int .i64 (n : Int) ∧ s23 = .int .i64 0 ∧ St w wx [.blk g21 27 (Jw K m mc O (n + 1) oc), .blk g4 69 (J9 none 0 0 none 0 0 0 GM GM GM), .blk g2 69 (J9 K m mc A n c (s.j : Int) rx ry s.z), .row O (n + 1) oc 34 34 NL])
      case first =>
       refine Ht (.one 2 3 (.one 3 3 (.one 0 0 (.one 1 0 (.one 4 0 (.one 5 0 (.two 6 2 (.one 7 3 (.one 8 3 (.one 9 3 (.one 10 3 (.one 11 2 (.one 12 1 (.one 13 2 (.one 14 2 .nil)))))))) 11 2 (.one 6 2 (.one 7 2 (.one 8 3 (.one 9 3 (.one 10 3 (.one 12 1 (.one 13 2 (.one 14 2 .nil))))))))))))))) (by kernel_rfl) (by kernel_rfl) ?_
       replace Ga := Ga.drew
       refine Jj rfl rfl ?_; go_wp2_with fail
       refine Jj rfl rfl ?_; go_wp2_with fail
       refine Pc rfl rfl (by kernel_rfl) ?_; go_wp2_with fail
       refine Kl rfl rfl ?_; go_wp2_with ((refine Gn 162 rfl (by rfl) uz27 rfl GL (Pq (Ga.get 3 rfl)) (Hk _ _ _ _ _ _) ?_))
       refine Kl rfl rfl ?_; go_wp2_with (refine L_strTo (d := some 165) rfl rfl rfl uz9 (Gw rfl) (Gw rfl) i rfl (by have := HDl.out; omega) ?_; rewrite [HTa.out])
       refine Kl rfl rfl ?_; go_wp2_with ((refine Gl 166 rfl (by rfl) uz32 rfl Gv (Ga.get 0 rfl) (Dig.size _) ?_))
       refine JF (ki := 2) (kj := 2) rfl rfl ?_ ?_
       ·go_wp2_with ((go_at_call 9; (try clear Gb); refine (HA1.out _ (Ga.old (by decide) HX.out)).mono ?_; rintro e Wd ⟨O1, o1, rfl, Gb⟩; replace Ga := Ga.trans Gb; simp only [Gc, Gd] at Ga)); refine ⟨fun _ => (Gb.below), ?_⟩
        refine Jj rfl rfl ?_; go_wp2_with fail
        refine Jj rfl rfl ?_; go_wp2_with fail
        refine Jj rfl rfl ?_; go_wp2_with fail
        refine Jj rfl rfl ?_; go_wp2_with fail
        refine G6 rfl ?_; go_wp2_with (refine Gk 21 rfl GL ?_; (try clear Gb); intro g21 W21 Gb; replace Ga := Ga.tr1 Gb); refine Gi Gb ?_
        refine JA rfl ?_; go_wp2_with ((refine Gr 21 168 Ga rfl (by rfl) (Gw rfl) (Kn _ _ _ _ _ _) GL (by rfl) 0 rfl (by rfl) ?_; clear Ga; intro WS12 Ga; simp only [Ge, Gf] at Ga))
        refine G6 rfl ?_; go_wp2_with fail; refine Gh ?_
        refine G6 rfl ?_; go_wp2_with fail; refine Gh ?_
        refine H5 ?_
        go_wp2_with fail
        go_meet
        case rel => (exact ⟨_, _, _, rfl, rfl, rfl, Ga.pick [0, 4, 5, 1] (by decide)⟩)
       ·go_wp2_with (refine Gk 21 rfl GL ?_; (try clear Gb); intro g21 W21 Gb; replace Ga := Ga.tr1 Gb); refine ⟨fun _ => (Gb.below), ?_⟩
        refine G6 rfl ?_; go_wp2_with ((go_at_call 9; (try clear Gb); refine (HA1.out _ (Ga.old (by decide) HX.out)).mono ?_; rintro e Wd ⟨O1, o1, rfl, Gb⟩; replace Ga := Ga.trans Gb; simp only [Gc, Gd] at Ga)); refine Gi Gb ?_
        refine G6 rfl ?_; go_wp2_with fail; refine Gh ?_
        refine Jj rfl rfl ?_; go_wp2_with fail
        refine Jj rfl rfl ?_; go_wp2_with fail
        refine Jj rfl rfl ?_; go_wp2_with fail
        refine JA rfl ?_; go_wp2_with ((refine Gr 21 168 Ga rfl (by rfl) (Gw rfl) (Kn _ _ _ _ _ _) GL (by rfl) 1 rfl (by rfl) ?_; clear Ga; intro WS12 Ga; simp only [Ge, Gf] at Ga))
        refine G6 rfl ?_; go_wp2_with fail; refine Gh ?_
        refine G6 rfl ?_; go_wp2_with fail; refine Gh ?_
        refine H5 ?_
        go_wp2_with fail
        go_meet
        case rel => (exact ⟨_, _, _, rfl, rfl, rfl, Ga.pick [1, 4, 5, 0] (by decide)⟩)
      case rest =>
       obtain ⟨g21, O1, o1, rfl, rfl, rfl, hst2⟩ := hcut
       clear Ga
       have Ga := hst2
       clear hst2 HA1
       go_upto_region 45 with (go_big_may; fail)
       go_upto_region 46 with (go_big_may; first | (refine Gl 176 rfl (by rfl) uz27 rfl GL (Ga.get 0 rfl) (Hk _ _ _ _ _ _) ?_) | ((refine Gs 177 176 Ga rfl (by rfl) (Gw rfl) (Kn _ _ _ _ _ _) GL (by rfl) 2 rfl (of_decide_eq_true rfl) ?_; clear Ga; intro WS2 Ga; simp only [Ge, Gf, rdArr_putQ _ _ _ _ _ _ _ _ _ _ _ _ _] at Ga)))
       refine GO [(0, 0), (1, 2), (2, 2), (3, 1), (4, 2)] (by kernel_rfl) (by kernel_rfl) ?_
       replace Ga := Ga.drew
       refine GG rfl rfl ?_; go_wp2_with ((refine Gl 178 rfl (by rfl) uz69 rfl GE (Ga.get 2 rfl) (G3 _ _ _ _ _ _ _ _ _ _) ?_))
       refine GA rfl ?_; go_wp2_with fail; refine Gh ?_
       refine GA rfl ?_; go_wp2_with ((go_at_call 72; (try clear Gb); refine (HNu.out _).mono ?_; rintro e Wk2 ⟨rfl, Gb⟩; replace Ga := Ga.keep Gb)); refine Gi Gb ?_
       refine J6 rfl ?_; go_wp2_with ((refine Gr 4 178 Ga rfl (by rfl) (Gw rfl) (JX _ _ _ _ _ _ _ _ _ _) GE (G3 _ _ _ _ _ _ _ _ _ _) 1 rfl (by rfl) ?_; clear Ga; intro WS3 Ga; simp only [Ge, Gf] at Ga))
       refine GA rfl ?_; go_wp2_with fail; refine Gh ?_
       refine G5 ?_
       go_wp2_with fail
       refine He rfl rfl rfl rfl (Ga.get 1 rfl) uz69 rfl GE (G3 _ _ _ _ _ _ _ _ _ _) ?_
       exact HQ.out _ _ _ (Ga.pick [3] (by decide))
     ·have HA1 := Gg (fun (w' : World) (h : SlR w' A n c 34 (H6 s.ns)) => HAd.out w' h (fun e w2 => e = .returned (.tuple #[.agg (Jw K m mc A n c), .int .i64 0, .int .i64 (Kk s.ns ta : Int)]) ∧ St w' w2 []) (fun h => absurd h h0) (fun r h hr w2 h2 => ⟨by rw [h], h2⟩))
      have HQ := Gg (HQ1.out h0)
      clear HAd HQ0 HQ1 HNu
      generalize Kk s.ns ta = r1 at *
      generalize Pa r1 = et at *
      have p1 : ((r1 : Int) != 0) = true := by rw [bne_iff_ne]; omega
      clear h0 her
      go_simp
      go_cut [21, 22, 23] (fun s21 s22 s23 wx => ∃ (g21 : Nat), s21 = .pointer (some ⟨g21, 0, none⟩) ∧ s22 = .int .i64 0 ∧ s23 = .int .i64 (r1 : Int) ∧ St w wx [.blk g4 69 (J9 none 0 0 none 0 0 0 GM GM GM), .blk g2 69 (J9 K m mc A n c (s.j : Int) rx ry s.z)])
      case first =>
       refine Ht (.one 2 3 (.one 3 3 (.one 0 0 (.one 1 0 (.one 4 0 (.one 5 0 (.two 6 2 (.one 7 3 (.one 8 3 (.one 9 3 (.one 10 3 (.one 11 2 (.one 12 1 (.one 13 2 (.one 14 2 .nil)))))))) 11 2 (.one 6 2 (.one 7 2 (.one 8 3 (.one 9 3 (.one 10 3 (.one 12 1 (.one 13 2 (.one 14 2 .nil))))))))))))))) (by kernel_rfl) (by kernel_rfl) ?_
       replace Ga := Ga.drew
       refine Jj rfl rfl ?_; go_wp2_with fail
       refine Jj rfl rfl ?_; go_wp2_with fail
       refine Pc rfl rfl (by kernel_rfl) ?_; go_wp2_with fail
       refine Kl rfl rfl ?_; go_wp2_with ((refine Gn 162 rfl (by rfl) uz27 rfl GL (Pq (Ga.get 3 rfl)) (Hk _ _ _ _ _ _) ?_))
       refine Kl rfl rfl ?_; go_wp2_with (refine L_strTo (d := some 165) rfl rfl rfl uz9 (Gw rfl) (Gw rfl) i rfl (by have := HDl.out; omega) ?_; rewrite [HTa.out])
       refine Kl rfl rfl ?_; go_wp2_with ((refine Gl 166 rfl (by rfl) uz32 rfl Gv (Ga.get 0 rfl) (Dig.size _) ?_))
       refine JF (ki := 2) (kj := 2) rfl rfl ?_ ?_
       ·go_wp2_with ((go_at_call 9; (try clear Gb); refine (HA1.out _ (Ga.old (by decide) HX.out)).mono ?_; rintro e Wd ⟨rfl, Gb⟩; replace Ga := Ga.keep Gb)); refine ⟨fun _ => (Gb.below), ?_⟩
        refine Jj rfl rfl ?_; go_wp2_with fail
        refine Jj rfl rfl ?_; go_wp2_with fail
        refine Jj rfl rfl ?_; go_wp2_with fail
        refine Jj rfl rfl ?_; go_wp2_with fail
        refine G6 rfl ?_; go_wp2_with (refine Gk 21 rfl GL ?_; (try clear Gb); intro g21 W21 Gb; replace Ga := Ga.tr1 Gb); refine Gi Gb ?_
        refine JA rfl ?_; go_wp2_with ((refine Gr 21 168 Ga rfl (by rfl) (Gw rfl) (Kn _ _ _ _ _ _) GL (by rfl) 0 rfl (by rfl) ?_; clear Ga; intro WS12 Ga; simp only [Ge, Gf] at Ga))
        refine G6 rfl ?_; go_wp2_with fail; refine Gh ?_
        refine G6 rfl ?_; go_wp2_with fail; refine Gh ?_
        refine H5 ?_
        go_wp2_with fail
        go_meet
        case rel => exact ⟨_, rfl, rfl, rfl, Ga.pick [3, 4] (by decide)⟩
       ·go_wp2_with (refine Gk 21 rfl GL ?_; (try clear Gb); intro g21 W21 Gb; replace Ga := Ga.tr1 Gb); refine ⟨fun _ => (Gb.below), ?_⟩
        refine G6 rfl ?_; go_wp2_with ((go_at_call 9; (try clear Gb); refine (HA1.out _ (Ga.old (by decide) HX.out)).mono ?_; rintro e Wd ⟨rfl, Gb⟩; replace Ga := Ga.keep Gb)); refine Gi Gb ?_
        refine G6 rfl ?_; go_wp2_with fail; refine Gh ?_
        refine Jj rfl rfl ?_; go_wp2_with fail
        refine Jj rfl rfl ?_; go_wp2_with fail
        refine Jj rfl rfl ?_; go_wp2_with fail
        refine JA rfl ?_; go_wp2_with ((refine Gr 21 168 Ga rfl (by rfl) (Gw rfl) (Kn _ _ _ _ _ _) GL (by rfl) 0 rfl (by rfl) ?_; clear Ga; intro WS12 Ga; simp only [Ge, Gf] at Ga))
        refine G6 rfl ?_; go_wp2_with fail; refine Gh ?_
        refine G6 rfl ?_; go_wp2_with fail; refine Gh ?_
        refine H5 ?_
        go_wp2_with fail
        go_meet
        case rel => exact ⟨_, rfl, rfl, rfl, Ga.pick [3, 4] (by decide)⟩
      case rest =>
       obtain ⟨g21, rfl, rfl, rfl, hst2⟩ := hcut
       clear Ga
       have Ga := hst2
       clear hst2 HA1
       go_upto_region 44 with (go_big_may; fail)
       refine GO [(0, 0), (1, 2), (2, 2), (3, 1), (4, 2)] (by kernel_rfl) (by kernel_rfl) ?_
       replace Ga := Ga.drew
       refine GG rfl rfl ?_; go_wp2_with ((refine Gl 173 rfl (by rfl) uz69 rfl GE (Ga.get 1 rfl) (G3 _ _ _ _ _ _ _ _ _ _) ?_))
       refine GA rfl ?_; go_wp2_with fail; refine Gh ?_
       refine GA rfl ?_; go_wp2_with ((go_at_call 69; (try clear Gb); refine (HEr.out _).mono ?_; rintro e Wk3 ⟨rfl, Gb⟩; replace Ga := Ga.keep Gb)); refine Gi Gb ?_
       refine J6 rfl ?_; go_wp2_with ((refine Gr 4 173 Ga rfl (by rfl) (Gw rfl) (JX _ _ _ _ _ _ _ _ _ _) GE (G3 _ _ _ _ _ _ _ _ _ _) 0 rfl (by rfl) ?_; clear Ga; intro WS3 Ga; simp only [Ge, Gf] at Ga))
       refine GA rfl ?_; go_wp2_with fail; refine Gh ?_
       refine G5 ?_
       go_wp2_with fail
       refine He rfl rfl rfl rfl (Ga.get 0 rfl) uz69 rfl GE (G3 _ _ _ _ _ _ _ _ _ _) ?_
       exact HQ.out _ Ga.forget
end
section
open Go.RowKit
attribute [local simp] GR GN
theorem ransw_any (key : List UInt8) (K : Option Addr) (m mc : Nat) (s : DkS) (l : List UInt8) (A : Option Addr) (n c : Nat) (w : World) (hk : SlR w K m mc 1 (GK key)) (hm : m ≤ 140737488351232) (hx : SlR w A n c 34 (H6 s.ns)) (hok : DkOk s) (hl : l.length ≤ 140737488351232) (Q : Ending → World → Prop)
  (hno : (Jp key s l).1.ns = s.ns → ∀ w', St w w' [] → Q (.returned (.tuple #[.agg (Kv K m mc A n c (Jp key s l).1), .string (GZ (N3 (Jp key s l).2))])) w')
  (hmo : (Jp key s l).1.ns.length = n + 1 → ∀ w' O oc, St w w' [.row O (n + 1) oc 34 34 (H6 (Jp key s l).1.ns)] → Q (.returned (.tuple #[.agg (Kv K m mc O (n + 1) oc (Jp key s l).1), .string (GZ (N3 (Jp key s l).2))])) w') :
  Calls Tryz.prog 28 #[.agg (Kv K m mc A n c s), .string (GZ l)] w Q := by
 by_cases c1 : l = Ki
 ·exact ransw_head key K m mc s l A n c w hk hm hx hok hl Q c1 (hno (by rw [c1, ans_head]))
 by_cases c2 : l = Kw
 ·exact ransw_held key K m mc s l A n c w hk hm hx hok hl Q c2 (hno (by rw [c2, ans_held]))
 by_cases c3 : l = KM
 ·exact ransw_take key K m mc s l A n c w hk hm hx hok hl Q c3 (hno (by rw [c3, ans_take]))
 by_cases c4 : NU l Mj = true
 ·exact ransw_find key K m mc s l A n c w hk hm hx hok hl Q c4 (hno (by unfold Jp; rw [if_neg c1, if_neg c2, if_neg c3, if_pos c4]))
 by_cases c5 : NU l Nk = true
 ·by_cases hb : spI (l.drop 4) < (l.drop 4).length ∧ hx64 ((l.drop 4).drop (spI (l.drop 4) + 1))
  ·exact ransw_addG key K m mc s l A n c w hx hok hl Q c5 hb hno hmo
  ·exact ransw_addB key K m mc s l A n c w hl Q c5 hb (hno (by rw [ans_add key s l c5]; unfold PJ; rw [if_neg hb]))
 ·exact ransw_none key K m mc s l A n c w hk hm hx hok hl Q c1 c2 c3 (by simpa using c4) (by simpa using c5) (hno (by unfold Jp; rw [if_neg c1, if_neg c2, if_neg c3, if_neg c4, if_neg c5]))
theorem rdArr_put0 (K : Option Addr) (m mc : Nat) (A : Option Addr) (n c : Nat) (n0 : Int) (x y z : Dig) (K' : Option Addr) (m' mc' : Nat) (A' : Option Addr) (n' c' : Nat) : Jg (J9 K m mc A n c n0 x y z) 0 (Jw K' m' mc' A' n' c').toList = J9 K' m' mc' A' n' c' n0 x y z :=
 Kr (cs := J9 K m mc A n c n0 x y z) (ds := J9 K' m' mc' A' n' c' n0 x y z) [] (Jw K m mc A n c).toList (Jw K' m' mc' A' n' c').toList (H9 n0 x y z).toList rfl rfl rfl rfl
section
variable {ops : Array Oper} {rest : List Oper} {o : Oper} {a : Act} {W : World} {Q : Exit → Act → World → Prop} {d : Option Tmp}
theorem L_buildRd (hd : o.dst = d) (hw : Region.wanted o (yielded ops a.tmps) = true) {x y : Operand} (ho : o.op = .build 69 #[(0, x), (1, y)]) {K : Option Addr} {m mc : Nat} {A : Option Addr} {n c : Nat} {n0 : Int} {p q r : Dig} (hx : a.eval x = .agg (Jw K m mc A n c)) (hy : a.eval y = .agg (H9 n0 p q r))
  (h : wpList Tryz.prog ops Q rest (a.put d (.agg (J9 K m mc A n c n0 p q r))) W) : wpList Tryz.prog ops Q (o :: rest) a W :=
 Mb hd hw ho uz69 GE [(0, 2), (2, 97)] (by kernel_rfl) (ps := [(0, .agg (Jw K m mc A n c)), (1, .agg (H9 n0 p q r))]) (by simp [hx, hy]) (qs := [(0, (Jw K m mc A n c).toList), (2, (H9 n0 p q r).toList)])
  ⟨rfl, rfl, by rw [G3]; simp [Jw], by rw [Array.length_toList, GR]; rfl, rfl, by rw [G3, Array.length_toList, GR]; decide, trivial⟩
  (by
   unfold KG KG KG
   rw [rdArr_put0, NP]) h
end
theorem rbegun_any (K : Option Addr) (m mc : Nat) (w : World) : Calls Tryz.prog 27 #[.slice K m mc] w fun e w' => e = .returned (.agg (J9 K m mc none 0 0 0 (sha []) GM GM)) ∧ St w w' [] := by
 have Ga := St.refl w
 have HF := Gg (fun w' => first_any w')
 generalize sha [] = s0 at *
 go_enter Tryz.func27, Tryz.ntmps27
 go_upto_region 1 with (go_big_may; (refine Gk 2 rfl GE ?_; (try clear Gb); intro g2 W2 Gb; replace Ga := Ga.tr1 Gb))
 go_wp2_with (first | (refine L_buildQ0 (d := some 4) rfl rfl rfl (Gw rfl) ?_) | (go_at_call 66; (try clear Gb); refine (HF.out _).mono ?_; rintro e Wk1 ⟨rfl, Gb⟩; replace Ga := Ga.keep Gb) | (refine L_buildRd (d := some 6) rfl rfl rfl (Gw rfl) (Gw rfl) ?_) | ((refine Gr 2 6 Ga rfl (by rfl) (Gw rfl) (JX _ _ _ _ _ _ _ _ _ _) GE (G3 _ _ _ _ _ _ _ _ _ _) 0 rfl (by rfl) ?_; clear Ga; intro WS4 Ga; simp only [Ge, Gf] at Ga)))
 refine Hw rfl rfl rfl (Ga.get 0 rfl) uz69 rfl GE (G3 _ _ _ _ _ _ _ _ _ _) ?_
 exact ⟨rfl, Ga.forget⟩
theorem KA (K : Option Addr) (m mc : Nat) (A : Option Addr) (n c : Nat) (s : DkS) : (Kv K m mc A n c s).size = 99 := G3 _ _ _ _ _ _ _ _ _ _
theorem PH (K : Option Addr) (m mc : Nat) (A : Option Addr) (n c : Nat) (s : DkS) : (Kv K m mc A n c s).all (·.oneCell') = true := JX _ _ _ _ _ _ _ _ _ _
theorem rdOf_0 (K : Option Addr) (m mc : Nat) : J9 K m mc none 0 0 0 (sha []) GM GM = Kv K m mc none 0 0 ⟨[], 0, GM⟩ := by
 unfold Kv
 rw [List.take_nil, show lvN [] = [] from rfl, rootN_nil, mapN_nil]
 rfl
theorem St.gr1 {w0 W : World} {r0 b8 b6 r1 : Res} {T : List Res} (h : St w0 W (r0 :: b8 :: b6 :: r1 :: T)) : St w0 W (b8 :: b6 :: r0 :: T) :=
 (h.drop (L' := r0 :: b8 :: b6 :: T) ((((List.sublist_cons_self r1 T).cons_cons b6).cons_cons b8).cons_cons r0)).perm ((List.Perm.swap b8 r0 _).trans ((List.Perm.swap b6 r0 T).cons b8))
theorem St.gr2 {w0 W : World} {r0 b8 b6 r1 : Res} {T : List Res} (h : St w0 W (b8 :: r0 :: b6 :: r1 :: T)) : St w0 W (b8 :: b6 :: r0 :: T) :=
 (h.perm (List.Perm.swap r0 b8 _)).gr1
theorem deskAnswers_any (w : World) (hT : Tb w) (hP : Pz w) (hE : Eb w) (key : List UInt8) (K : Option Addr) (m mc : Nat) (hk : SlR w K m mc 1 (GK key)) (hm0 : m * 1 ≤ 140737488351232) (ls : List (List UInt8)) (A : Option Addr) (n nc : Nat) (hx : SlR w A n nc 1 (strsL ls)) (hz : ∀ l ∈ ls, l.length ≤ 140737488351232) :
  Calls Tryz.prog 5 #[.slice K m mc, .slice A n nc] w fun e w' => e = .returned (.bool true) ∧ St w w' [] := by
 have Ga := St.refl w
 have HT := Gg hT
 have HX := Gg hx
 have HK := Gg hk
 have hl : ls.length = n := by have := hx.1; rw [length_strsL] at this; omega
 have HL := Gg hl
 have HZ := Gg hz
 have hm : m ≤ 140737488351232 := by omega
 have HN := Gg (fun (w' : World) (ht : Tb w') (h : SlR w' K m mc 1 (GK key)) => dnew_any key K m mc w' ht h hm)
 have HBg := Gg (fun w' => rbegun_any K m mc w')
 rewrite [rdOf_0] at HBg
 have HDo := Gg (fun (s : DkS) (l : List UInt8) (d : DkP) (p : LgP) (w' : World) (L : List Res) (h : St w w' (dkB d p key s ++ L)) (hi : DkInv key m s d p) (hl : l.length ≤ 140737488351232) => show Calls Tryz.prog 29 #[.pointer (some ⟨d.g, 0, none⟩), .string (GZ l)] w' fun e w2 => e = .returned (.string (GZ (N3 (Jp key s l).2))) ∧ ∃ p' : LgP, Hid (DkInv key m (Jp key s l).1 d p') ∧ St w w2 (dkB d p' key (Jp key s l).1 ++ L) by
  rw [← dkR_B] at h
  refine (Do_any key s l d p w w' L hT hP hE h hi.2.1 hi.1 (by have := hi.2.2.1; omega) (by have := hi.2.2.2; omega) hl).mono ?_
  rintro e w2 ⟨rfl, p', h1, h2, h3, h4⟩
  rw [dkR_B] at h4
  exact ⟨rfl, p', Gg (hi.next h2 h3), h4⟩)
 have HAn := Gg (fun (s : DkS) (l : List UInt8) (O : Option Addr) (oc : Nat) (w' : World) (hok : DkOk s) (hl : l.length ≤ 140737488351232) (h1 : SlR w' K m mc 1 (GK key)) (h2 : SlR w' O s.ns.length oc 34 (H6 s.ns)) => ransw_any key K m mc s l O s.ns.length oc w' h1 hm h2 hok hl)
 clear hT hP hE hx hk hm0 hl hz
 go_enter Tryz.func5, Tryz.ntmps5
 by_cases h40 : 40 < (n : Int)
 ·skip
  go_upto_region 1 with (go_big_may; fail)
  go_upto_region 2 with (go_big_may; fail)
  go_wp2_with (fail)
  go_ret
  exact ⟨rfl, Ga.forget⟩
 go_upto_region 1 with (go_big_may; fail)
 go_upto_region 3 with (go_big_may; fail)
 go_upto_region 4 with (go_big_may; (go_at_call 26; refine (HN.out _ (HT.out.of Ga) (Ga.old (by decide) HK.out)).mono ?_; rintro e Wn ⟨d, p, rfl, hdm, hpm, hmp, Gb⟩; replace Ga := Ga.trans Gb; clear Gb))
 go_upto_region 6 with (go_big_may; fail)
 have h40' : n ≤ 40 := by omega
 clear HN h40
 have HI0 := Gg (show DkInv key m ⟨[], 0, GM⟩ d p from ⟨⟨.nil, Nat.le_refl _⟩, hmp, hpm, hdm⟩)
 clear hdm hpm hmp
 obtain ⟨s0, hs0⟩ : ∃ s : DkS, s = ⟨[], 0, GM⟩ := ⟨_, rfl⟩
 have HS0 := Gg (show s0.ns = [] by rw [hs0])
 rewrite [List.append_nil, ← hs0, dkR_B] at Ga
 rewrite [← hs0] at HI0 HBg
 clear hs0
 go_upto_region 7 with (go_big_may; first | (go_at_call 27; (try clear Gb); refine (HBg.out _).mono ?_; rintro e Wk2 ⟨rfl, Gb⟩; replace Ga := Ga.keep Gb) | (refine Gk 6 rfl GE ?_; (try clear Gb); intro g6 W6 Gb; replace Ga := Ga.tr1 Gb) | ((refine Gr 6 20 Ga rfl (by rfl) (Gw rfl) (PH _ _ _ _ _ _ _) GE (KA _ _ _ _ _ _ _) 0 rfl (by rfl) ?_; clear Ga; intro WS3 Ga; simp only [Ge, Gf] at Ga)))
 go_wp2_with (fail)
 (try clear Gb)
 clear HBg
 replace Ga := (Ga.nilRow 34 34).perm (List.Perm.swap _ _ _)
 go_loopg [7] n (fun gk s7 wr => ∃ (i : Nat) (s : DkS) (q : LgP) (O : Option Addr) (oc : Nat), Hid (i + gk = n) ∧ Hid (DkInv key m s d q) ∧ s7 = .int .i64 (i : Int) ∧
  St w wr (.blk g6 69 (Kv K m mc O s.ns.length oc s) :: .row O s.ns.length oc 34 34 (H6 s.ns) :: (dkB d q key s ++ [])))
 case atStart => exact ⟨0, s0, p, none, 0, Gg (by omega), HI0, rfl, by rw [HS0.out]; exact Ga⟩
 case round =>
  clear Ga HI0
  obtain ⟨i, s, q, O, oc, HI, HV, rfl, Ga⟩ := hrel
  have hi := HI.out
  by_cases hin : i < n
  ·have hil : i < ls.length := by rw [HL.out]; exact hin
   have HC := Gg (fun (W : World) (g off : Nat) h => strs_at (W := W) (g := g) (off := off) (i := i) (ls := ls) h hil)
   have hzl := HZ.out ls[i] (List.getElem_mem hil)
   have HD := Gg (fun (w' : World) (L : List Res) h => HDo.out s ls[i] d q w' L h HV.out hzl)
   have HA := Gg (fun (w' : World) h1 h2 => HAn.out s ls[i] O oc w' HV.out.1 hzl h1 h2)
   generalize ls[i] = l at *
   obtain ⟨ta, hta⟩ : ∃ t, t = N3 (Jp key s l).2 := ⟨_, rfl⟩
   obtain ⟨tb, htb⟩ : ∃ t, t = N3 (Jp key s l).2 := ⟨_, rfl⟩
   rewrite [← hta] at HD
   rewrite [← htb] at HA
   have HEq := Gg (show (!decide (ta = tb)) = false by rw [decide_eq_true (hta.trans htb.symm)]; rfl)
   clear hil hzl hi hta htb
   by_cases hns : (Jp key s l).1.ns = s.ns
   ·have HA1 := Gg (fun (w' : World) (h1 : SlR w' K m mc 1 (GK key)) (h2 : SlR w' O s.ns.length oc 34 (H6 s.ns)) => HA.out w' h1 h2 (fun e w2 => e = .returned (.tuple #[.agg (Kv K m mc O s.ns.length oc (Jp key s l).1), .string (GZ tb)]) ∧ St w' w2 []) (fun _ w2 h => ⟨rfl, h⟩) (fun h => absurd h (by rw [hns]; omega)))
    have HNs := Gg hns
    clear HA hns
    generalize (Jp key s l).1 = s1 at *
    go_upto_region 10 with (go_big_may; fail)
    go_simp
    go_cut [8, 9] (fun s8 s9 wx => ∃ g8 : Nat, s8 = .pointer (some ⟨g8, 0, none⟩) ∧ s9 = .string (GZ tb) ∧ St w wx (.blk g8 69 (Kv K m mc O s.ns.length oc s1) :: .blk g6 69 (Kv K m mc O s.ns.length oc s) :: .row O s.ns.length oc 34 34 (H6 s.ns) :: (dkB d q key s ++ [])))
    case first =>
     refine Ht (.one 1 3 (.one 2 3 (.one 0 0 (.one 3 0 (.one 4 0 (.two 5 2 (.one 6 3 (.one 7 3 (.one 8 3 (.one 9 2 (.one 10 1 (.one 11 2 .nil)))))) 9 2 (.one 5 2 (.one 6 2 (.one 7 3 (.one 8 3 (.one 10 1 (.one 11 2 .nil)))))))))))) (by kernel_rfl) (by kernel_rfl) ?_
     replace Ga := Ga.drew
     refine Jj rfl rfl ?_; go_wp2_with fail
     refine Jj rfl rfl ?_; go_wp2_with fail
     refine Kl rfl rfl ?_; go_wp2_with ((refine Gl 28 rfl (by rfl) uz69 rfl GE (Ga.get 0 rfl) (KA _ _ _ _ _ _ _) ?_))
     refine Kl rfl rfl ?_; go_wp2_with (refine Gp 31 rfl (by rfl) (by rfl) uz65 M8 (Ga.old (by decide) HX.out) (by omega) (by omega) ?_; intro o31 p31 ha31 hr31; ((subst ha31)))
     refine Kl rfl rfl ?_; go_wp2_with (refine Gj 32 rfl (by rfl) uz9 rfl (HC.out _ _ _ hr31) ?_)
     refine JF (ki := 2) (kj := 2) rfl rfl ?_ ?_
     ·go_wp2_with ((go_at_call 28; (try clear Gb); refine (HA1.out _ (Ga.old (by decide) HK.out) (Ga.sl 1 rfl)).mono ?_; rintro e Wd ⟨rfl, Gb⟩; replace Ga := Ga.keep Gb)); refine ⟨fun _ => (Gb.below), ?_⟩
      refine Jj rfl rfl ?_; go_wp2_with fail
      refine Jj rfl rfl ?_; go_wp2_with fail
      refine Jj rfl rfl ?_; go_wp2_with fail
      refine G6 rfl ?_; go_wp2_with (refine Gk 8 rfl GE ?_; (try clear Gb); intro g8 W8 Gb; replace Ga := Ga.tr1 Gb); refine Gi Gb ?_
      refine JA rfl ?_; go_wp2_with ((refine Gr 8 34 Ga rfl (by rfl) (Gw rfl) (PH _ _ _ _ _ _ _) GE (KA _ _ _ _ _ _ _) 0 rfl (by rfl) ?_; clear Ga; intro WS10 Ga; simp only [Ge, Gf] at Ga))
      refine G6 rfl ?_; go_wp2_with fail; refine Gh ?_
      refine H5 ?_
      go_wp2_with fail
      go_meet
      case rel => exact ⟨_, rfl, rfl, Ga⟩
     ·go_wp2_with (refine Gk 8 rfl GE ?_; (try clear Gb); intro g8 W8 Gb; replace Ga := Ga.tr1 Gb); refine ⟨fun _ => (Gb.below), ?_⟩
      refine G6 rfl ?_; go_wp2_with ((go_at_call 28; (try clear Gb); refine (HA1.out _ (Ga.old (by decide) HK.out) (Ga.sl 2 rfl)).mono ?_; rintro e Wd ⟨rfl, Gb⟩; replace Ga := Ga.keep Gb)); refine Gi Gb ?_
      refine G6 rfl ?_; go_wp2_with fail; refine Gh ?_
      refine Jj rfl rfl ?_; go_wp2_with fail
      refine Jj rfl rfl ?_; go_wp2_with fail
      refine JA rfl ?_; go_wp2_with ((refine Gr 8 34 Ga rfl (by rfl) (Gw rfl) (PH _ _ _ _ _ _ _) GE (KA _ _ _ _ _ _ _) 0 rfl (by rfl) ?_; clear Ga; intro WS10 Ga; simp only [Ge, Gf] at Ga))
      refine G6 rfl ?_; go_wp2_with fail; refine Gh ?_
      refine H5 ?_
      go_wp2_with fail
      go_meet
      case rel => exact ⟨_, rfl, rfl, Ga⟩
    case rest =>
     obtain ⟨g8, rfl, rfl, hst2⟩ := hcut
     clear Ga
     have Ga := hst2
     clear hst2 HA1
     go_upto_region 12 with (go_big_may; first | (refine Gl 36 rfl (by rfl) uz69 rfl GE (Ga.get 0 rfl) (KA _ _ _ _ _ _ _) ?_) | ((refine Gr 6 36 Ga rfl (by rfl) (Gw rfl) (PH _ _ _ _ _ _ _) GE (KA _ _ _ _ _ _ _) 1 rfl (KA _ _ _ _ _ _ _) ?_; clear Ga; intro WS1 Ga; simp only [Ge, Gf] at Ga)))
     replace Ga := St.swap (X := [_, _, _]) (Y := dkB d q key s) (L := []) Ga
     go_upto_region 13 with (go_big_may; first | (refine Gj 41 rfl (by rfl) uz9 rfl (HC.out _ _ _ hr40) ?_) | (go_at_call 29; refine (HD.out _ _ Ga).mono ?_; rintro e Wd ⟨rfl, q1, u1, hst'⟩; clear Ga; have Ga := hst'; clear hst') | (refine Gp 40 rfl (by rfl) (by rfl) uz65 M8 (Ga.old (by decide) HX.out) (by omega) (by omega) ?_; intro o40 p40 ha40 hr40; ((subst ha40))))
     replace Ga := St.swap (X := dkB d q1 key s1) (Y := [_, _, _]) (L := []) Ga
     simp only [Gc, Gd] at Ga
     go_upto_region 9 with (go_big_may; (refine MW (d := some 45) (s := ta) (u := tb) rfl rfl rfl (by kernel_rfl) uz9 (Gw rfl) (Gw rfl) ?_; rewrite [HEq.out]))
     go_wp2_with (fail)
     go_roundg (gk - 1)
     case measure => have := HI.out; omega
     case rel => exact ⟨i + 1, s1, q1, O, oc, Gg (by have := HI.out; omega), u1, by go_num, by rw [HNs.out]; exact Ga.tail⟩
   ·have HA1 := Gg (fun (w' : World) (h1 : SlR w' K m mc 1 (GK key)) (h2 : SlR w' O s.ns.length oc 34 (H6 s.ns)) => HA.out w' h1 h2 (fun e w2 => ∃ O1 o1, e = .returned (.tuple #[.agg (Kv K m mc O1 (Jp key s l).1.ns.length o1 (Jp key s l).1), .string (GZ tb)]) ∧ St w' w2 [.row O1 (Jp key s l).1.ns.length o1 34 34 (H6 (Jp key s l).1.ns)]) (fun h => absurd h hns) (fun hl w2 O1 o1 h => ⟨O1, o1, by rw [hl], by rw [hl]; exact h⟩))
    clear HA hns
    generalize (Jp key s l).1 = s1 at *
    go_upto_region 10 with (go_big_may; fail)
    go_simp
    go_cut [8, 9] (fun s8 s9 wx => ∃ (g8 : Nat) (O1 : Option Addr) (o1 : Nat), s8 = .pointer (some ⟨g8, 0, none⟩) ∧ s9 = .string (GZ tb) ∧ St w wx (.blk g8 69 (Kv K m mc O1 s1.ns.length o1 s1) :: .blk g6 69 (Kv K m mc O s.ns.length oc s) :: .row O1 s1.ns.length o1 34 34 (H6 s1.ns) :: (dkB d q key s ++ [])))
    case first =>
     refine Ht (.one 1 3 (.one 2 3 (.one 0 0 (.one 3 0 (.one 4 0 (.two 5 2 (.one 6 3 (.one 7 3 (.one 8 3 (.one 9 2 (.one 10 1 (.one 11 2 .nil)))))) 9 2 (.one 5 2 (.one 6 2 (.one 7 3 (.one 8 3 (.one 10 1 (.one 11 2 .nil)))))))))))) (by kernel_rfl) (by kernel_rfl) ?_
     replace Ga := Ga.drew
     refine Jj rfl rfl ?_; go_wp2_with fail
     refine Jj rfl rfl ?_; go_wp2_with fail
     refine Kl rfl rfl ?_; go_wp2_with ((refine Gl 28 rfl (by rfl) uz69 rfl GE (Ga.get 0 rfl) (KA _ _ _ _ _ _ _) ?_))
     refine Kl rfl rfl ?_; go_wp2_with (refine Gp 31 rfl (by rfl) (by rfl) uz65 M8 (Ga.old (by decide) HX.out) (by omega) (by omega) ?_; intro o31 p31 ha31 hr31; ((subst ha31)))
     refine Kl rfl rfl ?_; go_wp2_with (refine Gj 32 rfl (by rfl) uz9 rfl (HC.out _ _ _ hr31) ?_)
     refine JF (ki := 2) (kj := 2) rfl rfl ?_ ?_
     ·go_wp2_with ((go_at_call 28; (try clear Gb); refine (HA1.out _ (Ga.old (by decide) HK.out) (Ga.sl 1 rfl)).mono ?_; rintro e Wd ⟨O1, o1, rfl, Gb⟩; replace Ga := Ga.trans Gb; simp only [Gc, Gd] at Ga)); refine ⟨fun _ => (Gb.below), ?_⟩
      refine Jj rfl rfl ?_; go_wp2_with fail
      refine Jj rfl rfl ?_; go_wp2_with fail
      refine Jj rfl rfl ?_; go_wp2_with fail
      refine G6 rfl ?_; go_wp2_with (refine Gk 8 rfl GE ?_; (try clear Gb); intro g8 W8 Gb; replace Ga := Ga.tr1 Gb); refine Gi Gb ?_
      refine JA rfl ?_; go_wp2_with ((refine Gr 8 34 Ga rfl (by rfl) (Gw rfl) (PH _ _ _ _ _ _ _) GE (KA _ _ _ _ _ _ _) 0 rfl (by rfl) ?_; clear Ga; intro WS10 Ga; simp only [Ge, Gf] at Ga))
      refine G6 rfl ?_; go_wp2_with fail; refine Gh ?_
      refine H5 ?_
      go_wp2_with fail
      go_meet
      case rel => (exact ⟨_, _, _, rfl, rfl, Ga.gr2⟩)
     ·go_wp2_with (refine Gk 8 rfl GE ?_; (try clear Gb); intro g8 W8 Gb; replace Ga := Ga.tr1 Gb); refine ⟨fun _ => (Gb.below), ?_⟩
      refine G6 rfl ?_; go_wp2_with ((go_at_call 28; (try clear Gb); refine (HA1.out _ (Ga.old (by decide) HK.out) (Ga.sl 2 rfl)).mono ?_; rintro e Wd ⟨O1, o1, rfl, Gb⟩; replace Ga := Ga.trans Gb; simp only [Gc, Gd] at Ga)); refine Gi Gb ?_
      refine G6 rfl ?_; go_wp2_with fail; refine Gh ?_
      refine Jj rfl rfl ?_; go_wp2_with fail
      refine Jj rfl rfl ?_; go_wp2_with fail
      refine JA rfl ?_; go_wp2_with ((refine Gr 8 34 Ga rfl (by rfl) (Gw rfl) (PH _ _ _ _ _ _ _) GE (KA _ _ _ _ _ _ _) 1 rfl (by rfl) ?_; clear Ga; intro WS10 Ga; simp only [Ge, Gf] at Ga))
      refine G6 rfl ?_; go_wp2_with fail; refine Gh ?_
      refine H5 ?_
      go_wp2_with fail
      go_meet
      case rel => (exact ⟨_, _, _, rfl, rfl, Ga.gr1⟩)
    case rest =>
     obtain ⟨g8, O1, o1, rfl, rfl, hst2⟩ := hcut
     clear Ga
     have Ga := hst2
     clear hst2 HA1
     go_upto_region 12 with (go_big_may; first | (refine Gl 36 rfl (by rfl) uz69 rfl GE (Ga.get 0 rfl) (KA _ _ _ _ _ _ _) ?_) | ((refine Gr 6 36 Ga rfl (by rfl) (Gw rfl) (PH _ _ _ _ _ _ _) GE (KA _ _ _ _ _ _ _) 1 rfl (KA _ _ _ _ _ _ _) ?_; clear Ga; intro WS1 Ga; simp only [Ge, Gf] at Ga)))
     replace Ga := St.swap (X := [_, _, _]) (Y := dkB d q key s) (L := []) Ga
     go_upto_region 13 with (go_big_may; first | (refine Gj 41 rfl (by rfl) uz9 rfl (HC.out _ _ _ hr40) ?_) | (go_at_call 29; refine (HD.out _ _ Ga).mono ?_; rintro e Wd ⟨rfl, q1, u1, hst'⟩; clear Ga; have Ga := hst'; clear hst') | (refine Gp 40 rfl (by rfl) (by rfl) uz65 M8 (Ga.old (by decide) HX.out) (by omega) (by omega) ?_; intro o40 p40 ha40 hr40; ((subst ha40))))
     replace Ga := St.swap (X := dkB d q1 key s1) (Y := [_, _, _]) (L := []) Ga
     simp only [Gc, Gd] at Ga
     go_upto_region 9 with (go_big_may; (refine MW (d := some 45) (s := ta) (u := tb) rfl rfl rfl (by kernel_rfl) uz9 (Gw rfl) (Gw rfl) ?_; rewrite [HEq.out]))
     go_wp2_with (fail)
     go_roundg (gk - 1)
     case measure => have := HI.out; omega
     case rel => exact ⟨i + 1, s1, q1, O1, o1, Gg (by have := HI.out; omega), u1, by go_num, Ga.tail⟩
  ·obtain rfl : i = n := by omega
   clear hi HI HZ HL hin HAn
   have H1 := Gg (fun (w' : World) (L : List Res) h => by
    have := HDo.out s tNothing d q w' L h HV.out (by decide)
    rewrite [ans_nothing] at this
    exact this)
   simp only at H1
   rewrite [show N3 (1, []) = Pa 1 from rfl] at H1
   obtain ⟨tk, htk⟩ : ∃ t, t = Pa 1 := ⟨_, rfl⟩
   rewrite [← htk] at H1
   have HE1 := Gg (show decide (tk = Pa 1) = true from decide_eq_true htk)
   clear htk
   replace Ga := St.swap (X := [_, _]) (Y := dkB d q key s) (L := []) Ga
   go_upto_region 15 with (go_big_may; fail)
   go_upto_region 16 with (go_big_may; (go_at_call 29; refine (H1.out _ _ Ga).mono ?_; rintro e Wd ⟨rfl, q1, u1, hst'⟩; clear Ga; have Ga := hst'; clear hst'))
   go_wp2_with (refine Ja (d := some 49) (s := tk) (u := Pa 1) rfl rfl rfl (by kernel_rfl) uz9 (Gw rfl) GT ?_; rewrite [HE1.out])
   go_ret
   exact ⟨rfl, Ga.forget⟩
end
section
open Go.ChangeShapes Go.WideShapes Go.ChangeAt Go.RowKit Go.Deep
section
variable {P : Program} {H : Type} {enc : TypeId × Value → H} {W : World} {base : Nat} {spare : Nat → Bool} {held : Bool}
theorem weight_in {e : TypeId} : ∀ {el : List (DataW H)} {bytes : List UInt8}, (.lit (.string bytes)) ∈ el → bytes.length ∈ DataW.weightsAll P e el
 | [], _, h => by cases h
 | d :: el, bytes, h => by
  rw [DataW.weightsAll, List.mem_append]
  rcases List.mem_cons.1 h with rfl | h
  ·exact .inl (by simp [DataW.weights])
  ·exact .inr (weight_in h)
theorem open_linesS {r : Reach} {b0 : Nat} {t t1 : TypeId} {v : Value} {d : DataW H} {p : List MemPlace} (hts : P.underlying t = some (.slice t1)) (ht : P.underlying t1 = some .string) (ct : P.cellsOf t1 = 1)
  (hval : Value.okWide P W r b0 t v) (h : DataW.Trod enc P W base spare held t v d p) {ts : List TypeId} {ds : List (DataW H)} (hz : (DataW.weightsEach P ts ds).all (· ≤ reachBytes) = true) {j : Nat} (hj : ts[j]? = some t) (hd : ds[j]? = some d) :
  ∃ A n c ls, v = .slice A n c ∧ SlR W A n c 1 (strsL ls) ∧ (∀ l ∈ ls, l.length ≤ 140737488351232) := by
 obtain ⟨a0, len0, cap0, rfl⟩ := okWide_slice hts hval
 obtain ⟨fuel, hf⟩ := h
 rcases open_slice hts hf with ⟨hcs, hx⟩ | ⟨a, len, cap, m, k, D, Pl, hcs, hb, hl, hm, hmm, hx, hel⟩
 ·simp only [Value.cells, List.cons.injEq, Value.slice.injEq, and_true] at hcs
  obtain ⟨rfl, rfl, rfl⟩ := hcs
  exact ⟨none, 0, 0, [], rfl, SlR.nil_ W 1, fun l hl => by cases hl⟩
 ·simp only [Value.cells, List.cons.injEq, Value.slice.injEq, and_true] at hcs
  obtain ⟨rfl, rfl, rfl⟩ := hcs
  simp only [Prod.mk.injEq] at hx
  rw [ct] at hel
  have hlm : len0 ≤ m := by rw [hmm]; split <;> omega
  obtain ⟨bs, hbs⟩ := choose_below (α := List UInt8) (n := len0) (p := fun i b => W.cells? base (a.add (i * 1)) 1 = some [.string (GZ b)] ∧ b.length ≤ 140737488351232) (fun i hi => by
   obtain ⟨cs', k1, k2⟩ := hel i (by omega)
   obtain ⟨s, hs, hxx, _⟩ := DataW.trod_string ht k2
   refine ⟨s.data.toList, by rw [k1, hs, ← bsOf_eta s], ?_⟩
   have h1 : D i = .lit (.string s.data.toList) := congrArg Prod.fst hxx
   have h2 : (.lit (.string s.data.toList) : DataW H) ∈ List.map D (List.range len0) := List.mem_map.2 ⟨i, List.mem_range.2 hi, h1⟩
   have h3 := DataW.weights_mem_each (P := P) hj hd s.data.toList.length (by
    rw [hx.1, DataW.weights, hts]
    exact List.mem_cons_of_mem _ (List.mem_append.2 (.inl (weight_in h2))))
   have h4 := List.all_eq_true.1 hz _ h3
   have h5 : s.data.toList.length ≤ reachBytes := by simpa using h4
   have := reach_le (n := s.data.toList.length) (b := 1) (by rw [Nat.mul_one]; exact h5)
   omega)
  have hs := slr_of (W := W) (base := base) (A := some a) (n := len0) (c := cap0) (s := 1) (by decide) (fun i => [.string (GZ (bs i))]) hl hm (fun _ => ⟨a, rfl, fun i hi => (hbs i hi).1⟩)
  refine ⟨some a, len0, cap0, (List.range len0).map bs, rfl, ?_, ?_⟩
  ·have hfl : ∀ l : List Nat, l.flatMap (fun i => [Value.string (GZ (bs i))]) = strsL (l.map bs) := by
    intro l
    induction l with
    | nil => rfl
    | cons x l ih => simp only [List.flatMap_cons, ih, List.map_cons, strsL, List.singleton_append]
   rw [hfl] at hs
   exact hs
  ·intro q hq
   obtain ⟨i, hi, rfl⟩ := List.mem_map.1 hq
   exact (hbs i (List.mem_range.1 hi)).2
end
end
section
open Go.ChangeShapes Go.WideShapes Go.RowKit
def ebCell : Value := .iface 209 (.agg #[.pointer (some ⟨6, 36, none⟩)])
theorem etG : Tryz.prog.globalNamed "errors.errorType" = some 0 := by kernel_rfl
theorem rtT : (Tryz.prog.cutTypes.find? (·.1 == "internal/reflectlite.rtype")).map (·.2) = some 209 := by kernel_rfl
theorem oneRow : ((List.range 297).filter fun t => Tryz.prog.rowNamed t [101, 114, 114, 111, 114]) = [36] := by kernel_rfl
theorem nTypes : Tryz.prog.types.size = 297 := by kernel_rfl
theorem eb_of {W : World} (h : handlesMet Tryz.prog [("errors.errorType", Rows.laid_errors_errorType)] W) : Eb W := by
 obtain ⟨name, u, ty, e1, e2, e3, e4, e5⟩ := h _ (List.mem_singleton.2 rfl)
 have en : name = [101, 114, 114, 111, 114] := (Option.some.inj e1).symm
 subst en
 obtain rfl := Option.some.inj (rtT.symm.trans e2)
 have hm : ty ∈ (List.range 297).filter fun t => Tryz.prog.rowNamed t [101, 114, 114, 111, 114] := List.mem_filter.2 ⟨List.mem_range.2 (by rw [← nTypes]; exact e3), e4⟩
 rw [oneRow] at hm
 obtain rfl := List.mem_singleton.1 hm
 have hh : typeHandle Tryz.prog 36 = .pointer (some ⟨6, 36, none⟩) := by kernel_rfl
 rw [hh] at e5
 simpa [Eb] using World.var?_cell etG e5 0
end
end Go.Proofs.YtaebeemnipafbaaGreatDoor
namespace Go.Proofs.YtaebeemnipafbaaGreatDoor.deskAnswers
open Go.ChangeShapes Go.WideShapes Go.ChangeAt Go.RowKit
theorem own : ownKnob Tryz.prog.godebug = none := by kernel_rfl
theorem laidOut : laidOutB Tryz.prog = true := by kernel_rfl
theorem cellsD : Tryz.prog.cellsOf 32 = 32 := by kernel_rfl
theorem cells8 : Tryz.prog.cellsOf 5 = 1 := by kernel_rfl
theorem contract (H : Type) (enc : TypeId × Value → H) (W : World) (base : Nat) (args : Array Value) (ds gs : List (DataW H)) (before : List MemPlace)
  (hval : ∀ (j : Nat) t v, Tryz.f5.params[j]? = some t → args[j]? = some v → Value.okWide Tryz.prog W .any base t v)
  (hW : DataW.Whole enc Tryz.prog Tryz.f5.params.toList Rows.deskAnswersSpec.vars false W args.toList ds gs before) (hT : Tb W) (hE : Eb W) (hP : Pz W)
  (hz : (DataW.weightsEach Tryz.prog (Tryz.f5.params.toList ++ (OpenSpec.ofChange Rows.deskAnswersSpec).bare.plain.varTypes Tryz.prog) (ds ++ gs)).all (· ≤ reachBytes) = true) :
  Calls Tryz.prog 5 args W fun e W' => ∃ v, e = .returned v ∧ Rows.deskAnswersSpec.post enc Tryz.prog Tryz.f5 false true false false W args v W' := by
 have hW' := hW
 obtain ⟨p, q, hA0, hV, rfl, hfz, hnd⟩ := hW
 have hA : DataW.TrodAll enc Tryz.prog W 0 (fun _ => true) true Tryz.f5.params.toList args.toList ds p := hA0
 rw [Tryz.params5] at hA hval hz
 obtain ⟨v0, vs0, d0, ds0, p0, q0, hargs, rfl, rfl, h0, r0⟩ := trodAll_cons hA
 obtain ⟨v1, vs1, d1, ds1, p1, q1, rfl, rfl, rfl, h1, r1⟩ := trodAll_cons r0
 obtain ⟨rfl, rfl, rfl⟩ := trodAll_nil r1
 obtain rfl : args = #[v0, v1] := by cases args; simp_all
 obtain ⟨rfl, rfl⟩ := trodVars_none hV
 obtain ⟨A0, n0, c0, a0, rfl, hs0, hd0⟩ := open_bytesS uz22 uz5 cells8 (hval 0 _ v0 rfl rfl) h0
 have hn0 : n0 * 1 ≤ 140737488351232 := by
  rcases hd0 with ⟨_, h0⟩ | ⟨el, sp, rfl, hel⟩
  ·rw [h0]; decide
  ·have := sized_slice hz (j := 0) (e := 5) rfl rfl uz22
   rw [show Tryz.prog.bytesOf 5 = 1 from by kernel_rfl] at this
   have := reach_le this
   rw [← hel]
   omega
 obtain ⟨A1, n1, c1, a1, rfl, hs1, hw1⟩ := open_linesS uz65 uz9 (by kernel_rfl) (hval 1 _ v1 rfl rfl) h1 hz (j := 1) rfl rfl
 have lt0 : ∀ x ∈ p0, x.block < W.heap.size := by obtain ⟨m, hm⟩ := h0; exact DataW.trod_lt m _ _ _ hm
 have lt1 : ∀ x ∈ p1, x.block < W.heap.size := by obtain ⟨m, hm⟩ := h1; exact DataW.trod_lt m _ _ _ hm
 clear hA0
 refine (deskAnswers_any W hT hP hE a0 A0 n0 c0 hs0 hn0 a1 A1 n1 c1 hs1 hw1).mono fun e W' ⟨he, Ga⟩ => ?_
 have bel := Ga.below
 subst he
 exact ⟨_, rfl, _, _, _, [], _, [], hW', trodAll_mk1 (shut_bool uz4 _),
  (trodAll_cons_mk (Below.trod laidOut (by kernel_rfl) (of_decide_eq_true (by kernel_rfl)) h0 bel lt0) (trodAll_cons_mk (Below.trod laidOut (by kernel_rfl) (of_decide_eq_true (by kernel_rfl)) h1 bel lt1) trodAll_mk0)), rfl, bel.frame _, fun h => by cases h⟩
noncomputable def laidWorldA (os : Os) : World :=
 { World.holding Tryz.prog os ⟨#[], #[], []⟩ with heap := (World.holding Tryz.prog os ⟨#[], #[], []⟩).heap.modify 1 fun
   | .cells _ t frozen => .cells tblArr t frozen
   | o => o }
noncomputable def laidWorldB (os : Os) : World :=
 { laidWorldA os with heap := (laidWorldA os).heap.modify 4 fun
   | .cells _ t frozen => .cells d32Arr t frozen
   | o => o }
noncomputable def laidWorldC (os : Os) : World :=
 { laidWorldB os with heap := (laidWorldB os).heap.modify 5 fun
   | .cells _ t frozen => .cells d64Arr t frozen
   | o => o }
noncomputable def laidWorld0 (os : Os) : World :=
 { laidWorldC os with heap := (laidWorldC os).heap.modify 3 fun
   | .cells _ t frozen => .cells pwArr t frozen
   | o => o }
noncomputable def laidWorld (os : Os) : World :=
 { laidWorld0 os with heap := (laidWorld0 os).heap.modify 0 fun
   | .cells _ t frozen => .cells #[ebCell] t frozen
   | o => o }
theorem laid_met (os : Os) : laidMetH Tryz.prog Rows.deskAnswersRow.laid ((laidWorld os).forCall (fun _ _ => 0) ⟨#[], #[.slice none 0 0, .slice none 0 0], []⟩).memory :=
 laidMetH_of_parts (laidMet_of_run' 8 (by kernel_rfl) (by kernel_rfl)) (by kernel_rfl)
theorem reads (os : Os) {H : Type} (enc : TypeId × Value → H) : ∃ places, DataW.whole enc Tryz.prog ((laidWorld os).forCall (fun _ _ => 0) ⟨#[], #[.slice none 0 0, .slice none 0 0], []⟩).memory Tryz.f5.params.toList Rows.deskAnswersSpec.vars false (#[.slice none 0 0, .slice none 0 0] : Array Value).toList 8 = some ([.nil, .nil], [], places) :=
 ⟨[], by kernel_rfl⟩
theorem lifted (os : Os) (started : os.Started) (H : Type) (enc : TypeId × Value → H) (F : Stop.Interp) :
  ReturnsInHanded {} Tryz.checked os 5 .any ((OpenSpec.ofChange Rows.deskAnswersSpec).preRow enc Tryz.prog Tryz.f5 Rows.deskAnswersRow.domain false Rows.deskAnswersRow.laid) (((OpenSpec.ofChange Rows.deskAnswersSpec).at F).post enc Tryz.prog Tryz.f5 false true false false) := by
 obtain ⟨places, hx⟩ := reads os enc
 refine returnsInHanded_of_row (C := Tryz.checked) (s := (OpenSpec.ofChange Rows.deskAnswersSpec)) own started (by kernel_rfl) Tryz.func5
  (witness_row_at (enc := enc) (C := Tryz.checked) false (laidWorld os) #[.slice none 0 0, .slice none 0 0] rfl (by kernel_rfl) (by kernel_rfl) (by kernel_rfl)
   (OpenSpec.preRow_of_cond 8 hx (by kernel_rfl) (fun k hk => by cases hk) (by kernel_rfl) (laid_met os))) ?_
 intro W base args ds gs before hval hW _ _ hz hL _ _
 exact contract H enc W base args ds gs before hval hW (laid_p (show laidMet Tryz.prog [("math/bits.deBruijn32tab", Rows.laid_math_bits_deBruijn32tab), ("math/bits.deBruijn64tab", Rows.laid_math_bits_deBruijn64tab), ("internal/strconv.uint64pow10", Rows.laid_internal_strconv_uint64pow10), ("oathbook/sha.rounds", Rows.laid_oathbook_sha_rounds)] W ∧ handlesMet Tryz.prog [("errors.errorType", Rows.laid_errors_errorType)] W from hL).1).1 (eb_of (show laidMet Tryz.prog [("math/bits.deBruijn32tab", Rows.laid_math_bits_deBruijn32tab), ("math/bits.deBruijn64tab", Rows.laid_math_bits_deBruijn64tab), ("internal/strconv.uint64pow10", Rows.laid_internal_strconv_uint64pow10), ("oathbook/sha.rounds", Rows.laid_oathbook_sha_rounds)] W ∧ handlesMet Tryz.prog [("errors.errorType", Rows.laid_errors_errorType)] W from hL).2) (laid_p (show laidMet Tryz.prog [("math/bits.deBruijn32tab", Rows.laid_math_bits_deBruijn32tab), ("math/bits.deBruijn64tab", Rows.laid_math_bits_deBruijn64tab), ("internal/strconv.uint64pow10", Rows.laid_internal_strconv_uint64pow10), ("oathbook/sha.rounds", Rows.laid_oathbook_sha_rounds)] W ∧ handlesMet Tryz.prog [("errors.errorType", Rows.laid_errors_errorType)] W from hL).1).2 hz
theorem said : Rows.DeskAnswersSaid :=
 OpenClaim.holds_of_cond 5 Tryz.f5 rfl rfl rfl rfl rfl rfl rfl ⟨rfl, rfl, rfl, rfl, rfl⟩ rfl rfl rfl rfl rfl (by kernel_rfl) Tryz.func5 (by kernel_rfl)
  (of_decide_eq_true (by kernel_rfl)) (by unfold Func.isWrapper; (rw [if_neg (by decide +kernel)]; exact ⟨rfl, rfl⟩))
  (fun os started H enc _ F => by rw [OpenClaim.pre_eq_preRow]; exact lifted os started H enc F)
theorem plain (f : FuncId) (fn : Func) (hf : Tryz.pinned.checked.prog.funcNamed "oathbook/oathbooklaw3.DeskAnswers" = some f) (hfn : Tryz.pinned.checked.prog.funcs[f]? = some fn) :
  true = Tryz.pinned.checked.prog.looks [] ∧ ∀ (j : Nat) t, fn.params[j]? = some t → Tryz.pinned.checked.prog.wantsStandIn t = false := by
 obtain rfl : f = 5 := Option.some.inj ((show Tryz.prog.funcNamed "oathbook/oathbooklaw3.DeskAnswers" = some 5 by kernel_rfl).symm.trans hf) |>.symm
 obtain rfl : fn = Tryz.f5 := (Option.some.inj (Tryz.func5.symm.trans hfn)).symm
 refine ⟨by kernel_rfl, fun j t ht => ?_⟩
 rw [Tryz.params5] at ht
 have hm := Array.mem_of_getElem? ht
 have ha : ∀ t ∈ #[22, 65], Tryz.prog.wantsStandIn t = false := by
  intro t ht
  simp only [List.mem_toArray, List.mem_cons, List.not_mem_nil, or_false] at ht
  rcases ht with rfl | rfl <;> kernel_rfl
 exact ha t hm
theorem proved : Rows.DeskAnswersCardSaid :=
 Claim7.holds_tied_plain_at .later [] _ _ _ _ said (fun _ h => by cases h) (by kernel_rfl) (fun _ h => by cases h) deskAnswers_row_tie rfl ⟨rfl, rfl⟩ (by kernel_rfl) rfl plain (by kernel_rfl)
#print axioms proved
end Go.Proofs.YtaebeemnipafbaaGreatDoor.deskAnswers
