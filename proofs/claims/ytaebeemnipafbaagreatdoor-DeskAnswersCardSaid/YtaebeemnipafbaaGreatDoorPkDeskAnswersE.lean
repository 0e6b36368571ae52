/-
  Proved here, ahead of the law: DeskAnswers: the law returns true for every input, and leaves its arguments as they were.
-/
import Derived.Test.YtaebeemnipafbaaGreatDoorPkDeskAnswersB
import Derived.Test.YtaebeemnipafbaaGreatDoorEqS
import Derived.Test.YtaebeemnipafbaaGreatDoorPkDeskAnswersA
import Derived.Test.YtaebeemnipafbaaGreatDoorSq
import Derived.Test.YtaebeemnipafbaaGreatDoorPkDeskAnswersC
import Derived.Test.YtaebeemnipafbaaGreatDoorLaw
import Derived.Test.YtaebeemnipafbaaGreatDoorLogPlain
import Derived.Test.YtaebeemnipafbaaGreatDoorNamePlain
import Derived.Laws.CopyOwn
import Derived.Laws.IdiomStrings
import Derived.Test.YtaebeemnipafbaaGreatDoorLawC
import Derived.Test.YtaebeemnipafbaaGreatDoorErr
import Derived.Test.YtaebeemnipafbaaGreatDoorSum
import Derived.LaidEql
import Derived.Stop.Asserts
import Derived.RowKitTokens
import Derived.Deep.LoopGhost
import Derived.Test.YtaebeemnipafbaaGreatDoorSkip
set_option linter.unusedSimpArgs false
set_option linter.unusedVariables false
set_option maxRecDepth 100000
set_option maxHeartbeats 200000000
namespace Go.Proofs.YtaebeemnipafbaaGreatDoor
section
open Go.RowKit
theorem rtag_any (key : List UInt8) (K : Option Addr) (m mc : Nat) (n : Int) (x y z : Dig) (w : World) (hk : SlR w K m mc 1 (GK key)) (hm : m ≤ 140737488355000) :
  Calls Tryz.prog 25 #[.slice K m mc, .agg (H9 n x y z)] w fun e w' => e = .returned (tagN key n x y).v ∧ St w w' [] := by
 have Ga := St.refl w
 have HB := Gg (show GK (sz4 n) ++ x.arr.toList ++ y.arr.toList = GK (sz4 n ++ (x.l ++ y.l)) by
  rw [Dig.toList, Dig.toList, ← Hj, ← Hj, List.append_assoc])
 have HF := Gg (four_any n)
 have HM := Gg (fun (A : Option Addr) (a c : Nat) (w' : World) (h1 : SlR w' K m mc 1 (GK key)) (h2 : SlR w' A a c 1 (GK (sz4 n ++ (x.l ++ y.l)))) (h3 : a ≤ 1000) => rmac_any key (sz4 n ++ (x.l ++ y.l)) K A m mc a c w' h1 h2 hm (by omega))
 have HR := Gg (show (macN key (sz4 n ++ (x.l ++ y.l))).v = (tagN key n x y).v from rfl)
 generalize (tagN key n x y).v = tg at *
 generalize sz4 n ++ (x.l ++ y.l) = all at *
 generalize sz4 n = hd at *
 go_enter Tryz.func25, Tryz.ntmps25
 go_upto_region 1 with (first | (refine Gm 3 rfl (Gw rfl) ?_; (try clear Gb); intro g3 W3 Gb; replace Ga := Ga.tr1 Gb) | (refine Gk 4 rfl Gv ?_; (try clear Gb); intro g4 W4 Gb; replace Ga := Ga.tr1 Gb))
 go_upto_region 2 with (first | (refine Gn 9 rfl (by rfl) uz32 rfl Gv (Hy (Ga.get 1 rfl)) (Dig.size _) ?_) | (refine Gk 5 rfl Gv ?_; (try clear Gb); intro g5 W5 Gb; replace Ga := Ga.tr1 Gb) | ((refine Gr 5 9 Ga rfl (by rfl) (Gw rfl) (Dig.one _) Gv (Dig.size _) 0 rfl (by rfl) ?_; clear Ga; intro WS3 Ga; simp only [Ge, Gf] at Ga)))
 go_upto_region 3 with (first | (refine Gn 11 rfl (by rfl) uz32 rfl Gv (Jt (Ga.get 2 rfl)) (Dig.size _) ?_) | (refine Gk 6 rfl Gv ?_; (try clear Gb); intro g6 W6 Gb; replace Ga := Ga.tr1 Gb) | ((refine Gr 6 11 Ga rfl (by rfl) (Gw rfl) (Dig.one _) Gv (Dig.size _) 0 rfl (by rfl) ?_; clear Ga; intro WS3 Ga; simp only [Ge, Gf] at Ga)))
 refine GO [(3, 0), (0, 2), (1, 2), (2, 2), (4, 1), (5, 2)] (by kernel_rfl) (by kernel_rfl) ?_
 replace Ga := Ga.drew
 refine GG rfl rfl ?_; go_wp2_with (refine Jx (d := some 15) rfl rfl rfl (by rfl) uz32 GF (Ga.get 1 rfl) (Dig.size _) (by decide) ?_; intro hs15)
 refine GA rfl ?_; go_wp2_with fail; refine Gh ?_
 refine GA rfl ?_; go_wp2_with (refine Gj 13 rfl (by rfl) uz3 rfl (Gy (Ga.get 3 rfl) GQ) ?_); refine Gh ?_
 refine GA rfl ?_; go_wp2_with ((go_at_call 63; refine (HF.out _).mono ?_; rintro e W14 ⟨A14, rfl, Gb⟩; replace Ga := Ga.trans Gb; simp only [Gc, Gd] at Ga)); refine Gi Gb ?_
 refine J6 rfl ?_; go_wp2_with (refine GY (d := some 16) rfl rfl Ga rfl (by rfl) (by rfl) uz22 GF rfl (by decide) (by decide) 0 rfl (by rfl) (Gb.old (by decide) hs15) (GX) (by omega) ?_; clear Ga; intro A16 c16 W16 Ga; simp only [Ge, Gf, List.nil_append, Nat.zero_add] at Ga)
 refine GA rfl ?_; go_wp2_with fail; refine Gh ?_
 refine G5 ?_
 clear Gb hs15
 go_wp2_with (first | (go_at_call 64; refine (HM.out _ _ _ _ (Ga.old (by decide) hk) (by rw [← HB.out]; exact Ga.sl 0 rfl) (by decide)).mono ?_; rintro e W21 ⟨rfl, Gb⟩; replace Ga := Ga.keep Gb) | (refine Jx (d := some 19) rfl rfl rfl (by rfl) uz32 GF (Ga.get 1 rfl) (Dig.size _) (by decide) ?_; intro hs19) | (refine GY (d := some 20) rfl rfl Ga rfl (by rfl) (by rfl) uz22 GF rfl (by decide) (by decide) 0 rfl (by rfl) (by (assumption)) (GX) (by omega) ?_; clear Ga; intro A20 c20 W20 Ga; simp only [Ge, Gf, List.nil_append, Nat.zero_add] at Ga) | ((refine Gr 4 21 Ga rfl (by rfl) (Gw rfl) (Dig.one _) Gv (by rfl) 3 rfl (by rfl) ?_; clear Ga; intro WS5 Ga; simp only [Ge, Gf] at Ga)))
 refine Hw rfl rfl rfl (Ga.get 3 rfl) uz32 rfl Gv (by rfl) ?_
 refine ⟨?_, Ga.forget⟩
 rw [← HR.out]
theorem told_tag_any (key : List UInt8) (K : Option Addr) (m mc : Nat) (n : Int) (x y z : Dig) (w : World) (hn1 : -9223372036854775808 ≤ n) (hn2 : n ≤ 9223372036854775807) (hT : Tb w) (hk : SlR w K m mc 1 (GK key)) (hm : m ≤ 140737488355000) :
  Calls Tryz.prog 151 #[.slice K m mc, .agg (H9 n x y z)] w fun e w' => e = .returned (.bool (decide (z = tagN key n x y))) ∧ St w w' [] := by
 have Ga := St.refl w
 have HC := Gg (fun (w' : World) (ht : Tb w') (h1 : SlR w' K m mc 1 (GK key)) => tag_any key K m mc n x y z w' hn1 hn2 ht h1 hm)
 generalize tagN key n x y = tg at *
 have HT := Gg hT
 clear hT hn1 hn2 hm
 go_enter Tryz.func151, Tryz.ntmps151
 go_upto_region 1 with (refine Gm 3 rfl (Gw rfl) ?_; (try clear Gb); intro g3 W3 Gb; replace Ga := Ga.tr1 Gb)
 refine Ht (.one 2 3 (.one 0 0 (.one 1 0 (.one 3 2 (.one 4 2 (.one 5 2 (.one 6 2 .nil))))))) (by kernel_rfl) (by kernel_rfl) ?_
 replace Ga := Ga.drew
 refine Jj rfl rfl ?_; go_wp2_with fail
 refine Pc rfl rfl (by kernel_rfl) ?_; go_wp2_with fail
 refine Kl rfl rfl ?_; go_wp2_with ((refine Gn 6 rfl (by rfl) uz32 rfl Gv (hdArr_tag (Ga.get 0 rfl)) (Dig.size _) ?_))
 refine G6 rfl ?_; go_wp2_with ((refine Gl 8 rfl (by rfl) uz41 rfl GS (Ga.get 0 rfl) (GR _ _ _ _) ?_)); refine Gh ?_
 refine G6 rfl ?_; go_wp2_with ((go_at_call 24; refine (HC.out _ (HT.out.of Ga) (Ga.old (by decide) hk)).mono ?_; rintro e Wt ⟨rfl, Gb⟩; replace Ga := Ga.keep Gb)); refine Gi Gb ?_
 refine G6 rfl ?_; go_wp2_with (refine MJ (d := some 10) rfl rfl rfl uz32 uz5 GF JG (Gw rfl) (Gw rfl) ?_); refine Gh ?_
 refine G6 rfl ?_; go_wp2_with fail; refine Gh ?_
 refine H5 ?_
 go_wp2_with fail
 go_ret
 exact ⟨rfl, Ga.forget⟩
end
section
open Go.RowKit
attribute [local simp] Jq GR
section
variable {ops : Array Oper} {rest : List Oper} {o : Oper} {a : Act} {W : World} {Q : Exit → Act → World → Prop} {d : Option Tmp}
theorem Qe (hd : o.dst = d) (hw : Region.wanted o (yielded ops a.tmps) = true) {x y z : Operand} (ho : o.op = .build 41 #[(0, x), (1, y), (2, z)]) {n : Int} {p q : Dig} (hx : a.eval x = .int .i64 n) (hy : a.eval y = .agg p.arr) (hz : a.eval z = .agg q.arr)
  (h : wpList Tryz.prog ops Q rest (a.put d (.agg (H9 n p q GM))) W) : wpList Tryz.prog ops Q (o :: rest) a W :=
 Mb hd hw ho uz41 GS [(0, 1), (1, 32), (33, 32), (65, 32)] (by kernel_rfl) (ps := [(0, .int .i64 n), (1, .agg p.arr), (2, .agg q.arr)]) (by simp [hx, hy, hz]) (qs := [(0, [.int .i64 n]), (1, p.arr.toList), (33, q.arr.toList)])
  ⟨rfl, rfl, by simp [GR], by rw [Kb]; rfl, rfl, by rw [GR, Kb]; decide, by rw [Kb]; rfl, rfl, by rw [GR, Kb]; decide, trivial⟩
  (by
   unfold KG KG KG KG
   rw [show Jg (H9 0 GM GM GM) 0 [.int .i64 n] = H9 n GM GM GM from Kr (cs := H9 0 GM GM GM) (ds := H9 n GM GM GM) [] [.int .i64 0] [.int .i64 n] (GM.arr.toList ++ (GM.arr.toList ++ GM.arr.toList)) rfl rfl rfl rfl]
   rw [MV, hdArr_putMap]) h
theorem L_buildF3 (hd : o.dst = d) (hw : Region.wanted o (yielded ops a.tmps) = true) {x : Operand} (ho : o.op = .build 46 #[(3, x)]) {A : Option Addr} {n c : Nat} (hx : a.eval x = .slice A n c)
  (h : wpList Tryz.prog ops Q rest (a.put d (.agg (JE [] GM 0 0 none 0 0 A n c))) W) : wpList Tryz.prog ops Q (o :: rest) a W :=
 Mb hd hw ho uz46 G1 [(0, 34), (34, 1), (35, 1), (36, 1)] (by kernel_rfl) (ps := [(3, .slice A n c)]) (by simp [hx]) (qs := [(36, [.slice A n c])])
  ⟨rfl, rfl, by rw [Ji]; simp, trivial⟩
  (by
   unfold KG KG
   exact Kr (cs := JE [] GM 0 0 none 0 0 none 0 0) (ds := JE [] GM 0 0 none 0 0 A n c) ((Ha [] GM 0).toList ++ [.int .i64 0, .slice none 0 0]) [.slice none 0 0] [.slice A n c] [] (by rw [Ko]; simp) (by rw [Ko]; simp) rfl (by rw [List.length_append, JK]; rfl)) h
end
theorem N4 (key : List UInt8) (K : Option Addr) (m mc : Nat) (ns : List NoteN) (A : Option Addr) (n c : Nat) (w : World) (hk : SlR w K m mc 1 (GK key)) (hx : SlR w A n c 34 (H6 ns)) (hg : Logged ns) (hm : m ≤ 140737488351232) :
  Calls Tryz.prog 13 #[.agg (Jw K m mc A n c)] w fun e w' => e = .returned (.agg (H9 (n : Int) (G4 (lvN ns)) (Jz ns) (Mc key ns))) ∧ St w w' [] := by
 have Ga := St.refl w
 have hl : ns.length = n := by have := hx.1; rw [JB] at this; omega
 have hn : n ≤ 256 := by have := hg.len; omega
 have HX := Gg hx
 have HK := Gg hk
 have HLv := Gg (fun (w' : World) (h : SlR w' A n c 34 (H6 ns)) => PU K m mc ns A n c w' h hg.ok hn)
 have HEn := Gg (fun (w' : World) (h : SlR w' A n c 34 (H6 ns)) => rentries_any K m mc ns A n c w' h hg.ok hn)
 have HRt := Gg (fun (w' : World) (O : Option Addr) (oc : Nat) (h : SlR w' O n oc 32 (GP (lvN ns))) => Pu n (lvN ns) O oc w' h hn)
 have HMp := Gg (fun (w' : World) (O : Option Addr) (oc : Nat) (h : SlR w' O (NM ns n).length oc 33 (Jc (NM ns n))) => by
  have := rmaproot_any 32 (NM ns n) O _ oc 0 4294967296 w' h (by have := entR_len ns n; omega) (entR_keys ns n) (by decide) (by decide) (by decide)
  rw [show (0 : Int).toNat = 0 from rfl, show Jy (Hq (NM ns n)) 32 0 = Jz ns by rw [← hl]; exact mapN_ent hg] at this
  exact this)
 have hhr : Mc key ns = tagN key (n : Int) (G4 (lvN ns)) (Jz ns) := by unfold Mc; rw [hl]
 rw [hhr]
 have HTg := Gg (fun (w' : World) (x y : Dig) (h : SlR w' K m mc 1 (GK key)) => rtag_any key K m mc (n : Int) x y GM w' h (by omega))
 generalize G4 (lvN ns) = rt at *
 generalize Jz ns = mp at *
 clear hk hx hg hl hhr
 go_enter Tryz.func13, Tryz.ntmps13
 go_upto_region 1 with (go_big_may; first | (refine Gm 1 rfl (Gw rfl) ?_; (try clear Gb); intro g1 W1 Gb; replace Ga := Ga.tr1 Gb) | (refine Gk 2 rfl GS ?_; (try clear Gb); intro g2 W2 Gb; replace Ga := Ga.tr1 Gb))
 refine Ht (.one 0 3 (.one 1 0 (.one 2 0 (.one 3 0 (.one 6 0 (.two 4 2 (.two 5 2 (.two 7 2 (.two 8 2 (.one 9 0 (.one 10 2 (.one 11 1 .nil))) 10 2 (.one 8 2 (.one 9 2 (.one 11 1 .nil)))) 10 2 (.one 7 2 (.one 8 2 (.one 9 2 (.one 11 1 .nil))))) 10 2 (.one 5 2 (.one 7 2 (.one 8 2 (.one 9 2 (.one 11 1 .nil)))))) 10 2 (.one 4 2 (.one 5 2 (.one 7 2 (.one 8 2 (.one 9 2 (.one 11 1 .nil)))))))))))) (by kernel_rfl) (by kernel_rfl) ?_
 replace Ga := Ga.drew
 refine pm_pv rfl (J8 rfl (by rfl) uz27 rfl (by kernel_rfl)) ?_; go_wp2_with fail
 refine Kl rfl rfl ?_; go_wp2_with (refine Gj 5 rfl (by rfl) uz23 rfl (Gy (Ga.get 1 rfl) JT) ?_)
 refine Kl rfl rfl ?_; go_wp2_with (fail)
 refine Kl rfl rfl ?_; go_wp2_with ((refine Gl 7 rfl (by rfl) uz27 rfl GL (Ga.get 1 rfl) (Hk _ _ _ _ _ _) ?_))
 refine Kl rfl rfl ?_; go_wp2_with ((refine Gl 10 rfl (by rfl) uz27 rfl GL (Ga.get 1 rfl) (Hk _ _ _ _ _ _) ?_))
 refine JF (ki := 2) (kj := 2) rfl rfl ?_ ?_
 ·go_wp2_with ((go_at_call 18; (try clear Gb); refine (HLv.out _ (Ga.old (by decide) HX.out)).mono ?_; rintro e Wl ⟨Ol, ol, rfl, Gb⟩; replace Ga := Ga.trans Gb; simp only [Gc, Gd] at Ga)); refine ⟨fun _ => (Gb.below), ?_⟩
  refine JF (ki := 2) (kj := 2) rfl rfl ?_ ?_
  ·go_wp2_with ((go_at_call 41; (try clear Gb); refine (HRt.out _ _ _ (Ga.sl 0 rfl)).mono ?_; rintro e Wr ⟨rfl, Gb⟩; replace Ga := Ga.keep Gb)); refine ⟨fun _ => (Gb.below), ?_⟩
   refine JF (ki := 2) (kj := 2) rfl rfl ?_ ?_
   ·go_wp2_with ((go_at_call 43; (try clear Gb); refine (HEn.out _ (Ga.old (by decide) HX.out)).mono ?_; rintro e We ⟨Oe, oe, rfl, Gb⟩; replace Ga := Ga.trans Gb; simp only [Gc, Gd] at Ga)); refine ⟨fun _ => (Gb.below), ?_⟩
    refine JF (ki := 2) (kj := 2) rfl rfl ?_ ?_
    ·go_wp2_with ((go_at_call 42; (try clear Gb); refine (HMp.out _ _ _ (Ga.sl 0 rfl)).mono ?_; rintro e Wr ⟨rfl, Gb⟩; replace Ga := Ga.keep Gb)); refine ⟨fun _ => (Gb.below), ?_⟩
     refine Kl rfl rfl ?_; go_wp2_with (refine Qe (d := some 13) rfl rfl rfl (Gw rfl) (Gw rfl) (Gw rfl) ?_)
     refine G6 rfl ?_; go_wp2_with (refine Gk 3 rfl GS ?_; (try clear Gb); intro g3 W3 Gb; replace Ga := Ga.tr1 Gb); refine Gi Gb ?_
     refine JA rfl ?_; go_wp2_with ((refine Gr 3 13 Ga rfl (by rfl) (Gw rfl) (Jr _ _ _ _) GS (GR _ _ _ _) 0 rfl (by rfl) ?_; clear Ga; intro WS11 Ga; simp only [Ge, Gf] at Ga))
     refine H5 ?_
     (try clear Gb)
     go_upto_region 3 with (go_big_may; first | (go_at_call 25; (try clear Gb); refine (HTg.out _ _ _ (Ga.old (by decide) HK.out)).mono ?_; rintro e Wt ⟨rfl, Gb⟩; replace Ga := Ga.keep Gb) | (refine Gj 15 rfl (by rfl) uz22 rfl (Gy (Ga.get 4 rfl) qlArr_0) ?_) | (refine Gl 16 rfl (by rfl) uz41 rfl GS (Ga.get 0 rfl) (GR _ _ _ _) ?_) | ((refine Gs 18 17 Ga rfl (by rfl) (Gw rfl) (Dig.one _) Gv (by rfl) 0 rfl (by (simp; done)) ?_; clear Ga; intro WS5 Ga; simp only [Ge, Gf, J1 _ _ _ _ _] at Ga)))
     go_wp2_with (first | (refine Gl 19 rfl (by rfl) uz41 rfl GS (Ga.get 0 rfl) (GR _ _ _ _) ?_) | ((refine Gr 2 19 Ga rfl (by rfl) (Gw rfl) (Jr _ _ _ _) GS (GR _ _ _ _) 3 rfl (by rfl) ?_; clear Ga; intro WS1 Ga; simp only [Ge, Gf, J1 _ _ _ _ _] at Ga)))
     (refine Hw rfl rfl rfl (Ga.get 3 rfl) uz41 rfl GS (GR _ _ _ _) ?_)
     exact ⟨rfl, Ga.forget⟩
    ·go_wp2_with (refine Gk 3 rfl GS ?_; (try clear Gb); intro g3 W3 Gb; replace Ga := Ga.tr1 Gb); refine ⟨fun _ => (Gb.below), ?_⟩
     refine G6 rfl ?_; go_wp2_with ((go_at_call 42; (try clear Gb); refine (HMp.out _ _ _ (Ga.sl 1 rfl)).mono ?_; rintro e Wr ⟨rfl, Gb⟩; replace Ga := Ga.keep Gb)); refine Gi Gb ?_
     refine G6 rfl ?_; go_wp2_with (refine Qe (d := some 13) rfl rfl rfl (Gw rfl) (Gw rfl) (Gw rfl) ?_); refine Gh ?_
     refine JA rfl ?_; go_wp2_with ((refine Gr 3 13 Ga rfl (by rfl) (Gw rfl) (Jr _ _ _ _) GS (GR _ _ _ _) 0 rfl (by rfl) ?_; clear Ga; intro WS11 Ga; simp only [Ge, Gf] at Ga))
     refine H5 ?_
     (try clear Gb)
     go_upto_region 3 with (go_big_may; first | (go_at_call 25; (try clear Gb); refine (HTg.out _ _ _ (Ga.old (by decide) HK.out)).mono ?_; rintro e Wt ⟨rfl, Gb⟩; replace Ga := Ga.keep Gb) | (refine Gj 15 rfl (by rfl) uz22 rfl (Gy (Ga.get 4 rfl) qlArr_0) ?_) | (refine Gl 16 rfl (by rfl) uz41 rfl GS (Ga.get 0 rfl) (GR _ _ _ _) ?_) | ((refine Gs 18 17 Ga rfl (by rfl) (Gw rfl) (Dig.one _) Gv (by rfl) 0 rfl (by (simp; done)) ?_; clear Ga; intro WS5 Ga; simp only [Ge, Gf, J1 _ _ _ _ _] at Ga)))
     go_wp2_with (first | (refine Gl 19 rfl (by rfl) uz41 rfl GS (Ga.get 0 rfl) (GR _ _ _ _) ?_) | ((refine Gr 2 19 Ga rfl (by rfl) (Gw rfl) (Jr _ _ _ _) GS (GR _ _ _ _) 3 rfl (by rfl) ?_; clear Ga; intro WS1 Ga; simp only [Ge, Gf, J1 _ _ _ _ _] at Ga)))
     (refine Hw rfl rfl rfl (Ga.get 3 rfl) uz41 rfl GS (GR _ _ _ _) ?_)
     exact ⟨rfl, Ga.forget⟩
   ·go_wp2_with (refine Gk 3 rfl GS ?_; (try clear Gb); intro g3 W3 Gb; replace Ga := Ga.tr1 Gb); refine ⟨fun _ => (Gb.below), ?_⟩
    refine G6 rfl ?_; go_wp2_with ((go_at_call 43; (try clear Gb); refine (HEn.out _ (Ga.old (by decide) HX.out)).mono ?_; rintro e We ⟨Oe, oe, rfl, Gb⟩; replace Ga := Ga.trans Gb; simp only [Gc, Gd] at Ga)); refine Gi Gb ?_
    refine G6 rfl ?_; go_wp2_with ((go_at_call 42; (try clear Gb); refine (HMp.out _ _ _ (Ga.sl 0 rfl)).mono ?_; rintro e Wr ⟨rfl, Gb⟩; replace Ga := Ga.keep Gb)); refine Gi Gb ?_
    refine G6 rfl ?_; go_wp2_with (refine Qe (d := some 13) rfl rfl rfl (Gw rfl) (Gw rfl) (Gw rfl) ?_); refine Gh ?_
    refine JA rfl ?_; go_wp2_with ((refine Gr 3 13 Ga rfl (by rfl) (Gw rfl) (Jr _ _ _ _) GS (GR _ _ _ _) 1 rfl (by rfl) ?_; clear Ga; intro WS11 Ga; simp only [Ge, Gf] at Ga))
    refine H5 ?_
    (try clear Gb)
    go_upto_region 3 with (go_big_may; first | (go_at_call 25; (try clear Gb); refine (HTg.out _ _ _ (Ga.old (by decide) HK.out)).mono ?_; rintro e Wt ⟨rfl, Gb⟩; replace Ga := Ga.keep Gb) | (refine Gj 15 rfl (by rfl) uz22 rfl (Gy (Ga.get 4 rfl) qlArr_0) ?_) | (refine Gl 16 rfl (by rfl) uz41 rfl GS (Ga.get 1 rfl) (GR _ _ _ _) ?_) | ((refine Gs 18 17 Ga rfl (by rfl) (Gw rfl) (Dig.one _) Gv (by rfl) 1 rfl (by (simp; done)) ?_; clear Ga; intro WS5 Ga; simp only [Ge, Gf, J1 _ _ _ _ _] at Ga)))
    go_wp2_with (first | (refine Gl 19 rfl (by rfl) uz41 rfl GS (Ga.get 1 rfl) (GR _ _ _ _) ?_) | ((refine Gr 2 19 Ga rfl (by rfl) (Gw rfl) (Jr _ _ _ _) GS (GR _ _ _ _) 3 rfl (by rfl) ?_; clear Ga; intro WS1 Ga; simp only [Ge, Gf, J1 _ _ _ _ _] at Ga)))
    (refine Hw rfl rfl rfl (Ga.get 3 rfl) uz41 rfl GS (GR _ _ _ _) ?_)
    exact ⟨rfl, Ga.forget⟩
  ·go_wp2_with (refine Gk 3 rfl GS ?_; (try clear Gb); intro g3 W3 Gb; replace Ga := Ga.tr1 Gb); refine ⟨fun _ => (Gb.below), ?_⟩
   refine G6 rfl ?_; go_wp2_with ((go_at_call 41; (try clear Gb); refine (HRt.out _ _ _ (Ga.sl 1 rfl)).mono ?_; rintro e Wr ⟨rfl, Gb⟩; replace Ga := Ga.keep Gb)); refine Gi Gb ?_
   refine G6 rfl ?_; go_wp2_with ((go_at_call 43; (try clear Gb); refine (HEn.out _ (Ga.old (by decide) HX.out)).mono ?_; rintro e We ⟨Oe, oe, rfl, Gb⟩; replace Ga := Ga.trans Gb; simp only [Gc, Gd] at Ga)); refine Gi Gb ?_
   refine G6 rfl ?_; go_wp2_with ((go_at_call 42; (try clear Gb); refine (HMp.out _ _ _ (Ga.sl 0 rfl)).mono ?_; rintro e Wr ⟨rfl, Gb⟩; replace Ga := Ga.keep Gb)); refine Gi Gb ?_
   refine G6 rfl ?_; go_wp2_with (refine Qe (d := some 13) rfl rfl rfl (Gw rfl) (Gw rfl) (Gw rfl) ?_); refine Gh ?_
   refine JA rfl ?_; go_wp2_with ((refine Gr 3 13 Ga rfl (by rfl) (Gw rfl) (Jr _ _ _ _) GS (GR _ _ _ _) 1 rfl (by rfl) ?_; clear Ga; intro WS11 Ga; simp only [Ge, Gf] at Ga))
   refine H5 ?_
   (try clear Gb)
   go_upto_region 3 with (go_big_may; first | (go_at_call 25; (try clear Gb); refine (HTg.out _ _ _ (Ga.old (by decide) HK.out)).mono ?_; rintro e Wt ⟨rfl, Gb⟩; replace Ga := Ga.keep Gb) | (refine Gj 15 rfl (by rfl) uz22 rfl (Gy (Ga.get 4 rfl) qlArr_0) ?_) | (refine Gl 16 rfl (by rfl) uz41 rfl GS (Ga.get 1 rfl) (GR _ _ _ _) ?_) | ((refine Gs 18 17 Ga rfl (by rfl) (Gw rfl) (Dig.one _) Gv (by rfl) 1 rfl (by (simp; done)) ?_; clear Ga; intro WS5 Ga; simp only [Ge, Gf, J1 _ _ _ _ _] at Ga)))
   go_wp2_with (first | (refine Gl 19 rfl (by rfl) uz41 rfl GS (Ga.get 1 rfl) (GR _ _ _ _) ?_) | ((refine Gr 2 19 Ga rfl (by rfl) (Gw rfl) (Jr _ _ _ _) GS (GR _ _ _ _) 3 rfl (by rfl) ?_; clear Ga; intro WS1 Ga; simp only [Ge, Gf, J1 _ _ _ _ _] at Ga)))
   (refine Hw rfl rfl rfl (Ga.get 3 rfl) uz41 rfl GS (GR _ _ _ _) ?_)
   exact ⟨rfl, Ga.forget⟩
 ·go_wp2_with (refine Gk 3 rfl GS ?_; (try clear Gb); intro g3 W3 Gb; replace Ga := Ga.tr1 Gb); refine ⟨fun _ => (Gb.below), ?_⟩
  refine G6 rfl ?_; go_wp2_with ((go_at_call 18; (try clear Gb); refine (HLv.out _ (Ga.old (by decide) HX.out)).mono ?_; rintro e Wl ⟨Ol, ol, rfl, Gb⟩; replace Ga := Ga.trans Gb; simp only [Gc, Gd] at Ga)); refine Gi Gb ?_
  refine G6 rfl ?_; go_wp2_with ((go_at_call 41; (try clear Gb); refine (HRt.out _ _ _ (Ga.sl 0 rfl)).mono ?_; rintro e Wr ⟨rfl, Gb⟩; replace Ga := Ga.keep Gb)); refine Gi Gb ?_
  refine G6 rfl ?_; go_wp2_with ((go_at_call 43; (try clear Gb); refine (HEn.out _ (Ga.old (by decide) HX.out)).mono ?_; rintro e We ⟨Oe, oe, rfl, Gb⟩; replace Ga := Ga.trans Gb; simp only [Gc, Gd] at Ga)); refine Gi Gb ?_
  refine G6 rfl ?_; go_wp2_with ((go_at_call 42; (try clear Gb); refine (HMp.out _ _ _ (Ga.sl 0 rfl)).mono ?_; rintro e Wr ⟨rfl, Gb⟩; replace Ga := Ga.keep Gb)); refine Gi Gb ?_
  refine G6 rfl ?_; go_wp2_with (refine Qe (d := some 13) rfl rfl rfl (Gw rfl) (Gw rfl) (Gw rfl) ?_); refine Gh ?_
  refine JA rfl ?_; go_wp2_with ((refine Gr 3 13 Ga rfl (by rfl) (Gw rfl) (Jr _ _ _ _) GS (GR _ _ _ _) 2 rfl (by rfl) ?_; clear Ga; intro WS11 Ga; simp only [Ge, Gf] at Ga))
  refine H5 ?_
  (try clear Gb)
  go_upto_region 3 with (go_big_may; first | (go_at_call 25; (try clear Gb); refine (HTg.out _ _ _ (Ga.old (by decide) HK.out)).mono ?_; rintro e Wt ⟨rfl, Gb⟩; replace Ga := Ga.keep Gb) | (refine Gj 15 rfl (by rfl) uz22 rfl (Gy (Ga.get 4 rfl) qlArr_0) ?_) | (refine Gl 16 rfl (by rfl) uz41 rfl GS (Ga.get 2 rfl) (GR _ _ _ _) ?_) | ((refine Gs 18 17 Ga rfl (by rfl) (Gw rfl) (Dig.one _) Gv (by rfl) 2 rfl (by (simp; done)) ?_; clear Ga; intro WS5 Ga; simp only [Ge, Gf, J1 _ _ _ _ _] at Ga)))
  go_wp2_with (first | (refine Gl 19 rfl (by rfl) uz41 rfl GS (Ga.get 2 rfl) (GR _ _ _ _) ?_) | ((refine Gr 2 19 Ga rfl (by rfl) (Gw rfl) (Jr _ _ _ _) GS (GR _ _ _ _) 3 rfl (by rfl) ?_; clear Ga; intro WS1 Ga; simp only [Ge, Gf, J1 _ _ _ _ _] at Ga)))
  (refine Hw rfl rfl rfl (Ga.get 3 rfl) uz41 rfl GS (GR _ _ _ _) ?_)
  exact ⟨rfl, Ga.forget⟩
theorem rfound_no (K : Option Addr) (m mc : Nat) (s : List UInt8) (A : Option Addr) (n c : Nat) (w : World) (hz : s.length ≤ 140737488355328) (hs : JM s = false) :
  Calls Tryz.prog 14 #[.agg (Jw K m mc A n c), .string (GZ s)] w fun e w' => e = .returned (.tuple #[.agg (JE [] GM 0 0 none 0 0 none 0 0), .int .i64 1]) ∧ St w w' [] := by
 have Ga := St.refl w
 have HN := Gg (fun w' => by have := Kx s w' (by omega); rw [hs] at this; exact this)
 clear hs hz
 go_enter Tryz.func14, Tryz.ntmps14
 go_upto_region 1 with (go_big_may; first | (refine Gm 2 rfl (Gw rfl) ?_; (try clear Gb); intro g2 W2 Gb; replace Ga := Ga.tr1 Gb) | (refine Gk 4 rfl G1 ?_; (try clear Gb); intro g4 W4 Gb; replace Ga := Ga.tr1 Gb))
 go_upto_region 2 with (go_big_may; (go_at_call 31; (try clear Gb); refine (HN.out _).mono ?_; rintro e Wk1 ⟨rfl, Gb⟩; replace Ga := Ga.keep Gb))
 go_wp2_with (first | (refine L_buildFz (d := some 11) rfl rfl rfl ?_) | ((refine Gr 4 11 Ga rfl (by rfl) (Gw rfl) (Ky _ _ _ _ _ _ _ _ _ _) G1 (by rfl) 0 rfl (by rfl) ?_; clear Ga; intro WS1 Ga; simp only [Ge, Gf] at Ga)))
 refine He rfl rfl rfl rfl (Ga.get 0 rfl) uz46 rfl G1 (Ji _ _ _ _ _ _ _ _ _ _) ?_
 exact ⟨rfl, Ga.forget⟩
def RFound (ns : List NoteN) (s : List UInt8) (w : World) : Ending → World → Prop := fun e w' =>
 ∃ A c B q, e = .returned (.tuple #[.agg (JE (Jd ns s).note.name (Jd ns s).note.key (Jd ns s).note.turn (Jd ns s).at_ A (Jd ns s).path.length c B (Jd ns s).mpath.length q), .int .i64 0]) ∧
  St w w' [.row A (Jd ns s).path.length c 32 32 (GP (Jd ns s).path), .row B (Jd ns s).mpath.length q 32 32 (GP (Jd ns s).mpath)]
theorem rfound_any (K : Option Addr) (m mc : Nat) (ns : List NoteN) (s : List UInt8) (A : Option Addr) (n c : Nat) (w : World) (hx : SlR w A n c 34 (H6 ns)) (hg : Logged ns) (hs : JM s = true) :
  Calls Tryz.prog 14 #[.agg (Jw K m mc A n c), .string (GZ s)] w (RFound ns s w) := by
 have Ga := St.refl w
 have hl : ns.length = n := by have := hx.1; rw [JB] at this; omega
 have hn : n ≤ 256 := by have := hg.len; omega
 have hs30 := (J0 hs).2
 have HX := Gg hx
 have HN := Gg (fun w' => by have := Kx s w' (by omega); rw [hs] at this; exact this)
 have HIx := Gg (fun w' => MA s w' (by omega))
 have HEn := Gg (fun (w' : World) (h : SlR w' A n c 34 (H6 ns)) => rentries_any K m mc ns A n c w' h hg.ok hn)
 have HLs := Gg (fun (w' : World) (h : SlR w' A n c 34 (H6 ns)) => rlast_any K m mc ns s A n c w' h (by omega))
 have HPt := Gg (fun (w' : World) (O : Option Addr) (oc : Nat) (h : SlR w' O (NM ns n).length oc 33 (Jc (NM ns n))) => by
  have := rmappath_any (NM ns n) O _ oc (Jf s) w' h (by have := entR_len ns n; omega) (entR_keys ns n) (Mo s)
  rw [show Hq (NM ns n) = lgF ns by rw [← hl]; exact leafAt_entR hg] at this
  exact this)
 have HML := Gg (length_mPath (lgF ns) (Jf s) 32)
 cases hi : Ho ns s with
 | none =>
  have HF := Gg (show Jd ns s = ⟨ND, 0, [], MK (lgF ns) (Jf s) 32⟩ by unfold Jd; rw [if_pos hs, hi])
  have hz : M9 ns s = -1 := by unfold M9; rw [hi]
  rw [hz] at HLs
  unfold RFound
  rw [HF.out]
  simp only [HML.out, List.length_nil]
  generalize MK (lgF ns) (Jf s) 32 = mp at *
  generalize Jf s = ix at *
  clear hx hg hs hs30 hi hz hl HF HML
  go_enter Tryz.func14, Tryz.ntmps14
  go_upto_region 1 with (go_big_may; first | (refine Gm 2 rfl (Gw rfl) ?_; (try clear Gb); intro g2 W2 Gb; replace Ga := Ga.tr1 Gb) | (refine Gk 4 rfl G1 ?_; (try clear Gb); intro g4 W4 Gb; replace Ga := Ga.tr1 Gb))
  go_upto_region 3 with (go_big_may; (go_at_call 31; (try clear Gb); refine (HN.out _).mono ?_; rintro e Wk2 ⟨rfl, Gb⟩; replace Ga := Ga.keep Gb))
  go_upto_region 4 with (go_big_may; first | (refine L_buildF3 (d := some 17) rfl rfl rfl (Gw rfl) ?_) | (go_at_call 33; (try clear Gb); refine (HIx.out _).mono ?_; rintro e Wk3 ⟨rfl, Gb⟩; replace Ga := Ga.keep Gb) | (go_at_call 43; (try clear Gb); refine (HEn.out _ (Ga.old (by decide) HX.out)).mono ?_; rintro e We ⟨Oe, oe, rfl, Gb⟩; replace Ga := Ga.trans Gb; simp only [Gc, Gd] at Ga) | (go_at_call 44; (try clear Gb); refine (HPt.out _ _ _ (Ga.sl 0 rfl)).mono ?_; rintro e Wp ⟨Op, op, rfl, Gb⟩; replace Ga := Ga.trans Gb; simp only [Gc, Gd] at Ga) | (refine Gl 12 rfl (by rfl) uz27 rfl GL (Ga.get 1 rfl) (Hk _ _ _ _ _ _) ?_) | (refine Gk 6 rfl G1 ?_; (try clear Gb); intro g6 W6 Gb; replace Ga := Ga.tr1 Gb) | ((refine Gr 6 17 Ga rfl (by rfl) (Gw rfl) (Ky _ _ _ _ _ _ _ _ _ _) G1 (by rfl) 0 rfl (by rfl) ?_; clear Ga; intro WS7 Ga; simp only [Ge, Gf] at Ga)))
  (try clear Gb)
  go_upto_region 5 with (go_big_may; first | (go_at_call 32; (try clear Gb); refine (HLs.out _ (Ga.old (by decide) HX.out)).mono ?_; rintro e Wk4 ⟨rfl, Gb⟩; replace Ga := Ga.keep Gb) | (refine Gl 18 rfl (by rfl) uz27 rfl GL (Ga.get 4 rfl) (Hk _ _ _ _ _ _) ?_))
  go_upto_region 9 with (go_big_may; fail)
  go_wp2_with (first | (refine Gl 36 rfl (by rfl) uz46 rfl G1 (Ga.get 0 rfl) (Ji _ _ _ _ _ _ _ _ _ _) ?_) | ((refine Gr 4 36 Ga rfl (by rfl) (Gw rfl) (Ky _ _ _ _ _ _ _ _ _ _) G1 (by rfl) 3 rfl (by rfl) ?_; clear Ga; intro WS1 Ga; simp only [Ge, Gf] at Ga)))
  refine He rfl rfl rfl rfl (Ga.get 3 rfl) uz46 rfl G1 (Ji _ _ _ _ _ _ _ _ _ _) ?_
  exact ⟨none, 0, Op, op, rfl, (Ga.nilRow 32 32).pick [0, 2] (by decide)⟩
 | some i =>
  obtain ⟨nt, h1, h2⟩ := JO hi
  have hin := PC hi
  have hil : i < n := by omega
  have hpl : (KF (lvN ns) i).length = Jn i n := by rw [← hl]; exact length_pathN _ _ _ (NE ns)
  have HLv := Gg (fun (w' : World) (h : SlR w' A n c 34 (H6 ns)) => PU K m mc ns A n c w' h hg.ok hn)
  have HTP := Gg (fun (w' : World) (O : Option Addr) (oc : Nat) (h : SlR w' O n oc 32 (GP (lvN ns))) => by
   have := rpath_any n (lvN ns) O oc i w' h hil hn
   rw [← hpl] at this
   exact this)
  have HF := Gg (show Jd ns s = ⟨nt, (i : Int), KF (lvN ns) i, MK (lgF ns) (Jf s) 32⟩ by unfold Jd; rw [if_pos hs, hi]; simp only [h1, Option.getD_some])
  have HC := Gg (fun (W : World) (g off : Nat) h => by
   have := note_cells (W := W) (g := g) (off := off) (i := i) (ns := ns) h hin
   rw [show ns[i] = nt from (List.getElem?_eq_some_iff.1 h1).2] at this
   exact this)
  have hz : M9 ns s = (i : Int) := by unfold M9; rw [hi]
  rw [hz] at HLs
  unfold RFound
  rw [HF.out]
  simp only [HML.out]
  generalize MK (lgF ns) (Jf s) 32 = mp at *
  generalize Jf s = ix at *
  generalize KF (lvN ns) i = tp at *
  obtain ⟨a1, a2, a3⟩ := nt
  unfold NoteN.arr at HC
  simp only at *
  clear hx hg hs hs30 hi hz hl HF HML h1 h2 hin hpl
  go_enter Tryz.func14, Tryz.ntmps14
  go_upto_region 1 with (go_big_may; first | (refine Gm 2 rfl (Gw rfl) ?_; (try clear Gb); intro g2 W2 Gb; replace Ga := Ga.tr1 Gb) | (refine Gk 4 rfl G1 ?_; (try clear Gb); intro g4 W4 Gb; replace Ga := Ga.tr1 Gb))
  go_upto_region 3 with (go_big_may; (go_at_call 31; (try clear Gb); refine (HN.out _).mono ?_; rintro e Wk5 ⟨rfl, Gb⟩; replace Ga := Ga.keep Gb))
  go_upto_region 4 with (go_big_may; first | (refine L_buildF3 (d := some 17) rfl rfl rfl (Gw rfl) ?_) | (go_at_call 33; (try clear Gb); refine (HIx.out _).mono ?_; rintro e Wk6 ⟨rfl, Gb⟩; replace Ga := Ga.keep Gb) | (go_at_call 43; (try clear Gb); refine (HEn.out _ (Ga.old (by decide) HX.out)).mono ?_; rintro e We ⟨Oe, oe, rfl, Gb⟩; replace Ga := Ga.trans Gb; simp only [Gc, Gd] at Ga) | (go_at_call 44; (try clear Gb); refine (HPt.out _ _ _ (Ga.sl 0 rfl)).mono ?_; rintro e Wp ⟨Op, op, rfl, Gb⟩; replace Ga := Ga.trans Gb; simp only [Gc, Gd] at Ga) | (refine Gl 12 rfl (by rfl) uz27 rfl GL (Ga.get 1 rfl) (Hk _ _ _ _ _ _) ?_) | (refine Gk 6 rfl G1 ?_; (try clear Gb); intro g6 W6 Gb; replace Ga := Ga.tr1 Gb) | ((refine Gr 6 17 Ga rfl (by rfl) (Gw rfl) (Ky _ _ _ _ _ _ _ _ _ _) G1 (by rfl) 0 rfl (by rfl) ?_; clear Ga; intro WS7 Ga; simp only [Ge, Gf] at Ga)))
  (try clear Gb)
  go_upto_region 5 with (go_big_may; first | (go_at_call 32; (try clear Gb); refine (HLs.out _ (Ga.old (by decide) HX.out)).mono ?_; rintro e Wk7 ⟨rfl, Gb⟩; replace Ga := Ga.keep Gb) | (refine Gl 18 rfl (by rfl) uz27 rfl GL (Ga.get 4 rfl) (Hk _ _ _ _ _ _) ?_))
  go_upto_region 6 with (go_big_may; fail)
  go_upto_region 7 with (go_big_may; first | (refine Gn 27 rfl (by rfl) uz34 rfl GD (HC.out _ _ _ hr26) (GN _ _ _) ?_) | (refine Gj 24 rfl (by rfl) uz23 rfl (Gy (Ga.get 4 rfl) JT) ?_) | (refine Gp 26 rfl (by rfl) (by rfl) uz23 GD (Ga.old (by decide) HX.out) (by omega) (by omega) ?_; intro o26 p26 ha26 hr26; ((subst ha26))) | ((refine Gs 28 27 Ga rfl (by rfl) (Gw rfl) (Hg _ _ _) GD (GN _ _ _) 0 rfl (of_decide_eq_true rfl) ?_; clear Ga; intro WS6 Ga; simp only [Ge, Gf, KR _ _ _, Mz _, NZ _ _ _] at Ga)))
  go_upto_region 8 with (go_big_may; ((refine Gt 30 29 Ga rfl (by rfl) (Gw rfl) rfl Jo 0 rfl (by (rw [Ji _ _ _ _ _ _ _ _ _ _]; decide)) ?_; clear Ga; intro WS2 Ga; simp only [Ge, Gf, KR _ _ _, Mz _, NZ _ _ _] at Ga)))
  go_upto_region 9 with (go_big_may; first | (go_at_call 18; (try clear Gb); refine (HLv.out _ (Ga.old (by decide) HX.out)).mono ?_; rintro e Wl ⟨Ol, ol, rfl, Gb⟩; replace Ga := Ga.trans Gb; simp only [Gc, Gd] at Ga) | (go_at_call 45; (try clear Gb); refine (HTP.out _ _ _ (Ga.sl 0 rfl)).mono ?_; rintro e Wq ⟨Oq, oq, rfl, Gb⟩; replace Ga := Ga.trans Gb; simp only [Gc, Gd] at Ga) | (refine Gl 31 rfl (by rfl) uz27 rfl GL (Ga.get 4 rfl) (Hk _ _ _ _ _ _) ?_) | ((refine Gt 35 34 Ga rfl (by rfl) (Gw rfl) rfl JS 2 rfl (by (rw [Ji _ _ _ _ _ _ _ _ _ _]; decide)) ?_; clear Ga; intro WS5 Ga; simp only [Ge, Gf, KR _ _ _, Mz _, NZ _ _ _] at Ga)))
  (try clear Gb)
  go_wp2_with (first | (refine Gl 36 rfl (by rfl) uz46 rfl G1 (Ga.get 2 rfl) (Ji _ _ _ _ _ _ _ _ _ _) ?_) | ((refine Gr 4 36 Ga rfl (by rfl) (Gw rfl) (Ky _ _ _ _ _ _ _ _ _ _) G1 (Ji _ _ _ _ _ _ _ _ _ _) 5 rfl (by rfl) ?_; clear Ga; intro WS1 Ga; simp only [Ge, Gf] at Ga)))
  refine He rfl rfl rfl rfl (Ga.get 5 rfl) uz46 rfl G1 (Ji _ _ _ _ _ _ _ _ _ _) ?_
  exact ⟨Oq, oq, Op, op, rfl, Ga.pick [0, 3] (by decide)⟩
end
section
open Go.RowKit
theorem find_no (key : List UInt8) (ns : List NoteN) (s : List UInt8) (p : LgP) (w0 w : World) (L : List Res) (Ga : St w0 w (lgL p key ns ++ L)) (hs : JM s = false) :
  Calls Tryz.prog 15 #[.pointer (some ⟨p.g, 0, none⟩), .string (GZ s)] w fun e w' => e = .returned (.tuple #[.agg (JE [] GM 0 0 none 0 0 none 0 0), JL 1]) ∧ St w0 w' (lgL p key ns ++ L) := by
 have HN := Gg (fun w => by have := JW s w; rw [hs] at this; exact this)
 generalize lgL p key ns ++ L = L0 at *
 clear hs
 go_enter Tryz.func15, Tryz.ntmps15
 go_upto_region 1 with (go_big_may; (refine Gk 4 rfl G1 ?_; (try clear Gb); intro g4 W4 Gb; replace Ga := Ga.tr1 Gb))
 go_upto_region 2 with (go_big_may; (go_at_call 34; (try clear Gb); refine (HN.out _).mono ?_; rintro e Wk1 ⟨rfl, Gb⟩; replace Ga := Ga.keep Gb))
 go_wp2_with (first | (refine L_buildFz (d := some 12) rfl rfl rfl ?_) | ((refine Gr 4 12 Ga rfl (by rfl) (Gw rfl) (Ky _ _ _ _ _ _ _ _ _ _) G1 (by rfl) 0 rfl (by rfl) ?_; clear Ga; intro WS2 Ga; simp only [Ge, Gf] at Ga)))
 refine He rfl rfl rfl rfl (Ga.get 0 rfl) uz46 rfl G1 (by rfl) ?_
 exact ⟨rfl, Ga.tail⟩
def FindEnd (key : List UInt8) (ns : List NoteN) (s : List UInt8) (p : LgP) (w0 : World) (L : List Res) : Ending → World → Prop := fun e w' =>
 ∃ A c B q, e = .returned (.tuple #[.agg (JE (Jd ns s).note.name (Jd ns s).note.key (Jd ns s).note.turn (Jd ns s).at_ A (Jd ns s).path.length c B (Jd ns s).mpath.length q), .nilIface]) ∧
  St w0 w' (.row A (Jd ns s).path.length c 32 32 (GP (Jd ns s).path) :: .row B (Jd ns s).mpath.length q 32 32 (GP (Jd ns s).mpath) :: (lgL p key ns ++ L))
theorem find_none (key : List UInt8) (ns : List NoteN) (s : List UInt8) (p : LgP) (w0 w : World) (L : List Res) (hT : Tb w0) (Ga : St w0 w (lgL p key ns ++ L)) (hm : MapsOf ns p.nm p.am) (hl : Logged ns) (hs : JM s = true) (hi : Ho ns s = none) :
  Calls Tryz.prog 15 #[.pointer (some ⟨p.g, 0, none⟩), .string (GZ s)] w (FindEnd key ns s p w0 L) := by
 have HT := Gg hT
 have HF := Gg (show Jd ns s = ⟨ND, 0, [], MK (lgF ns) (Jf s) 32⟩ by unfold Jd; rw [if_pos hs, hi])
 have HN := Gg (fun w => by have := JW s w; rw [hs] at this; exact this)
 have HI := Gg (fun (w' : World) (h : Tb w') => M6 s w' h (by have := J0 hs; omega))
 have HE := Gg (fun (w' : World) (X : List Res) (h : St w0 w' (X ++ (lgL p key ns ++ L))) => entries_any key ns p w0 w' (X ++ L) (St.swap h) hm hl)
 have HPt := Gg (fun (es : List (Nat × Dig)) (O : Option Addr) (oc : Nat) (w' : World) (ht : Tb w') (h1 : es.length ≤ 64) (h2 : ∀ e ∈ es, e.1 < 4294967296) (h3 : (es.map (·.1)).Nodup) (h4 : Hq es = lgF ns) (h : SlR w' O es.length oc 33 (Jc es)) => by
  have := tPathM_any es O es.length oc (Jf s) w' ht h h1 h2 h3 (Mo s)
  rw [h4] at this
  exact this)
 have HO := Gg hm.ksO
 have HD := Gg hm.nd
 have HS := Gg (sV_ok hs)
 have HL := Gg (show JQ s p.nm = none by rw [hm.look, Mk, hi]; rfl)
 have HML := Gg (length_mPath (lgF ns) (Jf s) 32)
 unfold FindEnd
 rw [HF.out]
 simp only [HML.out, List.length_nil]
 generalize MK (lgF ns) (Jf s) 32 = mp at *
 generalize Jf s = ix at *
 obtain ⟨g, m, c, lc, Mn, Ma, A, O0, nm, am⟩ := p
 simp only at *
 have hst0 := Ga
 simp only [lgL, Gc, Gd] at Ga
 clear hT hm hl hst0 hs hi
 go_enter Tryz.func15, Tryz.ntmps15
 go_upto_region 1 with (go_big_may; (refine Gk 4 rfl G1 ?_; (try clear Gb); intro g4 W4 Gb; replace Ga := Ga.tr1 Gb))
 go_upto_region 3 with (go_big_may; (go_at_call 34; (try clear Gb); refine (HN.out _).mono ?_; rintro e Wk2 ⟨rfl, Gb⟩; replace Ga := Ga.keep Gb))
 go_upto_region 4 with (go_big_may; (refine Gk 6 rfl G1 ?_; (try clear Gb); intro g6 W6 Gb; replace Ga := Ga.tr1 Gb))
 go_upto_region 5 with (go_big_may; first | (go_at_call 35; (try clear Gb); refine (HI.out _ (HT.out.of Ga)).mono ?_; rintro e Wk3 ⟨rfl, Gb⟩; replace Ga := Ga.keep Gb) | (go_at_call 40; refine (HE.out _ [_, _] Ga).mono ?_; rintro e We ⟨es, Oe, oe, rfl, h1, h2, h3, h4, hst'⟩; clear Ga; have Ga := hst'; clear hst'; have H1 := Gg h1; have H2 := Gg h2; have H3 := Gg h3; have H4 := Gg h4; clear h1 h2 h3 h4; simp only [lgL, Gc, Gd] at Ga) | (go_at_call 46; (try clear Gb); refine (HPt.out es _ _ _ (HT.out.of Ga) H1.out H2.out H3.out H4.out (Ga.sl 0 rfl)).mono ?_; rintro e Wp ⟨Op, op, rfl, Gb⟩; replace Ga := Ga.trans Gb; clear Gb; simp only [Gc, Gd] at Ga) | ((refine Gt 22 20 Ga rfl (by rfl) (Gw rfl) rfl JS 7 rfl (of_decide_eq_true rfl) ?_; clear Ga; intro WS9 Ga; simp only [Ge, Gf, fdArr_put36 _ _ _] at Ga)))
 go_upto_region 6 with (go_big_may; first | (refine Qb (fk := sV) (fv := lsV) (y := s) (l := nm) (d := some 29) rfl rfl rfl Kz uz77 Hi (Gw rfl) (Gw rfl) NK HO.out HD.out HS.out (Ga.obj 5 rfl) HL.out ?_) | (refine Gj 27 rfl (by rfl) uz77 rfl (Gy (Ga.get 2 rfl) KY) ?_) | (refine Gk 7 rfl Hi ?_; (try clear Gb); intro g7 W7 Gb; replace Ga := Ga.tr1 Gb) | ((refine Gr 7 30 Ga rfl (by rfl) (Gw rfl) (MH _ _ _ _ _) Hi (by rfl) 0 rfl (by rfl) ?_; clear Ga; intro WS10 Ga; simp only [Ge, Gf] at Ga)))
 go_upto_region 9 with (go_big_may; fail)
 go_wp2_with (first | (refine Gl 50 rfl (by rfl) uz46 rfl G1 (Ga.get 8 rfl) (Ji _ _ _ _ _ _ _ _ _ _) ?_) | ((refine Gr 4 50 Ga rfl (by rfl) (Gw rfl) (Ky _ _ _ _ _ _ _ _ _ _) G1 (by rfl) 9 rfl (by rfl) ?_; clear Ga; intro WS1 Ga; simp only [Ge, Gf] at Ga)))
 refine He rfl rfl rfl rfl (Ga.get 9 rfl) uz46 rfl G1 (by rfl) ?_
 refine ⟨none, 0, Op, op, rfl, ?_⟩
 simp only [lgL, Gc, Gd]
 exact (Ga.drop (.cons _ (.cons_cons _ (.cons _ (.cons_cons _ (.cons_cons _ (.cons_cons _ (.cons_cons _ (.cons_cons _ (.cons _ (.cons _ (List.Sublist.refl L))))))))))) : St w0 _ (_ :: (_ :: _ :: _ :: _ :: _ :: L))).nilRow 32 32
theorem find_has (key : List UInt8) (ns : List NoteN) (s : List UInt8) (p : LgP) (w0 w : World) (L : List Res) (hT : Tb w0) (Ga : St w0 w (lgL p key ns ++ L)) (hm : MapsOf ns p.nm p.am) (hl : Logged ns) (hs : JM s = true) (i : Nat) (hi : Ho ns s = some i) :
  Calls Tryz.prog 15 #[.pointer (some ⟨p.g, 0, none⟩), .string (GZ s)] w (FindEnd key ns s p w0 L) := by
 have HT := Gg hT
 obtain ⟨nt, h1, h2⟩ := JO hi
 have hn := hl.len
 have hin := PC hi
 have hpl : (KF (lvN ns) i).length = Jn i ns.length := length_pathN _ _ _ (NE ns)
 have HTP := Gg (fun (w' : World) (O : Option Addr) (c : Nat) (ht : Tb w') (hx : SlR w' O ns.length c 32 (GP (lvN ns))) => by
  have := tPath_any (lvN ns) O ns.length c i w' ht hx hn hin
  rw [← hpl] at this
  exact this)
 have HF := Gg (show Jd ns s = ⟨nt, (i : Int), KF (lvN ns) i, MK (lgF ns) (Jf s) 32⟩ by unfold Jd; rw [if_pos hs, hi]; simp only [h1, Option.getD_some])
 have HN := Gg (fun w => by have := JW s w; rw [hs] at this; exact this)
 have HI := Gg (fun (w' : World) (h : Tb w') => M6 s w' h (by have := J0 hs; omega))
 have HE := Gg (fun (w' : World) (X : List Res) (h : St w0 w' (X ++ (lgL p key ns ++ L))) => entries_any key ns p w0 w' (X ++ L) (St.swap h) hm hl)
 have HPt := Gg (fun (es : List (Nat × Dig)) (O : Option Addr) (oc : Nat) (w' : World) (ht : Tb w') (h1 : es.length ≤ 64) (h2 : ∀ e ∈ es, e.1 < 4294967296) (h3 : (es.map (·.1)).Nodup) (h4 : Hq es = lgF ns) (h : SlR w' O es.length oc 33 (Jc es)) => by
  have := tPathM_any es O es.length oc (Jf s) w' ht h h1 h2 h3 (Mo s)
  rw [h4] at this
  exact this)
 have HO := Gg hm.ksO
 have HD := Gg hm.nd
 have HS := Gg (sV_ok hs)
 have HL := Gg (show JQ s p.nm = some (nt, i, Jm nt) by rw [hm.look, Mk, hi]; simp only [Option.bind_some, h1, Option.map_some])
 have HML := Gg (length_mPath (lgF ns) (Jf s) 32)
 unfold FindEnd
 rw [HF.out]
 simp only [HML.out]
 generalize MK (lgF ns) (Jf s) 32 = mp at *
 generalize Jf s = ix at *
 generalize KF (lvN ns) i = tp at *
 generalize Jm nt = df at *
 obtain ⟨a1, a2, a3⟩ := nt
 obtain ⟨g, m, c, lc, Mn, Ma, A, O0, nm, am⟩ := p
 simp only at *
 have hst0 := Ga
 simp only [lgL, Gc, Gd] at Ga
 clear hT hm hl hst0 hs hi h1 h2 hin hpl hn
 go_enter Tryz.func15, Tryz.ntmps15
 go_upto_region 1 with (go_big_may; (refine Gk 4 rfl G1 ?_; (try clear Gb); intro g4 W4 Gb; replace Ga := Ga.tr1 Gb))
 go_upto_region 3 with (go_big_may; (go_at_call 34; (try clear Gb); refine (HN.out _).mono ?_; rintro e Wk4 ⟨rfl, Gb⟩; replace Ga := Ga.keep Gb))
 go_upto_region 4 with (go_big_may; (refine Gk 6 rfl G1 ?_; (try clear Gb); intro g6 W6 Gb; replace Ga := Ga.tr1 Gb))
 go_upto_region 5 with (go_big_may; first | (go_at_call 35; (try clear Gb); refine (HI.out _ (HT.out.of Ga)).mono ?_; rintro e Wk5 ⟨rfl, Gb⟩; replace Ga := Ga.keep Gb) | (go_at_call 40; refine (HE.out _ [_, _] Ga).mono ?_; rintro e We ⟨es, Oe, oe, rfl, h1, h2, h3, h4, hst'⟩; clear Ga; have Ga := hst'; clear hst'; have H1 := Gg h1; have H2 := Gg h2; have H3 := Gg h3; have H4 := Gg h4; clear h1 h2 h3 h4; simp only [lgL, Gc, Gd] at Ga) | (go_at_call 46; (try clear Gb); refine (HPt.out es _ _ _ (HT.out.of Ga) H1.out H2.out H3.out H4.out (Ga.sl 0 rfl)).mono ?_; rintro e Wp ⟨Op, op, rfl, Gb⟩; replace Ga := Ga.trans Gb; clear Gb; simp only [Gc, Gd] at Ga) | ((refine Gt 22 20 Ga rfl (by rfl) (Gw rfl) rfl JS 7 rfl (of_decide_eq_true rfl) ?_; clear Ga; intro WS9 Ga; simp only [Ge, Gf, fdArr_put36 _ _ _] at Ga)))
 go_upto_region 6 with (go_big_may; first | (refine PE (fk := sV) (fv := lsV) (y := s) (l := nm) (d := some 29) rfl rfl rfl Kz uz77 Hi (Gw rfl) (Gw rfl) NK HO.out HD.out HS.out (Ga.obj 5 rfl) HL.out ?_) | (refine Gj 27 rfl (by rfl) uz77 rfl (Gy (Ga.get 2 rfl) KY) ?_) | (refine Gk 7 rfl Hi ?_; (try clear Gb); intro g7 W7 Gb; replace Ga := Ga.tr1 Gb) | ((refine Gr 7 30 Ga rfl (by rfl) (Gw rfl) (MH _ _ _ _ _) Hi (M1 _ _ _ _ _) 0 rfl (by rfl) ?_; clear Ga; intro WS10 Ga; simp only [Ge, Gf] at Ga)))
 go_upto_region 7 with (go_big_may; fail)
 clear Gb
 refine Ht (.one 0 3 (.one 2 3 (.one 1 0 (.one 4 3 (.two 3 2 (.one 5 1 (.one 6 2 (.one 7 1 .nil))) 5 1 (.one 3 2 (.one 6 2 (.one 7 1 .nil)))))))) (by kernel_rfl) (by kernel_rfl) ?_
 replace Ga := Ga.drew
 refine pm_pv rfl (J8 rfl (by rfl) uz85 rfl (by kernel_rfl)) ?_; go_wp2_with fail
 refine pm_pv rfl (J8 rfl (by rfl) uz85 rfl (by kernel_rfl)) ?_; go_wp2_with fail
 refine Kl rfl rfl ?_; go_wp2_with ((refine Gn 34 rfl (by rfl) uz34 rfl GD (lsArr_note (Ga.get 0 rfl)) (GN _ _ _) ?_))
 refine pm_pv rfl (J8 rfl (by rfl) uz46 rfl (by kernel_rfl)) ?_; go_wp2_with fail
 refine JF (ki := 2) (kj := 1) rfl rfl ?_ ?_
 ·go_wp2_with (refine Gj 36 rfl (by rfl) uz3 rfl (Gy (Ga.get 0 rfl) lsArr_34) ?_); refine ⟨fun _ => (Below.refl _ _), ?_⟩
  refine JA rfl ?_; go_wp2_with ((refine Gs 37 34 Ga rfl (by rfl) (Gw rfl) (Hg _ _ _) GD (GN _ _ _) 8 rfl (of_decide_eq_true rfl) ?_; clear Ga; intro WS5 Ga; simp only [Ge, Gf, Mz _, KR _ _ _] at Ga))
  refine G6 rfl ?_; go_wp2_with fail; refine Gh ?_
  refine JA rfl ?_; go_wp2_with ((refine Gt 38 36 Ga rfl (by rfl) (Gw rfl) rfl Jo 8 rfl (by (rw [Ji _ _ _ _ _ _ _ _ _ _]; decide)) ?_; clear Ga; intro WS7 Ga; simp only [Ge, Gf, Mz _, KR _ _ _] at Ga))
  refine H5 ?_
  go_upto_region 8 with fail
  refine Ht (.one 0 3 (.one 4 3 (.one 1 0 (.one 2 3 (.one 3 0 (.one 5 2 (.one 6 2 (.one 7 2 (.one 8 3 (.one 9 3 (.one 10 2 (.one 11 1 .nil)))))))))))) (by kernel_rfl) (by kernel_rfl) ?_
  replace Ga := Ga.drew
  refine Jj rfl rfl ?_; go_wp2_with fail
  refine pm_pv rfl (J8 rfl (by rfl) uz85 rfl (by kernel_rfl)) ?_; go_wp2_with fail
  refine Kl rfl rfl ?_; go_wp2_with fail
  refine pm_pv rfl (J8 rfl (by rfl) uz80 rfl (by kernel_rfl)) ?_; go_wp2_with fail
  refine Kl rfl rfl ?_; go_wp2_with (refine Gj 43 rfl (by rfl) uz44 rfl (Gy (Ga.get 3 rfl) KH) ?_)
  refine G6 rfl ?_; go_wp2_with (refine Gj 45 rfl (by rfl) uz3 rfl (Gy (Ga.get 0 rfl) lsArr_34) ?_); refine Gh ?_
  refine G6 rfl ?_; go_wp2_with ((go_at_call 47; (try clear Gb); refine (HTP.out _ _ _ (HT.out.of Ga) (Ga.sl 5 rfl)).mono ?_; rintro e Wq ⟨Oq, oq, rfl, Gb⟩; replace Ga := Ga.trans Gb; simp only [Gc, Gd] at Ga)); refine Gi Gb ?_
  refine G6 rfl ?_; go_wp2_with fail; refine Gh ?_
  refine Jj rfl rfl ?_; go_wp2_with fail
  refine Jj rfl rfl ?_; go_wp2_with fail
  refine G6 rfl ?_; go_wp2_with fail; refine Gh ?_
  refine JA rfl ?_; go_wp2_with ((refine Gt 49 47 Ga rfl (by rfl) (Gw rfl) rfl JS 9 rfl (by (rw [Ji _ _ _ _ _ _ _ _ _ _]; decide)) ?_; clear Ga; intro WS11 Ga; simp only [Ge, Gf, NZ _ _ _] at Ga))
  refine H5 ?_
  go_wp2_with (first | (refine Gl 50 rfl (by rfl) uz46 rfl G1 (Ga.get 9 rfl) (Ji _ _ _ _ _ _ _ _ _ _) ?_) | ((refine Gr 4 50 Ga rfl (by rfl) (Gw rfl) (Ky _ _ _ _ _ _ _ _ _ _) G1 (Ji _ _ _ _ _ _ _ _ _ _) 10 rfl (by rfl) ?_; clear Ga; intro WS1 Ga; simp only [Ge, Gf] at Ga)))
  refine He rfl rfl rfl rfl (Ga.get 10 rfl) uz46 rfl G1 (Ji _ _ _ _ _ _ _ _ _ _) ?_
  refine ⟨Oq, oq, Op, op, rfl, ?_⟩
  simp only [lgL, Gc, Gd]
  exact Ga.drop (.cons_cons _ (.cons _ (.cons_cons _ (.cons _ (.cons_cons _ (.cons_cons _ (.cons_cons _ (.cons_cons _ (.cons_cons _ (.cons _ (.cons _ (List.Sublist.refl L))))))))))))
 ·go_wp2_with ((refine Gs 37 34 Ga rfl (by rfl) (Gw rfl) (Hg _ _ _) GD (GN _ _ _) 8 rfl (of_decide_eq_true rfl) ?_; clear Ga; intro WS5 Ga; simp only [Ge, Gf, Mz _, KR _ _ _] at Ga)); refine ⟨fun h => absurd h (by decide), ?_⟩
  refine G6 rfl ?_; go_wp2_with (refine Gj 36 rfl (by rfl) uz3 rfl (Gy (Ga.get 0 rfl) lsArr_34) ?_); refine Gh ?_
  refine G6 rfl ?_; go_wp2_with fail; refine Gh ?_
  refine JA rfl ?_; go_wp2_with ((refine Gt 38 36 Ga rfl (by rfl) (Gw rfl) rfl Jo 8 rfl (by (rw [Ji _ _ _ _ _ _ _ _ _ _]; decide)) ?_; clear Ga; intro WS7 Ga; simp only [Ge, Gf, Mz _, KR _ _ _] at Ga))
  refine H5 ?_
  go_upto_region 8 with fail
  refine Ht (.one 0 3 (.one 4 3 (.one 1 0 (.one 2 3 (.one 3 0 (.one 5 2 (.one 6 2 (.one 7 2 (.one 8 3 (.one 9 3 (.one 10 2 (.one 11 1 .nil)))))))))))) (by kernel_rfl) (by kernel_rfl) ?_
  replace Ga := Ga.drew
  refine Jj rfl rfl ?_; go_wp2_with fail
  refine pm_pv rfl (J8 rfl (by rfl) uz85 rfl (by kernel_rfl)) ?_; go_wp2_with fail
  refine Kl rfl rfl ?_; go_wp2_with fail
  refine pm_pv rfl (J8 rfl (by rfl) uz80 rfl (by kernel_rfl)) ?_; go_wp2_with fail
  refine Kl rfl rfl ?_; go_wp2_with (refine Gj 43 rfl (by rfl) uz44 rfl (Gy (Ga.get 3 rfl) KH) ?_)
  refine G6 rfl ?_; go_wp2_with (refine Gj 45 rfl (by rfl) uz3 rfl (Gy (Ga.get 0 rfl) lsArr_34) ?_); refine Gh ?_
  refine G6 rfl ?_; go_wp2_with ((go_at_call 47; (try clear Gb); refine (HTP.out _ _ _ (HT.out.of Ga) (Ga.sl 5 rfl)).mono ?_; rintro e Wq ⟨Oq, oq, rfl, Gb⟩; replace Ga := Ga.trans Gb; simp only [Gc, Gd] at Ga)); refine Gi Gb ?_
  refine G6 rfl ?_; go_wp2_with fail; refine Gh ?_
  refine Jj rfl rfl ?_; go_wp2_with fail
  refine Jj rfl rfl ?_; go_wp2_with fail
  refine G6 rfl ?_; go_wp2_with fail; refine Gh ?_
  refine JA rfl ?_; go_wp2_with ((refine Gt 49 47 Ga rfl (by rfl) (Gw rfl) rfl JS 9 rfl (by (rw [Ji _ _ _ _ _ _ _ _ _ _]; decide)) ?_; clear Ga; intro WS11 Ga; simp only [Ge, Gf, NZ _ _ _] at Ga))
  refine H5 ?_
  go_wp2_with (first | (refine Gl 50 rfl (by rfl) uz46 rfl G1 (Ga.get 9 rfl) (Ji _ _ _ _ _ _ _ _ _ _) ?_) | ((refine Gr 4 50 Ga rfl (by rfl) (Gw rfl) (Ky _ _ _ _ _ _ _ _ _ _) G1 (Ji _ _ _ _ _ _ _ _ _ _) 10 rfl (by rfl) ?_; clear Ga; intro WS1 Ga; simp only [Ge, Gf] at Ga)))
  refine He rfl rfl rfl rfl (Ga.get 10 rfl) uz46 rfl G1 (Ji _ _ _ _ _ _ _ _ _ _) ?_
  refine ⟨Oq, oq, Op, op, rfl, ?_⟩
  simp only [lgL, Gc, Gd]
  exact Ga.drop (.cons_cons _ (.cons _ (.cons_cons _ (.cons _ (.cons_cons _ (.cons_cons _ (.cons_cons _ (.cons_cons _ (.cons_cons _ (.cons _ (.cons _ (List.Sublist.refl L))))))))))))
end
section
open Go.RowKit
attribute [local simp] Jq
structure LgAt (w : World) (p : LgP) (key : List UInt8) (ns : List NoteN) : Prop where
 blk : w.heap[p.g]? = some (.cells (lgArr p.A p.m p.c p.O ns.length p.lc p.Mn p.Ma) 80 (0, 0))
 key : SlR w p.A p.m p.c 1 (GK key)
 lv : SlR w p.O ns.length p.lc 32 (GP (lvN ns))
 nm : w.heap[p.Mn]? = some (mpO sV lsV p.nm)
 am : w.heap[p.Ma]? = some (mpO M2 sV p.am)
theorem lgAt_of {key : List UInt8} {ns : List NoteN} {p : LgP} {w0 w : World} {L : List Res} (h : St w0 w (lgL p key ns ++ L)) : LgAt w p key ns :=
 ⟨h.get 0 rfl, h.sl 1 rfl, h.sl 2 rfl, h.obj 3 rfl, h.obj 4 rfl⟩
theorem lt_of_at {w : World} {g : Nat} {o : Obj} (h : w.heap[g]? = some o) : g < w.heap.size := (Array.getElem?_eq_some_iff.1 h).1
theorem St.stood {w W : World} {L : List Res} (h : St w W L) {g : Nat} {o : Obj} (hg : w.heap[g]? = some o) : W.heap[g]? = some o := by
 rw [h.below.block g (lt_of_at hg)]; exact hg
theorem LgAt.old {key : List UInt8} {ns : List NoteN} {p : LgP} {w W : World} {L : List Res} (h : LgAt w p key ns) (Ga : St w W L) : LgAt W p key ns :=
 ⟨Ga.stood h.blk, Ga.old (by decide) h.key, Ga.old (by decide) h.lv, Ga.stood h.nm, Ga.stood h.am⟩
theorem entriesK_any (key : List UInt8) (ns : List NoteN) (p : LgP) (w : World) (hp : LgAt w p key ns) (hm : MapsOf ns p.nm p.am) (hl : Logged ns) :
  Calls Tryz.prog 40 #[.pointer (some ⟨p.g, 0, none⟩)] w fun e w' => ∃ (es : List (Nat × Dig)) (O : Option Addr) (oc : Nat), e = .returned (.slice O es.length oc) ∧ (es.length ≤ 64 ∧ (∀ e ∈ es, e.1 < 4294967296) ∧ (es.map (·.1)).Nodup ∧ Hq es = lgF ns) ∧
   St w w' [.row O es.length oc 110 33 (Jc es)] := by
 have Ga := St.refl w
 have HO := Gg hm.ksO
 have HD := Gg hm.nd
 have HM := Gg hm
 have HLg := Gg hl
 have hlen : p.am.length ≤ 64 := by rw [hm.lenA, hm.len]; exact hl.names
 have HAt := Gg (fun (i : Nat) (q : Nat × List UInt8) (h : p.am[i]? = some q) => show ∃ x, JQ q.2 p.nm = some x ∧ enN p.nm p.am i = (q.1, x.2.2) ∧ K4 Tryz.prog 9 sV q.2 from by
  have hmem := List.mem_of_getElem? h
  obtain ⟨x, hx⟩ := hm.total (k := q.1) (s := q.2) hmem
  exact ⟨x, hx, by unfold enN fL; rw [h]; simp only [hx]; rfl, sV_ok (hm.ksA q hmem).2⟩)
 obtain ⟨q1, q2, q3, q4, q5⟩ := hp
 obtain ⟨g, m, c, lc, Mn, Ma, A, O0, nm, am⟩ := p
 simp only at *
 have HBk := Lib.hid q1
 have HNm := Lib.hid q4
 have HAm := Lib.hid q5
 obtain ⟨n, hn⟩ : ∃ n, n = am.length := ⟨_, rfl⟩
 have HN := Gg hn
 rw [← hn] at hlen
 clear hm hl hn q1 q2 q3 q4 q5
 go_enter Tryz.func40, Tryz.ntmps40
 go_upto_region 1 with (go_big_may; fail)
 go_upto_region 2 with (go_big_may; fail)
 go_wp2_with (first | (refine Gj 9 rfl (by rfl) uz78 rfl (Gy (Ga.stood HBk.out) PR) ?_) | (refine L_range (fk := M2) (fv := sV) (l := am) (d := some 10) rfl rfl rfl uz78 (Gw rfl) (Ga.stood HAm.out) ?_; intro r W10 Gb; replace Ga := Ga.trans Gb; simp only [Gc, Gd] at Ga))
 (try simp only [Act.put, List.setIfInBounds_toArray, List.set_cons_succ, List.set_cons_zero])
 rw [← HN.out] at Ga
 clear Gb
 have Ga := Ga.nilRow 110 33
 go_loopg [3] n (fun gk s3 wr => ∃ (dn : List Nat) (O : Option Addr) (k oc : Nat), Hid (dn.length + gk = n ∧ dn.Nodup ∧ (∀ i ∈ dn, i < n) ∧ k = dn.length) ∧ s3 = .slice O k oc ∧
  St w wr [.row O k oc 110 33 (Jc (dn.map (enN nm am))), .obj r (.mapIter (some Ma) n dn.toArray n)])
 case atStart => exact ⟨[], none, 0, 0, Lib.hid ⟨by simp, List.nodup_nil, by simp, rfl⟩, rfl, Ga⟩
 case round =>
  clear Ga
  obtain ⟨dn, O, k, oc, HG, rfl, Ga⟩ := hrel
  go_wp2_with (refine L_next (fk := M2) (fv := sV) (l := am) (d := some 11) rfl rfl Ga rfl (Gw rfl) HN.out (Nat.le_refl _) (Ga.stood HAm.out) 1 rfl ?_ ?_)
  ·intro hall
   go_wp2_with fail
   go_ret
   obtain ⟨g1, g2, g3, rfl⟩ := HG.out
   have hn := HN.out
   have hp := range_perm g2 g3 hall
   have hpm : (dn.map (enN nm am)).Perm (am.map fun p => (p.1, fL nm p.2)) := by
    rw [← enN_all, ← hn]
    exact hp.map _
   have hM := HM.out
   have hnd : ((am.map fun p => (p.1, fL nm p.2)).map (·.1)).Nodup := by
    rw [List.map_map]
    exact hM.ndA
   have hlen2 : (dn.map (enN nm am)).length = dn.length := by simp
   refine ⟨dn.map (enN nm am), O, oc, by rw [hlen2]; rfl, ⟨by rw [hpm.length_eq, List.length_map, ← hn]; exact hlen, ?_, ((hpm.map _).nodup_iff).2 hnd, ?_⟩, ?_⟩
   ·intro e he
    obtain ⟨q, hq, rfl⟩ := List.mem_map.1 (hpm.mem_iff.1 he)
    exact (hM.ksA q hq).1
   ·funext k
    rw [leafAt_perm (((hpm.map _).nodup_iff).2 hnd) hpm]
    exact hM.entries HLg.out (fL nm) (fun q _ x hx => by unfold fL; rw [hx]; rfl) k
   ·rw [hlen2]
    exact Ga.pick [0] (by decide)
  ·intro i q W11 hq hi hst'
   clear Ga
   have Ga := hst'
   clear hst'
   simp only [Ge, Gf] at Ga
   obtain ⟨x, hx, he, hko⟩ := HAt.out i q hq
   obtain ⟨k1, s1⟩ := q
   obtain ⟨⟨a1, a2, a3⟩, a4, a5⟩ := x
   simp only at hx he hko
   have HX := Gg hx
   have HK := Gg hko
   have HQ := Gg hq
   have HIn := Gg hi
   have HSn := Gg (show Jc (dn.map (enN nm am)) ++ (J7 (k1 : Int) a5).toList = Jc ((dn ++ [i]).map (enN nm am)) by
    rw [ent_snoc, List.map_append, List.map_singleton, he])
   have hk64 : k ≤ 64 := by
    obtain ⟨g1, g2, g3, g4⟩ := HG.out
    omega
   clear hx hko hq he hi
   generalize Jc (dn.map (enN nm am)) = e0 at *
   go_wp2_with (first | (refine Gj 21 rfl (by rfl) uz77 rfl (Gy (Ga.stood HBk.out) KY) ?_) | (refine L_entry (fk := M2) (fv := sV) (l := am) (i := i) (d := some 13) rfl rfl rfl (Gw rfl) HN.out (Ga.stood HAm.out) (Ga.obj 1 rfl) HQ.out ?_) | (refine L_look1s (fk := sV) (fv := lsV) (y := s1) (l := nm) (d := some 23) rfl rfl rfl Kz uz77 Hi (Gw rfl) (Gw rfl) NK HO.out HD.out HK.out (Ga.stood HNm.out) HX.out ?_) | (refine L_fieldD (d := some 24) rfl rfl rfl uz85 rfl (Gw rfl) uz32 Gv lsArr_leaf ?_) | (refine L_buildE (d := some 25) rfl rfl rfl (Gw rfl) (Gw rfl) ?_) | (refine Gq 26 rfl [_] (Kj (Gw rfl)) rfl uz93 Hc rfl (by (simp [Value.cells]; done)) (by decide) (by decide) ?_; (try clear Gb); intro g26 W26 Gb; replace Ga := Ga.tr1 Gb; simp only [List.flatMap_cons, List.flatMap_nil, List.append_nil, Value.cells, List.toList_toArray] at Ga) | (refine GY (d := some 27) rfl rfl Ga rfl (by rfl) (by rfl) uz93 Hc rfl (by decide) (by decide) 1 rfl (by rfl) (Ga.sl 0 rfl) (NH _ _) (by omega) ?_; clear Ga; intro A27 c27 W27 Ga; simp only [Ge, Gf, List.nil_append, Nat.zero_add] at Ga))
   have hG2 : (dn ++ [i]).length + (gk - 1) = n ∧ (dn ++ [i]).Nodup ∧ (∀ j ∈ dn ++ [i], j < n) ∧ k + 1 = (dn ++ [i]).length ∧ 0 < gk := by
    obtain ⟨g1, g2, g3, g4⟩ := HG.out
    have hin : i < n := by rw [HN.out]; exact (List.getElem?_eq_some_iff.1 HQ.out).1
    have hnd : (dn ++ [i]).Nodup := by
     rw [List.nodup_append]
     refine ⟨g2, by simp, fun a ha b hb => ?_⟩
     rw [List.mem_singleton.1 hb]
     intro e
     exact HIn.out (e ▸ ha)
    have hlt : ∀ j ∈ dn ++ [i], j < n := fun j hj => by
     rcases List.mem_append.1 hj with hj | hj
     ·exact g3 j hj
     ·rw [List.mem_singleton.1 hj]; exact hin
    have hle := nodup_le n _ hnd hlt
    rw [List.length_append, List.length_singleton] at hle
    refine ⟨?_, hnd, hlt, ?_, ?_⟩
    ·rw [List.length_append, List.length_singleton]; omega
    ·rw [List.length_append, List.length_singleton]; omega
    ·omega
   obtain ⟨q1, q2, q3, q4, q5⟩ := hG2
   go_roundg (gk - 1)
   case measure => omega
   case rel =>
    refine ⟨dn ++ [i], A27, k + 1, c27, Lib.hid ⟨q1, q2, q3, q4⟩, rfl, ?_⟩
    rw [← HSn.out]
    exact Ga.tail
attribute [local simp] GR
theorem headK_any (key : List UInt8) (ns : List NoteN) (p : LgP) (w : World) (hT : Tb w) (hp : LgAt w p key ns) (hm : MapsOf ns p.nm p.am) (hl : Logged ns) (hpm : p.m ≤ 140737488355000) :
  Calls Tryz.prog 12 #[.pointer (some ⟨p.g, 0, none⟩)] w fun e w' => e = .returned (.agg (H9 (ns.length : Int) (G4 (lvN ns)) (Jz ns) (Mc key ns))) ∧ St w w' [] := by
 have Ga := St.refl w
 have HT := Gg hT
 have hn := hl.len
 have HE := Gg (fun (w' : World) (h : LgAt w' p key ns) => entriesK_any key ns p w' h hm hl)
 have HRt := Gg (fun (es : List (Nat × Dig)) (O : Option Addr) (oc : Nat) (w' : World) (ht : Tb w') (h1 : es.length ≤ 64 ∧ (∀ e ∈ es, e.1 < 4294967296) ∧ (es.map (·.1)).Nodup ∧ Hq es = lgF ns) (h : SlR w' O es.length oc 33 (Jc es)) => by
  have := tRootM_any es O es.length oc w' ht h h1.1 h1.2.1 h1.2.2.1
  rw [h1.2.2.2] at this
  exact this)
 have HTg := Gg (show Mc key ns = tagN key (ns.length : Int) (G4 (lvN ns)) (Jz ns) from rfl)
 have HMp := Gg (show Jy (lgF ns) 32 0 = Jz ns from rfl)
 rw [HMp.out] at HRt
 have HRo := Gg (fun (w' : World) (ht : Tb w') (h : SlR w' p.O ns.length p.lc 32 (GP (lvN ns))) => tRoot_any (lvN ns) _ _ _ w' ht h hn)
 have HLA := Gg hp
 obtain ⟨q1, q2, q3, q4, q5⟩ := hp
 obtain ⟨g, m, c, lc, Mn, Ma, A, O0, nm, am⟩ := p
 simp only at *
 have HBk := Lib.hid q1
 have HKy := Lib.hid q2
 have HLv := Lib.hid q3
 have HTt := Gg (fun (w' : World) (x y : Dig) (ht : Tb w') (hk : SlR w' A m c 1 (GK key)) => tag_any key A m c (ns.length : Int) x y GM w' (by omega) (by omega) ht hk hpm)
 generalize Mc key ns = tg at *
 generalize Jz ns = mp at *
 clear hT hm hl hpm q1 q2 q3 q4 q5
 go_enter Tryz.func12, Tryz.ntmps12
 go_upto_region 1 with (go_big_may; (refine Gk 2 rfl GS ?_; (try clear Gb); intro g2 W2 Gb; replace Ga := Ga.tr1 Gb))
 go_upto_region 2 with (go_big_may; first | (refine Gj 7 rfl (by rfl) uz44 rfl (Gy (Ga.stood HBk.out) KH) ?_) | (refine L_buildHd (d := some 9) rfl rfl rfl (Gw rfl) ?_) | (refine Gk 3 rfl GS ?_; (try clear Gb); intro g3 W3 Gb; replace Ga := Ga.tr1 Gb) | ((refine Gr 3 9 Ga rfl (by rfl) (Gw rfl) (Jr _ _ _ _) GS (by rfl) 0 rfl (by rfl) ?_; clear Ga; intro WS7 Ga; simp only [Ge, Gf, MV _ _ _ _ _] at Ga)))
 go_upto_region 3 with (go_big_may; first | (refine Gj 14 rfl (by rfl) uz44 rfl (Gy (Ga.stood HBk.out) KH) ?_) | (go_at_call 38; (try clear Gb); refine (HRo.out _ (HT.out.of Ga) (Ga.old (by decide) HLv.out)).mono ?_; rintro e Wk1 ⟨rfl, Gb⟩; replace Ga := Ga.keep Gb) | ((refine Gs 18 16 Ga rfl (by rfl) (Gw rfl) (Dig.one _) Gv (Dig.size _) 0 rfl (of_decide_eq_true rfl) ?_; clear Ga; intro WS9 Ga; simp only [Ge, Gf, MV _ _ _ _ _] at Ga)))
 go_upto_region 4 with (go_big_may; first | (go_at_call 40; (try clear Gb); refine (HE.out _ (HLA.out.old Ga)).mono ?_; rintro e We ⟨es, Oe, oe, rfl, h1, Gb⟩; have H1 := Gg h1; clear h1; replace Ga := Ga.trans Gb; simp only [Gc, Gd] at Ga) | (go_at_call 39; (try clear Gb); refine (HRt.out es _ _ _ (HT.out.of Ga) H1.out (Ga.sl 0 rfl)).mono ?_; rintro e Wk2 ⟨rfl, Gb⟩; replace Ga := Ga.keep Gb) | ((refine Gs 25 23 Ga rfl (by rfl) (Gw rfl) (Dig.one _) Gv (Dig.size _) 1 rfl (by (simp; done)) ?_; clear Ga; intro WS7 Ga; simp only [Ge, Gf, hdArr_putMap _ _ _ _ _] at Ga)))
 refine GO [(0, 0), (1, 0), (2, 0), (3, 0), (4, 2), (5, 2), (6, 2), (7, 1)] (by kernel_rfl) (by kernel_rfl) ?_
 replace Ga := Ga.drew
 refine GG rfl rfl ?_; go_wp2_with fail
 refine GG rfl rfl ?_; go_wp2_with fail
 refine H8 rfl rfl (by kernel_rfl) ?_; go_wp2_with fail
 refine GG rfl rfl ?_; go_wp2_with (refine Gj 29 rfl (by rfl) uz22 rfl (Gy (Ga.stood HBk.out) lgArr_0) ?_)
 refine GA rfl ?_; go_wp2_with ((refine Gl 30 rfl (by rfl) uz41 rfl GS (Ga.get 1 rfl) (GR _ _ _ _) ?_)); refine Gh ?_
 refine GA rfl ?_; go_wp2_with ((go_at_call 24; (try clear Gb); refine (HTt.out _ _ _ (HT.out.of Ga) (Ga.old (by decide) HKy.out)).mono ?_; rintro e Wk3 ⟨rfl, Gb⟩; replace Ga := Ga.keep Gb)); refine Gi Gb ?_
 refine GA rfl ?_; go_wp2_with fail; refine Gh ?_
 refine J6 rfl ?_; go_wp2_with ((refine Gs 32 31 Ga rfl (by rfl) (Gw rfl) (Dig.one _) Gv (by rfl) 1 rfl (by (simp; done)) ?_; clear Ga; intro WS7 Ga; simp only [Ge, Gf, J1 _ _ _ _ _] at Ga))
 refine G5 ?_
 go_wp2_with (first | (refine Gl 33 rfl (by rfl) uz41 rfl GS (Ga.get 1 rfl) (GR _ _ _ _) ?_) | ((refine Gr 2 33 Ga rfl (by rfl) (Gw rfl) (Jr _ _ _ _) GS (GR _ _ _ _) 2 rfl (by rfl) ?_; clear Ga; intro WS1 Ga; simp only [Ge, Gf] at Ga)))
 refine Hw rfl rfl rfl (Ga.get 2 rfl) uz41 rfl GS (by (simp; done)) ?_
 rw [HTg.out]
 exact ⟨rfl, Ga.forget⟩
theorem findU_any (key : List UInt8) (ns : List NoteN) (s : List UInt8) (p : LgP) (w0 w : World) (L : List Res) (hT : Tb w0) (Ga : St w0 w (lgL p key ns ++ L)) (hm : MapsOf ns p.nm p.am) (hl : Logged ns) (hs : JM s = true) :
  Calls Tryz.prog 15 #[.pointer (some ⟨p.g, 0, none⟩), .string (GZ s)] w (FindEnd key ns s p w0 L) := by
 cases hi : Ho ns s with
 | none => exact find_none key ns s p w0 w L hT Ga hm hl hs hi
 | some i => exact find_has key ns s p w0 w L hT Ga hm hl hs i hi
end
section
open Go.RowKit
theorem findN_no {ns : List NoteN} {s : List UInt8} (h : JM s = false) : Jd ns s = zeroFd := by unfold Jd; rw [if_neg (by rw [h]; decide)]
theorem findE_no {s : List UInt8} (h : JM s = false) : findE s = 1 := by unfold findE; rw [if_neg (by rw [h]; decide)]
theorem findE_yes {s : List UInt8} (h : JM s = true) : findE s = 0 := by unfold findE; rw [if_pos h]
theorem rfoundU_any (K : Option Addr) (m mc : Nat) (ns : List NoteN) (s : List UInt8) (A : Option Addr) (n c : Nat) (w : World) (hx : SlR w A n c 34 (H6 ns)) (hg : Logged ns) (hz : s.length ≤ 140737488355328) :
  Calls Tryz.prog 14 #[.agg (Jw K m mc A n c), .string (GZ s)] w fun e w' => ∃ A c B q, e = .returned (.tuple #[.agg (JE (Jd ns s).note.name (Jd ns s).note.key (Jd ns s).note.turn (Jd ns s).at_ A (Jd ns s).path.length c B (Jd ns s).mpath.length q), .int .i64 (findE s : Int)]) ∧
   St w w' [.row A (Jd ns s).path.length c 32 32 (GP (Jd ns s).path), .row B (Jd ns s).mpath.length q 32 32 (GP (Jd ns s).mpath)] := by
 by_cases hs : JM s = true
 ·rw [findE_yes hs]
  exact rfound_any K m mc ns s A n c w hx hg hs
 ·have hs' : JM s = false := by simpa using hs
  rw [findN_no hs', findE_no hs']
  refine (rfound_no K m mc s A n c w hz hs').mono ?_
  rintro e w' ⟨rfl, h⟩
  exact ⟨none, 0, none, 0, rfl, (h.nilRow 32 32).nilRow 32 32⟩
theorem findV_any (key : List UInt8) (ns : List NoteN) (s : List UInt8) (p : LgP) (w0 w : World) (L : List Res) (hT : Tb w0) (Ga : St w0 w (lgL p key ns ++ L)) (hm : MapsOf ns p.nm p.am) (hl : Logged ns) :
  Calls Tryz.prog 15 #[.pointer (some ⟨p.g, 0, none⟩), .string (GZ s)] w fun e w' => ∃ A c B q, e = .returned (.tuple #[.agg (JE (Jd ns s).note.name (Jd ns s).note.key (Jd ns s).note.turn (Jd ns s).at_ A (Jd ns s).path.length c B (Jd ns s).mpath.length q), Nl (findE s)]) ∧
   St w0 w' (.row A (Jd ns s).path.length c 32 32 (GP (Jd ns s).path) :: .row B (Jd ns s).mpath.length q 32 32 (GP (Jd ns s).mpath) :: (lgL p key ns ++ L)) := by
 by_cases hs : JM s = true
 ·rw [findE_yes hs]
  exact findU_any key ns s p w0 w L hT Ga hm hl hs
 ·have hs' : JM s = false := by simpa using hs
  rw [findN_no hs', findE_no hs']
  refine (find_no key ns s p w0 w L Ga hs').mono ?_
  rintro e w' ⟨rfl, h⟩
  exact ⟨none, 0, none, 0, rfl, (h.nilRow 32 32).nilRow 32 32⟩
end
section
open Go.RowKit
theorem look_bad (n : Int) (x y z : Dig) (s : List UInt8) (nt : NoteN) (at_ : Int) (A : Option Addr) (m c : Nat) (B : Option Addr) (p q : Nat) (w : World) (hs : JM s = true) (h0 : nt.name ≠ []) (hok : JN nt = false) (hn1 : -9223372036854775808 ≤ nt.turn) (hn2 : nt.turn ≤ 9223372036854775807) :
  Calls Tryz.prog 22 #[.agg (H9 n x y z), .string (GZ s), .agg (JE nt.name nt.key nt.turn at_ A m c B p q)] w fun e w' => e = .returned (.tuple #[.agg (Ha [] GM 0), .bool false, JL 9]) ∧ St w w' [] := by
 have Ga := St.refl w
 have HN := Gg (fun w => by have := JW s w; rw [hs] at this; exact this)
 have hb := NA h0
 have HL := Gg (fun w => leafOf_no nt w hok hn1 hn2)
 obtain ⟨a1, a2, a3⟩ := nt
 simp only at *
 clear hs h0 hok hn1 hn2
 go_enter Tryz.func22, Tryz.ntmps22
 go_upto_region 1 with (go_big_may; first | (refine Gm 3 rfl (Gw rfl) ?_; (try clear Gb); intro g3 W3 Gb; replace Ga := Ga.tr1 Gb) | (refine Gm 5 rfl (Gw rfl) ?_; (try clear Gb); intro g5 W5 Gb; replace Ga := Ga.tr1 Gb) | (refine Gk 6 rfl GD ?_; (try clear Gb); intro g6 W6 Gb; replace Ga := Ga.tr1 Gb))
 go_upto_region 3 with (go_big_may; (go_at_call 34; (try clear Gb); refine (HN.out _).mono ?_; rintro e Wk1 ⟨rfl, Gb⟩; replace Ga := Ga.keep Gb))
 go_upto_region 8 with (go_big_may; (refine Gj 22 rfl (by rfl) uz9 rfl (Gy (Ga.get 1 rfl) fdArr_0) ?_))
 go_upto_region 9 with (go_big_may; first | (go_at_call 36; (try clear Gb); refine (HL.out _).mono ?_; unfold JL; rintro e Wf ⟨r, hr, rfl, Gb⟩; replace Ga := Ga.keep Gb) | (refine Gn 63 rfl (by rfl) uz34 rfl GD (J4 (Ga.get 1 rfl)) (GN _ _ _) ?_) | (refine Gk 11 rfl Gv ?_; (try clear Gb); intro g11 W11 Gb; replace Ga := Ga.tr1 Gb) | ((refine Gr 11 65 Ga rfl (by rfl) (Gw rfl) (Dig.one _) Gv (by rfl) 0 rfl (by rfl) ?_; clear Ga; intro WS7 Ga; simp only [Ge, Gf] at Ga)))
 go_upto_region 10 with (first | (with_reducible refine GI (t := 70) rfl (by kernel_rfl) ?_) | (with_reducible refine GI (t := 71) rfl (by kernel_rfl) ?_) | (with_reducible refine GI (t := 72) rfl (by kernel_rfl) ?_) | (with_reducible refine GI (t := 73) rfl (by kernel_rfl) ?_) | (with_reducible refine GI (t := 74) rfl (by kernel_rfl) ?_))
 go_wp2_with (first | (refine Je (d := some 76) rfl rfl rfl ?_) | ((refine Gr 6 76 Ga rfl (by rfl) (Gw rfl) (Hg _ _ _) GD (by rfl) 1 rfl (by rfl) ?_; clear Ga; intro WS2 Ga; simp only [Ge, Gf] at Ga)))
 refine Hu rfl rfl rfl rfl rfl (Ga.get 1 rfl) uz34 rfl GD (GN _ _ _) ?_
 exact ⟨rfl, Ga.forget⟩
theorem look_other (n : Int) (x y z : Dig) (s : List UInt8) (nt : NoteN) (at_ : Int) (A : Option Addr) (m c : Nat) (B : Option Addr) (p q : Nat) (w : World) (hT : Tb w) (hs : JM s = true) (h0 : nt.name ≠ []) (hok : JN nt = true) (hns : ¬ nt.name = s) :
  Calls Tryz.prog 22 #[.agg (H9 n x y z), .string (GZ s), .agg (JE nt.name nt.key nt.turn at_ A m c B p q)] w fun e w' => e = .returned (.tuple #[.agg (Ha [] GM 0), .bool false, JL 9]) ∧ St w w' [] := by
 have Ga := St.refl w
 have HN := Gg (fun w => by have := JW s w; rw [hs] at this; exact this)
 have hb := NA h0
 have HT := Gg hT
 have HL := Gg (fun w hT => leafOf_any nt w hT hok)
 have HS := Gg (show (!decide (nt.name = s)) = true by simp [hns])
 generalize Jm nt = lf at *
 obtain ⟨a1, a2, a3⟩ := nt
 simp only at *
 clear hT hs h0 hok hns
 go_enter Tryz.func22, Tryz.ntmps22
 go_upto_region 1 with (go_big_may; first | (refine Gm 3 rfl (Gw rfl) ?_; (try clear Gb); intro g3 W3 Gb; replace Ga := Ga.tr1 Gb) | (refine Gm 5 rfl (Gw rfl) ?_; (try clear Gb); intro g5 W5 Gb; replace Ga := Ga.tr1 Gb) | (refine Gk 6 rfl GD ?_; (try clear Gb); intro g6 W6 Gb; replace Ga := Ga.tr1 Gb))
 go_upto_region 3 with (go_big_may; (go_at_call 34; (try clear Gb); refine (HN.out _).mono ?_; rintro e Wk2 ⟨rfl, Gb⟩; replace Ga := Ga.keep Gb))
 go_upto_region 8 with (go_big_may; (refine Gj 22 rfl (by rfl) uz9 rfl (Gy (Ga.get 1 rfl) fdArr_0) ?_))
 go_upto_region 9 with (go_big_may; first | (go_at_call 36; (try clear Gb); refine (HL.out _ (HT.out.of Ga)).mono ?_; rintro e Wk3 ⟨rfl, Gb⟩; replace Ga := Ga.keep Gb) | (refine Gn 63 rfl (by rfl) uz34 rfl GD (J4 (Ga.get 1 rfl)) (GN _ _ _) ?_) | (refine Gk 11 rfl Gv ?_; (try clear Gb); intro g11 W11 Gb; replace Ga := Ga.tr1 Gb) | ((refine Gr 11 65 Ga rfl (by rfl) (Gw rfl) (Dig.one _) Gv (Dig.size _) 0 rfl (by rfl) ?_; clear Ga; intro WS7 Ga; simp only [Ge, Gf] at Ga)))
 go_upto_region 10 with (go_big_may; first | (refine Gj 72 rfl (by rfl) uz9 rfl (Gy (Ga.get 2 rfl) fdArr_0) ?_) | (refine MW (d := some 74) rfl rfl rfl MD uz9 (Gw rfl) (Gw rfl) ?_; (try rw [HS.out])))
 go_wp2_with (first | (refine Je (d := some 76) rfl rfl rfl ?_) | ((refine Gr 6 76 Ga rfl (by rfl) (Gw rfl) (Hg _ _ _) GD (by rfl) 1 rfl (by rfl) ?_; clear Ga; intro WS2 Ga; simp only [Ge, Gf] at Ga)))
 refine Hu rfl rfl rfl rfl rfl (Ga.get 1 rfl) uz34 rfl GD (GN _ _ _) ?_
 exact ⟨rfl, Ga.forget⟩
def lookW (r r2 : Nat) (D y R x : Dig) (na : Array Value) : Value := if r = 0 ∧ D = y ∧ r2 = 0 ∧ R = x then .tuple #[.agg na, .bool true, .nilIface] else .tuple #[.agg (Ha [] GM 0), .bool false, JL 9]
theorem look_has (n : Int) (x y z : Dig) (s : List UInt8) (nt : NoteN) (at_ : Int) (A : Option Addr) (pt : List Dig) (m c : Nat) (B : Option Addr) (ps : List Dig) (p q : Nat) (w : World) (hT : Tb w) (hs : JM s = true) (hz : SlR w A m c 32 (GP pt)) (hx : SlR w B p q 32 (GP ps)) (h0 : nt.name ≠ []) (hok : JN nt = true) (hns : nt.name = s) :
  Calls Tryz.prog 22 #[.agg (H9 n x y z), .string (GZ s), .agg (JE nt.name nt.key nt.turn at_ A m c B p q)] w fun e w' => e = .returned (lookW (mfE ps) (tfE at_ n pt.length) (mfD s (K2 (Jf s) (Jm nt)) ps) y (tfD (Jm nt) at_ n pt) x nt.arr) ∧ St w w' [] := by
 have Ga := St.refl w
 have HN := Gg (fun w => by have := JW s w; rw [hs] at this; exact this)
 have hb := NA h0
 have HT := Gg hT
 have HX := Gg hx
 have HZ := Gg hz
 have HL := Gg (fun w hT => leafOf_any nt w hT hok)
 have HI := Gg (fun (w' : World) (h : Tb w') => M6 s w' h (by have := J0 hs; omega))
 have HEn0 := Gg (fun (d : Dig) (w' : World) (h : Tb w') => entry_any s d w' h (by have := J0 hs; omega))
 have HF0 := Gg (fun (l : Dig) (w' : World) (ht : Tb w') (h : SlR w' B p q 32 (GP ps)) => tfoldU_any s l ps B p q w' ht h)
 have HTF0 := Gg (fun (l : Dig) (w' : World) (ht : Tb w') (h : SlR w' A m c 32 (GP pt)) => treeFoldU_any l pt A m c at_ n w' ht h)
 have HS := Gg (show (!decide (nt.name = s)) = false by simp [hns])
 have HNT := Gg (show nt.arr = Ha nt.name nt.key nt.turn from rfl)
 generalize nt.arr = na at *
 generalize Jm nt = lf at *
 obtain ⟨a1, a2, a3⟩ := nt
 simp only at *
 obtain ⟨el, hel⟩ : ∃ el, el = K2 (Jf s) lf := ⟨_, rfl⟩
 rw [← hel]
 have HEn := Gg (fun (w' : World) (h : Tb w') => by have := HEn0.out lf w' h; rw [← hel] at this; exact this)
 have HF := Gg (HF0.out el)
 have HTF := Gg (HTF0.out lf)
 clear HEn0 HF0 HTF0
 generalize mfD s el ps = D at *
 generalize tfD lf at_ n pt = R at *
 obtain ⟨r, hr⟩ : ∃ r, r = mfE ps := ⟨_, rfl⟩
 rw [← hr] at HF ⊢
 have HEE := Gg (show Nl r = if r = 0 then .nilIface else JL r by unfold Nl; rfl)
 obtain ⟨r2, hr2⟩ : ∃ r, r = tfE at_ n pt.length := ⟨_, rfl⟩
 rw [← hr2] at HTF ⊢
 have HEE2 := Gg (show Nl r2 = if r2 = 0 then .nilIface else JL r2 by unfold Nl; rfl)
 generalize Jf s = ix at *
 clear hT hs hx hz h0 hok hns hr hr2 hel
 go_enter Tryz.func22, Tryz.ntmps22
 go_upto_region 1 with (go_big_may; first | (refine Gm 3 rfl (Gw rfl) ?_; (try clear Gb); intro g3 W3 Gb; replace Ga := Ga.tr1 Gb) | (refine Gm 5 rfl (Gw rfl) ?_; (try clear Gb); intro g5 W5 Gb; replace Ga := Ga.tr1 Gb) | (refine Gk 6 rfl GD ?_; (try clear Gb); intro g6 W6 Gb; replace Ga := Ga.tr1 Gb))
 go_upto_region 3 with (go_big_may; (go_at_call 34; (try clear Gb); refine (HN.out _).mono ?_; rintro e Wk4 ⟨rfl, Gb⟩; replace Ga := Ga.keep Gb))
 go_upto_region 8 with (go_big_may; (refine Gj 22 rfl (by rfl) uz9 rfl (Gy (Ga.get 1 rfl) fdArr_0) ?_))
 go_upto_region 9 with (go_big_may; first | (go_at_call 36; (try clear Gb); refine (HL.out _ (HT.out.of Ga)).mono ?_; rintro e Wk5 ⟨rfl, Gb⟩; replace Ga := Ga.keep Gb) | (refine Gn 63 rfl (by rfl) uz34 rfl GD (J4 (Ga.get 1 rfl)) (GN _ _ _) ?_) | (refine Gk 11 rfl Gv ?_; (try clear Gb); intro g11 W11 Gb; replace Ga := Ga.tr1 Gb) | ((refine Gr 11 65 Ga rfl (by rfl) (Gw rfl) (Dig.one _) Gv (Dig.size _) 0 rfl (by rfl) ?_; clear Ga; intro WS7 Ga; simp only [Ge, Gf] at Ga)))
 go_upto_region 11 with (go_big_may; first | (refine Gj 72 rfl (by rfl) uz9 rfl (Gy (Ga.get 2 rfl) fdArr_0) ?_) | (refine MW (d := some 74) rfl rfl rfl MD uz9 (Gw rfl) (Gw rfl) ?_; (try rw [HS.out])))
 generalize Nl r = E at *
 generalize Nl r2 = E2 at *
 go_cut [13, 12] (fun s13 s12 wx => ∃ g13, s13 = .pointer (some ⟨g13, 0, none⟩) ∧ s12 = E ∧ St w wx [.blk g13 32 D.arr, .blk g11 32 lf.arr, .blk g6 34 (Ha [] GM 0), .blk g5 46 (JE a1 a2 a3 at_ A m c B p q), .blk g3 41 (H9 n x y z)])
 case first =>
  refine Ht (.one 0 3 (.one 2 3 (.one 3 0 (.one 5 0 (.one 6 0 (.two 1 2 (.two 4 2 (.two 7 2 (.one 8 3 (.one 9 3 (.one 10 3 (.one 11 2 (.one 12 1 (.one 13 2 .nil)))))) 11 2 (.one 7 2 (.one 8 2 (.one 9 3 (.one 10 3 (.one 12 1 (.one 13 2 .nil))))))) 11 2 (.one 4 2 (.one 7 2 (.one 8 2 (.one 9 3 (.one 10 3 (.one 12 1 (.one 13 2 .nil)))))))) 11 2 (.one 1 2 (.one 4 2 (.one 7 2 (.one 8 2 (.one 9 3 (.one 10 3 (.one 12 1 (.one 13 2 .nil)))))))))))))) (by kernel_rfl) (by kernel_rfl) ?_
  replace Ga := Ga.drew
  refine Jj rfl rfl ?_; go_wp2_with fail
  refine Jj rfl rfl ?_; go_wp2_with fail
  refine Kl rfl rfl ?_; go_wp2_with ((refine Gl 82 rfl (by rfl) uz32 rfl Gv (Ga.get 0 rfl) (Dig.size _) ?_))
  refine Pc rfl rfl (by kernel_rfl) ?_; go_wp2_with fail
  refine Kl rfl rfl ?_; go_wp2_with (refine Gj 85 rfl (by rfl) uz44 rfl (Gy (Ga.get 2 rfl) MU) ?_)
  refine JF (ki := 2) (kj := 2) rfl rfl ?_ ?_
  ·go_wp2_with ((go_at_call 35; (try clear Gb); refine (HI.out _ (HT.out.of Ga)).mono ?_; rintro e Wk6 ⟨rfl, Gb⟩; replace Ga := Ga.keep Gb)); refine ⟨fun _ => (Gb.below), ?_⟩
   refine JF (ki := 2) (kj := 2) rfl rfl ?_ ?_
   ·go_wp2_with ((go_at_call 58; (try clear Gb); refine (HEn.out _ (HT.out.of Ga)).mono ?_; rintro e Wk7 ⟨rfl, Gb⟩; replace Ga := Ga.keep Gb)); refine ⟨fun _ => (Gb.below), ?_⟩
    refine JF (ki := 2) (kj := 2) rfl rfl ?_ ?_
    ·go_wp2_with ((go_at_call 57; (try clear Gb); refine (HF.out _ (HT.out.of Ga) (Ga.old (by decide) HX.out)).mono ?_; rintro e Wk8 ⟨rfl, Gb⟩; replace Ga := Ga.keep Gb)); refine ⟨fun _ => (Gb.below), ?_⟩
     refine Jj rfl rfl ?_; go_wp2_with fail
     refine Jj rfl rfl ?_; go_wp2_with fail
     refine Jj rfl rfl ?_; go_wp2_with fail
     refine G6 rfl ?_; go_wp2_with (refine Gk 13 rfl Gv ?_; (try clear Gb); intro g13 W13 Gb; replace Ga := Ga.tr1 Gb); refine Gi Gb ?_
     refine JA rfl ?_; go_wp2_with ((refine Gr 13 87 Ga rfl (by rfl) (Gw rfl) (Dig.one _) Gv (Dig.size _) 0 rfl (by rfl) ?_; clear Ga; intro WS12 Ga; simp only [Ge, Gf] at Ga))
     refine G6 rfl ?_; go_wp2_with fail; refine Gh ?_
     refine H5 ?_
     go_wp2_with fail
     go_meet
     case rel => exact ⟨_, rfl, rfl, Ga.pick [0, 1, 2, 3, 4] (by decide)⟩
    ·go_wp2_with (refine Gk 13 rfl Gv ?_; (try clear Gb); intro g13 W13 Gb; replace Ga := Ga.tr1 Gb); refine ⟨fun _ => (Gb.below), ?_⟩
     refine G6 rfl ?_; go_wp2_with ((go_at_call 57; (try clear Gb); refine (HF.out _ (HT.out.of Ga) (Ga.old (by decide) HX.out)).mono ?_; rintro e Wk8 ⟨rfl, Gb⟩; replace Ga := Ga.keep Gb)); refine Gi Gb ?_
     refine G6 rfl ?_; go_wp2_with fail; refine Gh ?_
     refine Jj rfl rfl ?_; go_wp2_with fail
     refine Jj rfl rfl ?_; go_wp2_with fail
     refine JA rfl ?_; go_wp2_with ((refine Gr 13 87 Ga rfl (by rfl) (Gw rfl) (Dig.one _) Gv (Dig.size _) 0 rfl (by rfl) ?_; clear Ga; intro WS12 Ga; simp only [Ge, Gf] at Ga))
     refine G6 rfl ?_; go_wp2_with fail; refine Gh ?_
     refine H5 ?_
     go_wp2_with fail
     go_meet
     case rel => exact ⟨_, rfl, rfl, Ga.pick [0, 1, 2, 3, 4] (by decide)⟩
   ·go_wp2_with (refine Gk 13 rfl Gv ?_; (try clear Gb); intro g13 W13 Gb; replace Ga := Ga.tr1 Gb); refine ⟨fun _ => (Gb.below), ?_⟩
    refine G6 rfl ?_; go_wp2_with ((go_at_call 58; (try clear Gb); refine (HEn.out _ (HT.out.of Ga)).mono ?_; rintro e Wk7 ⟨rfl, Gb⟩; replace Ga := Ga.keep Gb)); refine Gi Gb ?_
    refine G6 rfl ?_; go_wp2_with ((go_at_call 57; (try clear Gb); refine (HF.out _ (HT.out.of Ga) (Ga.old (by decide) HX.out)).mono ?_; rintro e Wk8 ⟨rfl, Gb⟩; replace Ga := Ga.keep Gb)); refine Gi Gb ?_
    refine G6 rfl ?_; go_wp2_with fail; refine Gh ?_
    refine Jj rfl rfl ?_; go_wp2_with fail
    refine Jj rfl rfl ?_; go_wp2_with fail
    refine JA rfl ?_; go_wp2_with ((refine Gr 13 87 Ga rfl (by rfl) (Gw rfl) (Dig.one _) Gv (Dig.size _) 0 rfl (by rfl) ?_; clear Ga; intro WS12 Ga; simp only [Ge, Gf] at Ga))
    refine G6 rfl ?_; go_wp2_with fail; refine Gh ?_
    refine H5 ?_
    go_wp2_with fail
    go_meet
    case rel => exact ⟨_, rfl, rfl, Ga.pick [0, 1, 2, 3, 4] (by decide)⟩
  ·go_wp2_with (refine Gk 13 rfl Gv ?_; (try clear Gb); intro g13 W13 Gb; replace Ga := Ga.tr1 Gb); refine ⟨fun _ => (Gb.below), ?_⟩
   refine G6 rfl ?_; go_wp2_with ((go_at_call 35; (try clear Gb); refine (HI.out _ (HT.out.of Ga)).mono ?_; rintro e Wk6 ⟨rfl, Gb⟩; replace Ga := Ga.keep Gb)); refine Gi Gb ?_
   refine G6 rfl ?_; go_wp2_with ((go_at_call 58; (try clear Gb); refine (HEn.out _ (HT.out.of Ga)).mono ?_; rintro e Wk7 ⟨rfl, Gb⟩; replace Ga := Ga.keep Gb)); refine Gi Gb ?_
   refine G6 rfl ?_; go_wp2_with ((go_at_call 57; (try clear Gb); refine (HF.out _ (HT.out.of Ga) (Ga.old (by decide) HX.out)).mono ?_; rintro e Wk8 ⟨rfl, Gb⟩; replace Ga := Ga.keep Gb)); refine Gi Gb ?_
   refine G6 rfl ?_; go_wp2_with fail; refine Gh ?_
   refine Jj rfl rfl ?_; go_wp2_with fail
   refine Jj rfl rfl ?_; go_wp2_with fail
   refine JA rfl ?_; go_wp2_with ((refine Gr 13 87 Ga rfl (by rfl) (Gw rfl) (Dig.one _) Gv (Dig.size _) 0 rfl (by rfl) ?_; clear Ga; intro WS12 Ga; simp only [Ge, Gf] at Ga))
   refine G6 rfl ?_; go_wp2_with fail; refine Gh ?_
   refine H5 ?_
   go_wp2_with fail
   go_meet
   case rel => exact ⟨_, rfl, rfl, Ga.pick [0, 1, 2, 3, 4] (by decide)⟩
 case rest =>
  obtain ⟨g13, rfl, rfl, Ga⟩ := hcut
  clear HF HI HN HL HEn HS HX
  by_cases c5 : r = 0
  case neg =>
   have HR := Gg (show lookW r r2 D y R x na = .tuple #[.agg (Ha [] GM 0), .bool false, JL 9] from if_neg (fun h => c5 h.1))
   have hE := HEE.out
   rw [if_neg c5] at hE
   unfold JL at hE
   subst hE
   clear HEE c5
   go_upto_region 13 with (first | (with_reducible refine GI (t := 92) rfl (by kernel_rfl) ?_) | (with_reducible refine GI (t := 93) rfl (by kernel_rfl) ?_) | (with_reducible refine GI (t := 94) rfl (by kernel_rfl) ?_) | (with_reducible refine GI (t := 95) rfl (by kernel_rfl) ?_))
   go_wp2_with (first | (refine Je (d := some 97) rfl rfl rfl ?_) | ((refine Gr 6 97 Ga rfl (by rfl) (Gw rfl) (Hg _ _ _) GD (by rfl) 2 rfl (by rfl) ?_; clear Ga; intro WS2 Ga; simp only [Ge, Gf] at Ga)))
   refine Hu rfl rfl rfl rfl rfl (Ga.get 2 rfl) uz34 rfl GD (GN _ _ _) ?_
   exact ⟨by rw [HR.out]; rfl, Ga.forget⟩
  have hE := HEE.out
  rw [if_pos c5] at hE
  subst hE
  by_cases c6 : D = y
  case neg =>
   have HR := Gg (show lookW r r2 D y R x na = .tuple #[.agg (Ha [] GM 0), .bool false, JL 9] from if_neg (fun h => c6 h.2.1))
   have HD := Gg (show (!decide (D = y)) = true by simp [c6])
   clear HEE c5 c6
   go_upto_region 13 with (go_big_may; first | (refine Gl 92 rfl (by rfl) uz32 rfl Gv (Ga.get 0 rfl) (Dig.size _) ?_) | (refine Gn 94 rfl (by rfl) uz32 rfl Gv (Jt (Ga.get 4 rfl)) (Dig.size _) ?_) | (refine Ml (d := some 95) rfl rfl rfl uz32 uz5 GF JG (Gw rfl) (Gw rfl) ?_; (try rw [HD.out])))
   go_wp2_with (first | (refine Je (d := some 97) rfl rfl rfl ?_) | ((refine Gr 6 97 Ga rfl (by rfl) (Gw rfl) (Hg _ _ _) GD (by rfl) 2 rfl (by rfl) ?_; clear Ga; intro WS2 Ga; simp only [Ge, Gf] at Ga)))
   refine Hu rfl rfl rfl rfl rfl (Ga.get 2 rfl) uz34 rfl GD (GN _ _ _) ?_
   exact ⟨by rw [HR.out]; rfl, Ga.forget⟩
  have HD := Gg (show (!decide (D = y)) = false by simp [c6])
  by_cases c7 : r2 = 0
  case neg =>
   have HR := Gg (show lookW r r2 D y R x na = .tuple #[.agg (Ha [] GM 0), .bool false, JL 9] from if_neg (fun h => c7 h.2.2.1))
   have hE := HEE2.out
   rw [if_neg c7] at hE
   unfold JL at hE
   subst hE
   clear HEE HEE2 c5 c6 c7
   go_upto_region 14 with (go_big_may; first | (refine Gl 92 rfl (by rfl) uz32 rfl Gv (Ga.get 0 rfl) (Dig.size _) ?_) | (refine Gn 94 rfl (by rfl) uz32 rfl Gv (Jt (Ga.get 4 rfl)) (Dig.size _) ?_) | (refine Ml (d := some 95) rfl rfl rfl uz32 uz5 GF JG (Gw rfl) (Gw rfl) ?_; (try rw [HD.out])))
   go_upto_region 15 with (go_big_may; first | (go_at_call 59; (try clear Gb); refine (HTF.out _ (HT.out.of Ga) (Ga.old (by decide) HZ.out)).mono ?_; rintro e Wk9 ⟨rfl, Gb⟩; replace Ga := Ga.keep Gb) | (refine Gl 100 rfl (by rfl) uz32 rfl Gv (Ga.get 1 rfl) (Dig.size _) ?_) | (refine Gj 102 rfl (by rfl) uz3 rfl (Gy (Ga.get 3 rfl) Kd) ?_) | (refine Gj 104 rfl (by rfl) uz3 rfl (Gy (Ga.get 4 rfl) GQ) ?_) | (refine Gj 106 rfl (by rfl) uz44 rfl (Gy (Ga.get 3 rfl) My) ?_) | (refine Gk 14 rfl Gv ?_; (try clear Gb); intro g14 W14 Gb; replace Ga := Ga.tr1 Gb) | ((refine Gr 14 108 Ga rfl (by rfl) (Gw rfl) (Dig.one _) Gv (Dig.size _) 0 rfl (by rfl) ?_; clear Ga; intro WS12 Ga; simp only [Ge, Gf] at Ga)))
   go_upto_region 16 with (first | (with_reducible refine GI (t := 113) rfl (by kernel_rfl) ?_) | (with_reducible refine GI (t := 114) rfl (by kernel_rfl) ?_) | (with_reducible refine GI (t := 115) rfl (by kernel_rfl) ?_) | (with_reducible refine GI (t := 116) rfl (by kernel_rfl) ?_))
   go_wp2_with (first | (refine Je (d := some 118) rfl rfl rfl ?_) | ((refine Gr 6 118 Ga rfl (by rfl) (Gw rfl) (Hg _ _ _) GD (by rfl) 3 rfl (by rfl) ?_; clear Ga; intro WS2 Ga; simp only [Ge, Gf] at Ga)))
   refine Hu rfl rfl rfl rfl rfl (Ga.get 3 rfl) uz34 rfl GD (GN _ _ _) ?_
   exact ⟨by rw [HR.out]; rfl, Ga.forget⟩
  have hE := HEE2.out
  rw [if_pos c7] at hE
  subst hE
  by_cases c8 : R = x
  case neg =>
   have HR := Gg (show lookW r r2 D y R x na = .tuple #[.agg (Ha [] GM 0), .bool false, JL 9] from if_neg (fun h => c8 h.2.2.2))
   have HD2 := Gg (show (!decide (R = x)) = true by simp [c8])
   clear HEE HEE2 c5 c6 c7 c8
   go_upto_region 14 with (go_big_may; first | (refine Gl 92 rfl (by rfl) uz32 rfl Gv (Ga.get 0 rfl) (Dig.size _) ?_) | (refine Gn 94 rfl (by rfl) uz32 rfl Gv (Jt (Ga.get 4 rfl)) (Dig.size _) ?_) | (refine Ml (d := some 95) rfl rfl rfl uz32 uz5 GF JG (Gw rfl) (Gw rfl) ?_; (try rw [HD.out])))
   go_upto_region 15 with (go_big_may; first | (go_at_call 59; (try clear Gb); refine (HTF.out _ (HT.out.of Ga) (Ga.old (by decide) HZ.out)).mono ?_; rintro e Wk10 ⟨rfl, Gb⟩; replace Ga := Ga.keep Gb) | (refine Gl 100 rfl (by rfl) uz32 rfl Gv (Ga.get 1 rfl) (Dig.size _) ?_) | (refine Gj 102 rfl (by rfl) uz3 rfl (Gy (Ga.get 3 rfl) Kd) ?_) | (refine Gj 104 rfl (by rfl) uz3 rfl (Gy (Ga.get 4 rfl) GQ) ?_) | (refine Gj 106 rfl (by rfl) uz44 rfl (Gy (Ga.get 3 rfl) My) ?_) | (refine Gk 14 rfl Gv ?_; (try clear Gb); intro g14 W14 Gb; replace Ga := Ga.tr1 Gb) | ((refine Gr 14 108 Ga rfl (by rfl) (Gw rfl) (Dig.one _) Gv (Dig.size _) 0 rfl (by rfl) ?_; clear Ga; intro WS12 Ga; simp only [Ge, Gf] at Ga)))
   go_upto_region 16 with (go_big_may; first | (refine Gl 113 rfl (by rfl) uz32 rfl Gv (Ga.get 0 rfl) (Dig.size _) ?_) | (refine Gn 115 rfl (by rfl) uz32 rfl Gv (Hy (Ga.get 5 rfl)) (Dig.size _) ?_) | (refine Ml (d := some 116) rfl rfl rfl uz32 uz5 GF JG (Gw rfl) (Gw rfl) ?_; (try rw [HD2.out])))
   go_wp2_with (first | (refine Je (d := some 118) rfl rfl rfl ?_) | ((refine Gr 6 118 Ga rfl (by rfl) (Gw rfl) (Hg _ _ _) GD (by rfl) 3 rfl (by rfl) ?_; clear Ga; intro WS2 Ga; simp only [Ge, Gf] at Ga)))
   refine Hu rfl rfl rfl rfl rfl (Ga.get 3 rfl) uz34 rfl GD (GN _ _ _) ?_
   exact ⟨by rw [HR.out]; rfl, Ga.forget⟩
  have HR := Gg (show lookW r r2 D y R x na = .tuple #[.agg na, .bool true, .nilIface] from if_pos ⟨c5, c6, c7, c8⟩)
  have HD2 := Gg (show (!decide (R = x)) = false by simp [c8])
  clear HEE HEE2 c5 c6 c7 c8
  go_upto_region 14 with (go_big_may; first | (refine Gl 92 rfl (by rfl) uz32 rfl Gv (Ga.get 0 rfl) (Dig.size _) ?_) | (refine Gn 94 rfl (by rfl) uz32 rfl Gv (Jt (Ga.get 4 rfl)) (Dig.size _) ?_) | (refine Ml (d := some 95) rfl rfl rfl uz32 uz5 GF JG (Gw rfl) (Gw rfl) ?_; (try rw [HD.out])))
  go_upto_region 15 with (go_big_may; first | (go_at_call 59; (try clear Gb); refine (HTF.out _ (HT.out.of Ga) (Ga.old (by decide) HZ.out)).mono ?_; rintro e Wk11 ⟨rfl, Gb⟩; replace Ga := Ga.keep Gb) | (refine Gl 100 rfl (by rfl) uz32 rfl Gv (Ga.get 1 rfl) (Dig.size _) ?_) | (refine Gj 102 rfl (by rfl) uz3 rfl (Gy (Ga.get 3 rfl) Kd) ?_) | (refine Gj 104 rfl (by rfl) uz3 rfl (Gy (Ga.get 4 rfl) GQ) ?_) | (refine Gj 106 rfl (by rfl) uz44 rfl (Gy (Ga.get 3 rfl) My) ?_) | (refine Gk 14 rfl Gv ?_; (try clear Gb); intro g14 W14 Gb; replace Ga := Ga.tr1 Gb) | ((refine Gr 14 108 Ga rfl (by rfl) (Gw rfl) (Dig.one _) Gv (Dig.size _) 0 rfl (by rfl) ?_; clear Ga; intro WS12 Ga; simp only [Ge, Gf] at Ga)))
  go_upto_region 17 with (go_big_may; first | (refine Gl 113 rfl (by rfl) uz32 rfl Gv (Ga.get 0 rfl) (Dig.size _) ?_) | (refine Gn 115 rfl (by rfl) uz32 rfl Gv (Hy (Ga.get 5 rfl)) (Dig.size _) ?_) | (refine Ml (d := some 116) rfl rfl rfl uz32 uz5 GF JG (Gw rfl) (Gw rfl) ?_; (try rw [HD2.out])))
  go_wp2_with (first | (refine Gn 121 rfl (by rfl) uz34 rfl GD (J4 (Ga.get 4 rfl)) (GN _ _ _) ?_) | ((refine Gr 6 121 Ga rfl (by rfl) (Gw rfl) (Hg _ _ _) GD (GN _ _ _) 3 rfl (by rfl) ?_; clear Ga; intro WS2 Ga; simp only [Ge, Gf] at Ga)))
  refine Hu rfl rfl rfl rfl rfl (Ga.get 3 rfl) uz34 rfl GD (GN _ _ _) ?_
  exact ⟨by rw [HR.out, HNT.out], Ga.forget⟩
theorem look_any (n : Int) (x y z : Dig) (s : List UInt8) (f : FoundN) (A : Option Addr) (m c : Nat) (B : Option Addr) (p q : Nat) (w : World) (hT : Tb w) (hz : SlR w A m c 32 (GP f.path)) (hx : SlR w B p q 32 (GP f.mpath)) (hn1 : -9223372036854775808 ≤ f.note.turn) (hn2 : f.note.turn ≤ 9223372036854775807) :
  Calls Tryz.prog 22 #[.agg (H9 n x y z), .string (GZ s), .agg (JE f.note.name f.note.key f.note.turn f.at_ A m c B p q)] w fun e w' => e = .returned (lookV (PQ n x y s f)) ∧ St w w' [] := by
 obtain ⟨nt, at_, pt, ps⟩ := f
 simp only at *
 have hm : pt.length = m := by have := hz.1; rw [G8] at this; omega
 unfold PQ
 by_cases hs : JM s = true
 ·rw [if_pos hs]
  by_cases h0 : nt.name = []
  ·rw [if_pos h0]
   obtain ⟨a1, a2, a3⟩ := nt
   simp only at *
   subst h0
   refine (look_none n x y z s a2 a3 at_ A m c B ps p q w hT hs hx).mono ?_
   rintro e w' ⟨rfl, h⟩
   refine ⟨?_, h⟩
   have hp : (pt = []) ↔ m = 0 := by rw [← hm, List.length_eq_zero_iff]
   by_cases hc : a2 = GM ∧ a3 = 0 ∧ at_ = 0 ∧ m = 0 ∧ mfE ps = 0 ∧ mfD s GM ps = y
   ·have hc' : a2 = GM ∧ a3 = 0 ∧ at_ = 0 ∧ pt = [] ∧ K8 y s GM ps := ⟨hc.1, hc.2.1, hc.2.2.1, hp.2 hc.2.2.2.1, (PV y s GM ps).2 hc.2.2.2.2⟩
    rw [show lookZ a2 a3 at_ m (mfE ps) (mfD s GM ps) y = 0 from if_pos hc, if_pos hc']
    rfl
   ·have hc' : ¬ (a2 = GM ∧ a3 = 0 ∧ at_ = 0 ∧ pt = [] ∧ K8 y s GM ps) := fun h => hc ⟨h.1, h.2.1, h.2.2.1, hp.1 h.2.2.2.1, (PV y s GM ps).1 h.2.2.2.2⟩
    rw [show lookZ a2 a3 at_ m (mfE ps) (mfD s GM ps) y = 9 from if_neg hc, if_neg hc']
    rfl
  ·rw [if_neg h0]
   by_cases h1 : JN nt = true ∧ nt.name = s
   ·rw [if_pos h1]
    refine (look_has n x y z s nt at_ A pt m c B ps p q w hT hs hz hx h0 h1.1 h1.2).mono ?_
    rintro e w' ⟨he, h⟩
    refine ⟨?_, h⟩
    rw [he]
    by_cases hc : mfE ps = 0 ∧ mfD s (K2 (Jf s) (Jm nt)) ps = y ∧ tfE at_ n pt.length = 0 ∧ tfD (Jm nt) at_ n pt = x
    ·rw [show lookW (mfE ps) (tfE at_ n pt.length) (mfD s (K2 (Jf s) (Jm nt)) ps) y (tfD (Jm nt) at_ n pt) x nt.arr = _ from if_pos hc, if_pos ⟨(PV _ _ _ _).2 ⟨hc.1, hc.2.1⟩, (treeTold_iff _ _ _ _ _).2 ⟨hc.2.2.1, hc.2.2.2⟩⟩]
     rfl
    ·rw [show lookW (mfE ps) (tfE at_ n pt.length) (mfD s (K2 (Jf s) (Jm nt)) ps) y (tfD (Jm nt) at_ n pt) x nt.arr = _ from if_neg hc, if_neg]
     ·rfl
     ·rintro ⟨h2, h3⟩
      obtain ⟨q1, q2⟩ := (PV _ _ _ _).1 h2
      obtain ⟨q3, q4⟩ := (treeTold_iff _ _ _ _ _).1 h3
      exact hc ⟨q1, q2, q3, q4⟩
   ·rw [if_neg h1]
    by_cases hok : JN nt = true
    ·refine (look_other n x y z s nt at_ A m c B p q w hT hs h0 hok (fun e => h1 ⟨hok, e⟩)).mono ?_
     rintro e w' ⟨rfl, h⟩
     exact ⟨rfl, h⟩
    ·refine (look_bad n x y z s nt at_ A m c B p q w hs h0 (by simpa using hok) hn1 hn2).mono ?_
     rintro e w' ⟨rfl, h⟩
     exact ⟨rfl, h⟩
 ·rw [if_neg hs]
  refine (look_no n x y z s nt.name nt.key nt.turn at_ A m c B p q w (by simpa using hs)).mono ?_
  rintro e w' ⟨rfl, h⟩
  exact ⟨rfl, h⟩
end
section
open Go.RowKit
attribute [local simp] GR GN
def Nr (gl gp : Nat) : Array Value := #[.pointer (some ⟨gl, 0, none⟩), .pointer (some ⟨gp, 0, none⟩)]
theorem Po {gl gp : Nat} : (Nr gl gp)[0]? = some (.pointer (some ⟨gl, 0, none⟩)) := rfl
theorem dkArr_1 {gl gp : Nat} : (Nr gl gp)[1]? = some (.pointer (some ⟨gp, 0, none⟩)) := rfl
theorem findN_turn {ns : List NoteN} (h : Logged ns) (s : List UInt8) : 0 ≤ (Jd ns s).note.turn ∧ (Jd ns s).note.turn < 4294967296 := by
 unfold Jd
 split
 ·split
  ·rename_i i hi
   obtain ⟨n, h1, _⟩ := JO hi
   simp only [h1, Option.getD_some]
   have := h.ok n (List.mem_of_getElem? h1)
   unfold JN at this
   rw [Bool.and_eq_true] at this
   exact of_decide_eq_true this.2
  ·exact ⟨Int.le_refl _, show (0 : Int) < 4294967296 by decide⟩
 ·exact ⟨Int.le_refl _, show (0 : Int) < 4294967296 by decide⟩
theorem findR_no {ns : List NoteN} {s : List UInt8} (h : JM s = false) : PT ns s = (1, none) := by
 unfold PT PQ
 rw [if_neg (by rw [h]; decide)]
theorem dfind_any (key : List UInt8) (ns : List NoteN) (t : List UInt8) (p : LgP) (g gp : Nat) (w0 w : World) (L : List Res) (hT : Tb w0) (hP : Pz w0) (Ga : St w0 w (lgL p key ns ++ (.blk g 125 (Nr p.g gp) :: L))) (hm : MapsOf ns p.nm p.am) (hl : Logged ns) (hpm : p.m ≤ 140737488351232) (ht : t.length ≤ 140737488351232) :
  Calls Tryz.prog 108 #[.pointer (some ⟨g, 0, none⟩), .string (GZ t)] w fun e w' => e = .returned (.tuple #[.string (GZ (N2 ns t).2), Nl (N2 ns t).1]) ∧ St w0 w' (lgL p key ns ++ (.blk g 125 (Nr p.g gp) :: L)) := by
 have HT := Gg hT
 have HP := Gg hP
 have HFd := Gg (fun (w' : World) (X : List Res) h => findV_any key ns t p w0 w' X hT h hm hl)
 have HH := Gg (fun (w' : World) (ht : Tb w') (h : LgAt w' p key ns) => headK_any key ns p w' ht h hm hl (by omega))
 have hft := findN_turn hl t
 have HL := Gg (fun (w' : World) (z : Dig) (A B : Option Addr) (c q : Nat) (ht : Tb w') h1 h2 => look_any (ns.length : Int) (G4 (lvN ns)) (Jz ns) z t (Jd ns t) A (Jd ns t).path.length c B (Jd ns t).mpath.length q w' ht h1 h2 (by omega) (by omega))
 have hr9 := lookN_le (ns.length : Int) (G4 (lvN ns)) (Jz ns) t (Jd ns t)
 have hsm := fun nt => lookN_some (n := (ns.length : Int)) (x := G4 (lvN ns)) (y := Jz ns) (s := t) (f := Jd ns t) (nt := nt)
 by_cases hs : JM t = true
 case neg =>
  have hs' : JM t = false := by simpa using hs
  have hf : N2 ns t = (1, []) := by unfold N2; rw [findR_no hs']; rfl
  rw [hf]
  rewrite [findE_no hs', findN_no hs', show Nl 1 = JL 1 from rfl] at HFd
  unfold JL at HFd
  clear HL HH hft hr9 hsm hs hs' hf hm hl hT hP
  generalize hgl : p.g = gl at *
  have HGl := Gg hgl
  clear hgl
  go_enter Tryz.func108, Tryz.ntmps108
  go_upto_region 1 with (go_big_may; fail)
  go_upto_region 2 with (go_big_may; first | (go_at_call 15; refine (HFd.out _ _ Ga).mono ?_; rintro e Wf ⟨A2, c2, B2, d2, rfl, hst'⟩; clear Ga; have Ga := hst'; clear hst') | (refine Gj 14 rfl (by rfl) uz24 rfl (Gy (Ga.get 5 rfl) Po) ?_) | (refine Gk 6 rfl G1 ?_; (try clear Gb); intro g6 W6 Gb; replace Ga := Ga.tr1 Gb) | ((refine Gr 6 17 Ga rfl (by rfl) (Gw rfl) (Ky _ _ _ _ _ _ _ _ _ _) G1 (by rfl) 0 rfl (by rfl) ?_; clear Ga; intro WS10 Ga; simp only [Ge, Gf] at Ga)))
  go_upto_region 3 with (go_big_may; fail)
  go_wp2_with (fail)
  go_ret2
  exact ⟨rfl, Ga.drop (.cons _ (.cons _ (.cons _ (List.Sublist.refl _))))⟩
 rewrite [findE_yes hs, show Nl 0 = .nilIface from rfl] at HFd
 have hfT : N2 ns t = (if (PT ns t).1 = 0 then (0, match (PT ns t).2 with | none => tNone | some n => NB n.key.l ++ [32] ++ Lib.itoa n.turn) else ((PT ns t).1, [])) := rfl
 generalize N2 ns t = ft at hfT ⊢
 have hfR : PT ns t = PQ (ns.length : Int) (G4 (lvN ns)) (Jz ns) t (Jd ns t) := rfl
 rewrite [hfR] at hfT
 unfold lookV at HL
 generalize PQ (ns.length : Int) (G4 (lvN ns)) (Jz ns) t (Jd ns t) = r at *
 obtain ⟨r1, o⟩ := r
 simp only at *
 unfold NoteN.arr at HL
 have HfT := Gg hfT
 clear hfR hfT
 generalize G4 (lvN ns) = rt at *
 generalize Jz ns = mp at *
 generalize Mc key ns = hr at *
 generalize Jd ns t = fd at *
 obtain ⟨⟨a1, a2, a3⟩, a4, a5, a6⟩ := fd
 simp only at *
 obtain ⟨l5, hl5⟩ : ∃ l, l = a5.length := ⟨_, rfl⟩
 obtain ⟨l6, hl6⟩ : ∃ l, l = a6.length := ⟨_, rfl⟩
 rewrite [← hl5, ← hl6] at HFd HL
 clear hl5 hl6 hs hm hl hT hP
 generalize hgl : p.g = gl at *
 clear hgl
 go_enter Tryz.func108, Tryz.ntmps108
 go_upto_region 1 with (go_big_may; fail)
 go_upto_region 2 with (go_big_may; first | (go_at_call 15; refine (HFd.out _ _ Ga).mono ?_; rintro e Wf ⟨A2, c2, B2, d2, rfl, hst'⟩; clear Ga; have Ga := hst'; clear hst') | (refine Gj 14 rfl (by rfl) uz24 rfl (Gy (Ga.get 5 rfl) Po) ?_) | (refine Gk 6 rfl G1 ?_; (try clear Gb); intro g6 W6 Gb; replace Ga := Ga.tr1 Gb) | ((refine Gr 6 17 Ga rfl (by rfl) (Gw rfl) (Ky _ _ _ _ _ _ _ _ _ _) G1 (Ji _ _ _ _ _ _ _ _ _ _) 0 rfl (by rfl) ?_; clear Ga; intro WS10 Ga; simp only [Ge, Gf] at Ga)))
 go_upto_region 4 with (go_big_may; fail)
 (try clear Gb)
 clear HFd
 go_simp
 go_cut [8, 9, 7] (fun s8 s9 s7 wx => ∃ (g8 : Nat), s8 = .pointer (some ⟨g8, 0, none⟩) ∧ s9 = .bool o.isSome ∧ s7 = Nl r1 ∧ St w0 wx (.blk g8 34 (Ha (o.getD ND).name (o.getD ND).key (o.getD ND).turn) :: (lgL p key ns ++ (.blk g 125 (Nr gl gp) :: L))))
 case first =>
  refine Ht (.one 0 3 (.one 5 3 (.one 1 0 (.one 2 0 (.one 3 0 (.one 6 0 (.two 4 2 (.two 7 2 (.one 8 3 (.one 9 3 (.one 10 3 (.one 11 3 (.one 12 2 (.one 13 1 (.one 14 2 (.one 15 2 .nil)))))))) 12 2 (.one 7 2 (.one 8 2 (.one 9 3 (.one 10 3 (.one 11 3 (.one 13 1 (.one 14 2 (.one 15 2 .nil))))))))) 12 2 (.one 4 2 (.one 7 2 (.one 8 2 (.one 9 3 (.one 10 3 (.one 11 3 (.one 13 1 (.one 14 2 (.one 15 2 .nil)))))))))))))))) (by kernel_rfl) (by kernel_rfl) ?_
  replace Ga := Ga.drew
  refine Jj rfl rfl ?_; go_wp2_with fail
  refine Jj rfl rfl ?_; go_wp2_with fail
  refine Kl rfl rfl ?_; go_wp2_with fail
  refine Pc rfl rfl (by kernel_rfl) ?_; go_wp2_with fail
  refine Kl rfl rfl ?_; go_wp2_with (refine Gj 26 rfl (by rfl) uz24 rfl (Gy (Ga.get 8 rfl) Po) ?_)
  refine Kl rfl rfl ?_; go_wp2_with ((refine Gl 29 rfl (by rfl) uz46 rfl G1 (Ga.get 0 rfl) (Ji _ _ _ _ _ _ _ _ _ _) ?_))
  refine JF (ki := 2) (kj := 2) rfl rfl ?_ ?_
  ·go_wp2_with ((go_at_call 12; (try clear Gb); refine (HH.out _ (HT.out.of Ga) (by (exact lgAt_of (Ga.drop (.cons _ (.cons _ (.cons _ (List.Sublist.refl _)))))))).mono ?_; rintro e Wh ⟨rfl, Gb⟩; replace Ga := Ga.keep Gb)); refine ⟨fun _ => (Gb.below), ?_⟩
   refine JF (ki := 2) (kj := 2) rfl rfl ?_ ?_
   ·go_wp2_with ((go_at_call 22; (try clear Gb); refine (HL.out _ _ _ _ _ _ (HT.out.of Ga) (Ga.sl 1 rfl) (Ga.sl 2 rfl)).mono ?_; rintro e Wl ⟨rfl, Gb⟩; replace Ga := Ga.keep Gb)); refine ⟨fun _ => (Gb.below), ?_⟩
    refine Jj rfl rfl ?_; go_wp2_with fail
    refine Jj rfl rfl ?_; go_wp2_with fail
    refine Jj rfl rfl ?_; go_wp2_with fail
    refine Jj rfl rfl ?_; go_wp2_with fail
    refine G6 rfl ?_; go_wp2_with (refine Gk 8 rfl GD ?_; (try clear Gb); intro g8 W8 Gb; replace Ga := Ga.tr1 Gb); refine Gi Gb ?_
    refine JA rfl ?_; go_wp2_with ((refine Gr 8 31 Ga rfl (by rfl) (Gw rfl) (Hg _ _ _) GD (GN _ _ _) 0 rfl (by rfl) ?_; clear Ga; intro WS13 Ga; simp only [Ge, Gf] at Ga))
    refine G6 rfl ?_; go_wp2_with fail; refine Gh ?_
    refine G6 rfl ?_; go_wp2_with fail; refine Gh ?_
    refine H5 ?_
    go_wp2_with fail
    go_meet
    case rel => exact ⟨_, rfl, rfl, rfl, Ga.drop (.cons_cons _ (.cons _ (.cons _ (.cons _ (List.Sublist.refl _)))))⟩
   ·go_wp2_with (refine Gk 8 rfl GD ?_; (try clear Gb); intro g8 W8 Gb; replace Ga := Ga.tr1 Gb); refine ⟨fun _ => (Gb.below), ?_⟩
    refine G6 rfl ?_; go_wp2_with ((go_at_call 22; (try clear Gb); refine (HL.out _ _ _ _ _ _ (HT.out.of Ga) (Ga.sl 2 rfl) (Ga.sl 3 rfl)).mono ?_; rintro e Wl ⟨rfl, Gb⟩; replace Ga := Ga.keep Gb)); refine Gi Gb ?_
    refine G6 rfl ?_; go_wp2_with fail; refine Gh ?_
    refine Jj rfl rfl ?_; go_wp2_with fail
    refine Jj rfl rfl ?_; go_wp2_with fail
    refine Jj rfl rfl ?_; go_wp2_with fail
    refine JA rfl ?_; go_wp2_with ((refine Gr 8 31 Ga rfl (by rfl) (Gw rfl) (Hg _ _ _) GD (GN _ _ _) 0 rfl (by rfl) ?_; clear Ga; intro WS13 Ga; simp only [Ge, Gf] at Ga))
    refine G6 rfl ?_; go_wp2_with fail; refine Gh ?_
    refine G6 rfl ?_; go_wp2_with fail; refine Gh ?_
    refine H5 ?_
    go_wp2_with fail
    go_meet
    case rel => exact ⟨_, rfl, rfl, rfl, Ga.drop (.cons_cons _ (.cons _ (.cons _ (.cons _ (List.Sublist.refl _)))))⟩
  ·go_wp2_with (refine Gk 8 rfl GD ?_; (try clear Gb); intro g8 W8 Gb; replace Ga := Ga.tr1 Gb); refine ⟨fun _ => (Gb.below), ?_⟩
   refine G6 rfl ?_; go_wp2_with ((go_at_call 12; (try clear Gb); refine (HH.out _ (HT.out.of Ga) (by (exact lgAt_of (Ga.drop (.cons _ (.cons _ (.cons _ (.cons _ (List.Sublist.refl _))))))))).mono ?_; rintro e Wh ⟨rfl, Gb⟩; replace Ga := Ga.keep Gb)); refine Gi Gb ?_
   refine G6 rfl ?_; go_wp2_with ((go_at_call 22; (try clear Gb); refine (HL.out _ _ _ _ _ _ (HT.out.of Ga) (Ga.sl 2 rfl) (Ga.sl 3 rfl)).mono ?_; rintro e Wl ⟨rfl, Gb⟩; replace Ga := Ga.keep Gb)); refine Gi Gb ?_
   refine G6 rfl ?_; go_wp2_with fail; refine Gh ?_
   refine Jj rfl rfl ?_; go_wp2_with fail
   refine Jj rfl rfl ?_; go_wp2_with fail
   refine Jj rfl rfl ?_; go_wp2_with fail
   refine JA rfl ?_; go_wp2_with ((refine Gr 8 31 Ga rfl (by rfl) (Gw rfl) (Hg _ _ _) GD (GN _ _ _) 0 rfl (by rfl) ?_; clear Ga; intro WS13 Ga; simp only [Ge, Gf] at Ga))
   refine G6 rfl ?_; go_wp2_with fail; refine Gh ?_
   refine G6 rfl ?_; go_wp2_with fail; refine Gh ?_
   refine H5 ?_
   go_wp2_with fail
   go_meet
   case rel => exact ⟨_, rfl, rfl, rfl, Ga.drop (.cons_cons _ (.cons _ (.cons _ (.cons _ (List.Sublist.refl _)))))⟩
 case rest =>
  obtain ⟨g8, rfl, rfl, rfl, hst2⟩ := hcut
  clear Ga
  have Ga := hst2
  clear hst2
  clear HH HL
  by_cases hr0 : r1 = 0
  case neg =>
   rewrite [show Nl r1 = JL r1 from if_neg hr0]
   have HNe := Gg hr0
   have HEr := Gg (show Nl r1 = JL r1 from if_neg hr0)
   clear hr0
   unfold JL
   go_upto_region 6 with (go_big_may; fail)
   go_wp2_with (fail)
   go_ret2
   refine ⟨?_, Ga.tail⟩
   rw [HfT.out, if_neg HNe.out]
   simp only
   rw [HEr.out]
   rfl
  subst hr0
  rewrite [show Nl 0 = .nilIface from rfl]
  cases o with
  | none =>
   go_upto_region 7 with (go_big_may; fail)
   go_upto_region 8 with (go_big_may; fail)
   go_wp2_with (fail)
   go_ret2
   exact ⟨by rw [HfT.out]; rfl, Ga.tail⟩
  | some nt =>
   obtain ⟨h1, h2⟩ := hsm nt rfl
   obtain ⟨b1, b2, b3⟩ := nt
   have hb3 : 0 ≤ b3 ∧ b3 < 4294967296 := by
    unfold JN at h2
    rw [Bool.and_eq_true] at h2
    exact of_decide_eq_true h2.2
   simp only [Option.getD_some, Option.isSome_some] at Ga ⊢
   clear h1 h2 hsm
   have HX := Gg (fun (A : Option Addr) (w' : World) (h : SlR w' A 32 32 1 (GK b2.l)) => show Calls Tryz.prog 134 #[.slice A 32 32] w' fun e w2 => e = .returned (.string (GZ (NB b2.l))) ∧ St w' w2 [] from hex_any b2.l A 32 32 w' h (by decide))
   have HI := Gg (fun (w' : World) (h : Pz w') => itoa_any b3 (by omega) (by omega) w' h)
   have hx1 := P8 b2
   have hd1 : (Lib.itoa b3).length ≤ 4294967297 := by
    obtain ⟨q, rfl⟩ := Int.eq_ofNat_of_zero_le hb3.1
    rw [itoa_nat]
    have := Ph q
    omega
   go_upto_region 7 with (go_big_may; fail)
   go_upto_region 9 with (go_big_may; fail)
   refine GO [(0, 0), (1, 0), (4, 0), (5, 0), (2, 2), (3, 0), (6, 2), (7, 2), (8, 2), (9, 2)] (by kernel_rfl) (by kernel_rfl) ?_
   replace Ga := Ga.drew
   refine H8 rfl rfl (by kernel_rfl) ?_; go_wp2_with fail
   refine GG rfl rfl ?_; go_wp2_with (refine K7 (d := some 40) rfl rfl rfl (by rfl) uz32 GF (MG (Ga.get 0 rfl)) (Dig.size _) (by decide) ?_; intro hs40; clear hs40)
   refine H8 rfl rfl (by kernel_rfl) ?_; go_wp2_with fail
   refine GG rfl rfl ?_; go_wp2_with (refine Gj 44 rfl (by rfl) uz3 rfl (Gy (Ga.get 0 rfl) KN) ?_)
   refine GA rfl ?_; go_wp2_with ((go_at_call 134; (try clear Gb); have h1 := slr_range (MG (Ga.get 0 rfl)); refine (HX.out _ _ h1).mono ?_; clear h1; rintro e Wx ⟨rfl, Gb⟩; replace Ga := Ga.keep Gb)); refine Gi Gb ?_
   refine idx_sa rfl rfl (Gw rfl) GT ?_; go_wp2_with (refine KE (d := some 42) rfl rfl rfl (u := GZ [32]) (Gw rfl) GT (by simp only [Hf, List.length_append, List.length_cons, List.length_nil]; omega) (KL _ _) ?_)
   refine GA rfl ?_; go_wp2_with ((go_at_call 133; (try clear Gb); refine (HI.out _ (HP.out.of Ga)).mono ?_; rintro e Wk1 ⟨rfl, Gb⟩; replace Ga := Ga.keep Gb)); refine Gi Gb ?_
   refine GA rfl ?_; go_wp2_with (refine KE (d := some 46) rfl rfl rfl (Gw rfl) (Gw rfl) (by simp only [Hf, List.length_append, List.length_cons, List.length_nil]; omega) (KL _ _) ?_); refine Gh ?_
   refine GA rfl ?_; go_wp2_with fail; refine Gh ?_
   refine GA rfl ?_; go_wp2_with fail; refine Gh ?_
   refine G5 ?_
   go_wp2_with fail
   go_ret2
   refine ⟨?_, Ga.tail⟩
   rw [HfT.out]
   simp [Nl]
end
section
open Go.RowKit
section
variable {P : Program} {w0 W : World} {L : List Res} {ops : Array Oper} {rest : List Oper} {o : Oper} {a : Act} {Q : Exit → Act → World → Prop} {dd : Option Tmp}
theorem L_copyB (hgd : o.guard = none) (Ga : St w0 W L) {d s : Operand} {dT sT : TypeId} (ho : o.op = .call { callee := .builtin .copy, args := #[d, s], argTypes := #[dT, sT] }) {elem : TypeId} (hu : P.underlying dT = some (.slice elem)) (hsz : (P.info? elem).map (·.size) = some 1)
  {g off m mc : Nat} (hd : a.eval d = .slice (some ⟨g, off, none⟩) m mc) {A : Option Addr} {n c : Nat} (hs : a.eval s = .slice A n c) {xs : List Value} (hx : SlR W A n c 1 xs) (hm : m ≤ n) (h0 : 0 < m) (k : Nat) {t : TypeId} {cur : Array Value} (hk : L[k]? = some (.blk g t cur)) (hfit : off + m ≤ cur.size) (h1 : ∀ v ∈ xs, v.oneCell' = true)
  (h : ∀ W' : World, St w0 W' (L.set k (.blk g t (Jg cur off (xs.take m)))) → wpList P ops Q rest (a.put o.dst (goInt m)) W') : wpList P ops Q (o :: rest) a W := by
 obtain ⟨hl, _, _, hx'⟩ := hx
 obtain ⟨sb, so, rfl, hr⟩ := hx' (by omega)
 have hlen : (xs.take m).length = m := by rw [List.length_take]; omega
 have hr' := rangeAt_take (k := m) hr
 have hW := h _ (Ga.setRow k hk (Jg cur off (xs.take m)))
 refine wpList_copy_own hgd d s dT sT ho elem hu hsz g off m mc ⟨sb, so, none⟩ n c hd hs cur t (Ga.get k hk) (xs.take m) (by rw [hlen]; exact (Nat.min_eq_right hm).symm) (fun j v hv => by rw [Addr.add_mid]; exact hr' j v hv) (by rw [hlen]; exact hfit) (fun v hv => h1 v (List.mem_of_mem_take hv)) ?_
 rw [hlen]
 have e : (cur.toList.take off ++ (xs.take m ++ cur.toList.drop (off + m))).toArray = Jg cur off (xs.take m) := by unfold Jg; rw [hlen]; simp
 rw [e]
 exact hW
end
end
section
open Go.RowKit
attribute [local simp] GR GN
theorem key_put (l : List UInt8) : Jg GM.arr 0 ((GK (PY l).l).take 32) = (PY l).arr := by
 rw [List.take_of_length_le (by rw [G7, (PY l).h]; decide), ← Dig.toList]
 exact Kr (cs := GM.arr) (ds := (PY l).arr) [] GM.arr.toList (PY l).arr.toList [] (by simp) (by simp) (by rw [Kb, Kb]) rfl
def PW (key : List UInt8) (s : DkS) (t : List UInt8) (p : LgP) (g gp : Nat) (w0 : World) (L : List Res) : Ending → World → Prop := fun e w' =>
 e = .returned (.tuple #[.string (GZ (PJ s t).2.2), Nl (PJ s t).2.1]) ∧ ∃ p' : LgP, p'.g = p.g ∧ p'.m = p.m ∧ MapsOf (PJ s t).1.ns p'.nm p'.am ∧ St w0 w' (lgL p' key (PJ s t).1.ns ++ (.blk g 125 (Nr p.g gp) :: L))
theorem dadd_bad (key : List UInt8) (s : DkS) (t : List UInt8) (p : LgP) (g gp : Nat) (w0 w : World) (L : List Res) (Ga : St w0 w (lgL p key s.ns ++ (.blk g 125 (Nr p.g gp) :: L))) (hm : MapsOf s.ns p.nm p.am) (ht : t.length ≤ 140737488351232) (hb : ¬ (spI t < t.length ∧ hx64 (t.drop (spI t + 1)))) :
  Calls Tryz.prog 107 #[.pointer (some ⟨g, 0, none⟩), .string (GZ t)] w (PW key s t p g gp w0 L) := by
 have HQ := Gg (fun (w' : World) (h : St w0 w' (lgL p key s.ns ++ (.blk g 125 (Nr p.g gp) :: L))) => show PW key s t p g gp w0 L (.returned (.tuple #[.string (GZ []), JL 1])) w' by
  unfold PW PJ
  rw [if_neg hb]
  exact ⟨rfl, p, rfl, rfl, hm, h⟩)
 have HC := Gg (fun w' => cut_any t w' (by omega))
 generalize PW key s t p g gp w0 L = Q at *
 generalize lgL p key s.ns ++ (.blk g 125 (Nr p.g gp) :: L) = LL at *
 have hdl : (t.drop (spI t + 1)).length ≤ 140737488355000 := by rw [List.length_drop]; omega
 clear hm
 unfold JL at HQ
 by_cases c1 : spI t < t.length
 ·have hnx : ¬ hx64 (t.drop (spI t + 1)) := fun h => hb ⟨c1, h⟩
  rewrite [decide_eq_true c1] at HC
  generalize t.take (spI t) = ta at *
  generalize t.drop (spI t + 1) = tb at *
  rcases unhexP_no tb hnx hdl with ⟨m, bs, hm, hU⟩ | hU
  ·have HU := Gg hU
   have p1 : ((m : Int) != 32) = true := by rw [bne_iff_ne]; omega
   clear hU hnx hb hm
   go_enter Tryz.func107, Tryz.ntmps107
   go_upto_region 1 with (go_big_may; fail)
   go_upto_region 2 with (go_big_may; (go_at_call 106; (try clear Gb); refine (HC.out _).mono ?_; rintro e Wk1 ⟨rfl, Gb⟩; replace Ga := Ga.keep Gb))
   go_upto_region 3 with (go_big_may; (go_at_call 132; (try clear Gb); refine (HU.out _).mono ?_; rintro e Wu ⟨Au, cu, rfl, Gb⟩; replace Ga := Ga.trans Gb; simp only [Gc, Gd] at Ga))
   go_upto_region 4 with (go_big_may; fail)
   go_wp2_with (fail)
   exact HQ.out _ Ga.tail
  ·have HU := Gg hU
   clear hU hnx hb
   unfold JL at HU
   go_enter Tryz.func107, Tryz.ntmps107
   go_upto_region 1 with (go_big_may; fail)
   go_upto_region 2 with (go_big_may; (go_at_call 106; (try clear Gb); refine (HC.out _).mono ?_; rintro e Wk2 ⟨rfl, Gb⟩; replace Ga := Ga.keep Gb))
   go_upto_region 3 with (go_big_may; (go_at_call 132; (try clear Gb); refine (HU.out _).mono ?_; rintro e Wk3 ⟨rfl, Gb⟩; replace Ga := Ga.keep Gb))
   go_upto_region 4 with (first | (with_reducible refine GI (t := 31) rfl (by kernel_rfl) ?_) | (with_reducible refine GI (t := 32) rfl (by kernel_rfl) ?_) | (with_reducible refine GI (t := 33) rfl (by kernel_rfl) ?_))
   go_wp2_with (fail)
   exact HQ.out _ Ga
 ·have hnx : ¬ hx64 (t.drop (spI t + 1)) := fun h => by
   have := h.1
   rw [List.length_drop] at this
   omega
  rewrite [decide_eq_false c1] at HC
  generalize t.take (spI t) = ta at *
  generalize t.drop (spI t + 1) = tb at *
  rcases unhexP_no tb hnx hdl with ⟨m, bs, hm, hU⟩ | hU
  ·have HU := Gg hU
   clear hU hnx hb hm
   go_enter Tryz.func107, Tryz.ntmps107
   go_upto_region 1 with (go_big_may; fail)
   go_upto_region 2 with (go_big_may; (go_at_call 106; (try clear Gb); refine (HC.out _).mono ?_; rintro e Wk4 ⟨rfl, Gb⟩; replace Ga := Ga.keep Gb))
   go_upto_region 3 with (go_big_may; (go_at_call 132; (try clear Gb); refine (HU.out _).mono ?_; rintro e Wu ⟨Au, cu, rfl, Gb⟩; replace Ga := Ga.trans Gb; simp only [Gc, Gd] at Ga))
   go_upto_region 4 with (first | (with_reducible refine GI (t := 27) rfl (by kernel_rfl) ?_) | (with_reducible refine GI (t := 28) rfl (by kernel_rfl) ?_) | (with_reducible refine GI (t := 31) rfl (by kernel_rfl) ?_) | (with_reducible refine GI (t := 32) rfl (by kernel_rfl) ?_) | (with_reducible refine GI (t := 33) rfl (by kernel_rfl) ?_))
   go_wp2_with (fail)
   exact HQ.out _ Ga.tail
  ·have HU := Gg hU
   clear hU hnx hb
   unfold JL at HU
   go_enter Tryz.func107, Tryz.ntmps107
   go_upto_region 1 with (go_big_may; fail)
   go_upto_region 2 with (go_big_may; (go_at_call 106; (try clear Gb); refine (HC.out _).mono ?_; rintro e Wk5 ⟨rfl, Gb⟩; replace Ga := Ga.keep Gb))
   go_upto_region 3 with (go_big_may; (go_at_call 132; (try clear Gb); refine (HU.out _).mono ?_; rintro e Wk6 ⟨rfl, Gb⟩; replace Ga := Ga.keep Gb))
   go_upto_region 4 with (first | (with_reducible refine GI (t := 27) rfl (by kernel_rfl) ?_) | (with_reducible refine GI (t := 28) rfl (by kernel_rfl) ?_) | (with_reducible refine GI (t := 31) rfl (by kernel_rfl) ?_) | (with_reducible refine GI (t := 32) rfl (by kernel_rfl) ?_) | (with_reducible refine GI (t := 33) rfl (by kernel_rfl) ?_))
   go_wp2_with (fail)
   exact HQ.out _ Ga
theorem dadd_good (key : List UInt8) (s : DkS) (t : List UInt8) (p : LgP) (g gp : Nat) (w0 w : World) (L : List Res) (hT : Tb w0) (hP : Pz w0) (Ga : St w0 w (lgL p key s.ns ++ (.blk g 125 (Nr p.g gp) :: L))) (hm : MapsOf s.ns p.nm p.am) (hl : Logged s.ns) (ht : t.length ≤ 140737488351232) (hb : spI t < t.length ∧ hx64 (t.drop (spI t + 1))) :
  Calls Tryz.prog 107 #[.pointer (some ⟨g, 0, none⟩), .string (GZ t)] w (PW key s t p g gp w0 L) := by
 have HT := Gg hT
 have HP := Gg hP
 have hn := hl.len
 have HC := Gg (fun w' => cut_any t w' (by omega))
 rewrite [decide_eq_true hb.1] at HC
 have HU := Gg (fun w' => unhexP_yes (t.drop (spI t + 1)) hb.2 w')
 have HI := Gg (fun (w' : World) (h : Pz w') => by
  have := itoa_any (s.ns.length : Int) (by omega) (by omega) w' h
  rewrite [itoa_nat] at this
  exact this)
 have HK := Gg (key_put (t.drop (spI t + 1)))
 have HO := Gg (show ∀ u ∈ GK (PY (t.drop (spI t + 1))).l, u.oneCell' = true from GX)
 have HA := Gg (fun (w' : World) (X : List Res) h => addU_any key s.ns (t.take (spI t)) (PY (t.drop (spI t + 1))) p w0 w' X hT h hm hl)
 by_cases h0 : Kk s.ns (t.take (spI t)) = 0
 ·have HQ := Gg (fun (w' : World) (p' : LgP) (h1 : p'.g = p.g) (h2 : p'.m = p.m) (h3 : MapsOf (addL s.ns (t.take (spI t)) (PY (t.drop (spI t + 1)))) p'.nm p'.am) (h : St w0 w' (lgL p' key (addL s.ns (t.take (spI t)) (PY (t.drop (spI t + 1)))) ++ (.blk g 125 (Nr p.g gp) :: L))) => show PW key s t p g gp w0 L (.returned (.tuple #[.string (GZ (Lib.decDigits s.ns.length)), .nilIface])) w' by
   unfold PW PJ
   rw [if_pos hb, if_pos h0]
   exact ⟨rfl, p', h1, h2, h3, h⟩)
  simp only [h0, if_true] at HA
  generalize PW key s t p g gp w0 L = Q at *
  generalize addL s.ns (t.take (spI t)) (PY (t.drop (spI t + 1))) = ns1 at *
  generalize Lib.decDigits s.ns.length = dn at *
  generalize t.take (spI t) = ta at *
  generalize t.drop (spI t + 1) = tb at *
  generalize PY tb = kd at *
  generalize p.g = gl at *
  clear hT hP hm hl hb h0
  go_enter Tryz.func107, Tryz.ntmps107
  go_upto_region 1 with (go_big_may; fail)
  go_upto_region 2 with (go_big_may; (go_at_call 106; (try clear Gb); refine (HC.out _).mono ?_; rintro e Wk7 ⟨rfl, Gb⟩; replace Ga := Ga.keep Gb))
  go_upto_region 3 with (go_big_may; (go_at_call 132; (try clear Gb); refine (HU.out _).mono ?_; rintro e Wu ⟨Au, cu, rfl, Gb⟩; replace Ga := Ga.trans Gb; simp only [Gc, Gd] at Ga))
  go_upto_region 5 with (go_big_may; fail)
  go_upto_region 6 with (go_big_may; (refine Gk 11 rfl Gv ?_; (try clear Gb); intro g11 W11 Gb; replace Ga := Ga.tr1 Gb))
  go_upto_region 7 with (go_big_may; first | (refine L_copyB rfl Ga rfl uz22 (by kernel_rfl) (Gw rfl) (Gw rfl) (Ga.sl 1 rfl) (Nat.le_refl _) (by decide) 0 rfl (by decide) HO.out ?_; clear Ga; intro Wc Ga; simp only [List.set_cons_zero, HK.out] at Ga) | (refine Jx (d := some 36) rfl rfl rfl (by rfl) uz32 GF (Ga.get 0 rfl) (by rfl) (by decide) ?_; intro hs36))
  (try clear Gb)
  replace Ga := St.swap (X := [_, _]) (Y := lgL p key s.ns) (L := .blk g _ _ :: L) Ga
  refine GO [(4, 0), (5, 0), (0, 2), (1, 2), (2, 2), (3, 2), (6, 1), (7, 2), (8, 0), (9, 0), (10, 2), (11, 2)] (by kernel_rfl) (by kernel_rfl) ?_
  replace Ga := Ga.drew
  refine GG rfl rfl ?_; go_wp2_with fail
  refine GG rfl rfl ?_; go_wp2_with ((refine Gl 45 rfl (by rfl) uz32 rfl Gv (Ga.get 5 rfl) (Dig.size _) ?_))
  refine GA rfl ?_; go_wp2_with fail; refine Gh ?_
  refine GA rfl ?_; go_wp2_with fail; refine Gh ?_
  refine GA rfl ?_; go_wp2_with fail; refine Gh ?_
  refine GA rfl ?_; go_wp2_with (refine Gj 43 rfl (by rfl) uz24 rfl (Gy (Ga.get 7 rfl) Po) ?_); refine Gh ?_
  refine J6 rfl ?_; go_wp2_with ((go_at_call 10; refine (HA.out _ _ Ga).mono ?_; rintro e Wa ⟨rfl, q1, u1, u2, u3, hst'⟩; clear Ga; have Ga := hst'; clear hst'))
  refine GA rfl ?_; go_wp2_with fail; refine Gh ?_
  refine GG rfl rfl ?_; go_wp2_with fail
  refine GG rfl rfl ?_; go_wp2_with fail
  refine GA rfl ?_; go_wp2_with fail; refine Gh ?_
  refine GA rfl ?_; go_wp2_with fail; refine Gh ?_
  refine G5 ?_
  replace Ga := St.swap (X := lgL q1 key ns1) (Y := [_, _]) (L := .blk g _ _ :: L) Ga
  go_upto_region 8 with fail
  go_upto_region 10 with (go_big_may; fail)
  go_wp2_with ((go_at_call 133; (try clear Gb); refine (HI.out _ (HP.out.of Ga)).mono ?_; rintro e Wk8 ⟨rfl, Gb⟩; replace Ga := Ga.keep Gb))
  exact HQ.out _ q1 u1 u2 u3 Ga.tail.tail
 ·have hns : addL s.ns (t.take (spI t)) (PY (t.drop (spI t + 1))) = s.ns := by unfold addL; rw [if_neg h0]
  have HQ := Gg (fun (w' : World) (p' : LgP) (h1 : p'.g = p.g) (h2 : p'.m = p.m) (h3 : MapsOf s.ns p'.nm p'.am) (h : St w0 w' (lgL p' key s.ns ++ (.blk g 125 (Nr p.g gp) :: L))) => show PW key s t p g gp w0 L (.returned (.tuple #[.string (GZ []), JL (Kk s.ns (t.take (spI t)))])) w' by
   unfold PW PJ
   rw [if_pos hb, if_neg h0]
   simp only
   rw [show Nl (Kk s.ns (t.take (spI t))) = JL (Kk s.ns (t.take (spI t))) from if_neg h0]
   exact ⟨rfl, p', h1, h2, h3, h⟩)
  simp only [h0, if_false] at HA
  rewrite [hns] at HA
  unfold JL at HA HQ
  generalize Kk s.ns (t.take (spI t)) = rr at *
  generalize PW key s t p g gp w0 L = Q at *
  generalize t.take (spI t) = ta at *
  generalize t.drop (spI t + 1) = tb at *
  generalize PY tb = kd at *
  generalize p.g = gl at *
  clear hT hP hm hl hb h0 hns HI
  go_enter Tryz.func107, Tryz.ntmps107
  go_upto_region 1 with (go_big_may; fail)
  go_upto_region 2 with (go_big_may; (go_at_call 106; (try clear Gb); refine (HC.out _).mono ?_; rintro e Wk9 ⟨rfl, Gb⟩; replace Ga := Ga.keep Gb))
  go_upto_region 3 with (go_big_may; (go_at_call 132; (try clear Gb); refine (HU.out _).mono ?_; rintro e Wu ⟨Au, cu, rfl, Gb⟩; replace Ga := Ga.trans Gb; simp only [Gc, Gd] at Ga))
  go_upto_region 5 with (go_big_may; fail)
  go_upto_region 6 with (go_big_may; (refine Gk 11 rfl Gv ?_; (try clear Gb); intro g11 W11 Gb; replace Ga := Ga.tr1 Gb))
  go_upto_region 7 with (go_big_may; first | (refine L_copyB rfl Ga rfl uz22 (by kernel_rfl) (Gw rfl) (Gw rfl) (Ga.sl 1 rfl) (Nat.le_refl _) (by decide) 0 rfl (by decide) HO.out ?_; clear Ga; intro Wc Ga; simp only [List.set_cons_zero, HK.out] at Ga) | (refine Jx (d := some 36) rfl rfl rfl (by rfl) uz32 GF (Ga.get 0 rfl) (by rfl) (by decide) ?_; intro hs36))
  (try clear Gb)
  replace Ga := St.swap (X := [_, _]) (Y := lgL p key s.ns) (L := .blk g _ _ :: L) Ga
  refine GO [(4, 0), (5, 0), (0, 2), (1, 2), (2, 2), (3, 2), (6, 1), (7, 2), (8, 0), (9, 0), (10, 2), (11, 2)] (by kernel_rfl) (by kernel_rfl) ?_
  replace Ga := Ga.drew
  refine GG rfl rfl ?_; go_wp2_with fail
  refine GG rfl rfl ?_; go_wp2_with ((refine Gl 45 rfl (by rfl) uz32 rfl Gv (Ga.get 5 rfl) (Dig.size _) ?_))
  refine GA rfl ?_; go_wp2_with fail; refine Gh ?_
  refine GA rfl ?_; go_wp2_with fail; refine Gh ?_
  refine GA rfl ?_; go_wp2_with fail; refine Gh ?_
  refine GA rfl ?_; go_wp2_with (refine Gj 43 rfl (by rfl) uz24 rfl (Gy (Ga.get 7 rfl) Po) ?_); refine Gh ?_
  refine J6 rfl ?_; go_wp2_with ((go_at_call 10; refine (HA.out _ _ Ga).mono ?_; rintro e Wa ⟨rfl, q1, u1, u2, u3, hst'⟩; clear Ga; have Ga := hst'; clear hst'))
  refine GA rfl ?_; go_wp2_with fail; refine Gh ?_
  refine GG rfl rfl ?_; go_wp2_with fail
  refine GG rfl rfl ?_; go_wp2_with fail
  refine GA rfl ?_; go_wp2_with fail; refine Gh ?_
  refine GA rfl ?_; go_wp2_with fail; refine Gh ?_
  refine G5 ?_
  replace Ga := St.swap (X := lgL q1 key s.ns) (Y := [_, _]) (L := .blk g _ _ :: L) Ga
  go_upto_region 8 with fail
  go_upto_region 9 with (go_big_may; fail)
  go_wp2_with (fail)
  exact HQ.out _ q1 u1 u2 u3 Ga.tail.tail
theorem dadd_any (key : List UInt8) (s : DkS) (t : List UInt8) (p : LgP) (g gp : Nat) (w0 w : World) (L : List Res) (hT : Tb w0) (hP : Pz w0) (Ga : St w0 w (lgL p key s.ns ++ (.blk g 125 (Nr p.g gp) :: L))) (hm : MapsOf s.ns p.nm p.am) (hl : Logged s.ns) (ht : t.length ≤ 140737488351232) :
  Calls Tryz.prog 107 #[.pointer (some ⟨g, 0, none⟩), .string (GZ t)] w (PW key s t p g gp w0 L) := by
 by_cases hb : spI t < t.length ∧ hx64 (t.drop (spI t + 1))
 ·exact dadd_good key s t p g gp w0 w L hT hP Ga hm hl ht hb
 ·exact dadd_bad key s t p g gp w0 w L Ga hm ht hb
end
section
open Go.RowKit
def pinAft (r : Nat) (a b : Array Value) : Array Value := if r = 0 then b else a
attribute [local simp] PS GR
theorem ptake_gen (key : List UInt8) (g : Nat) (O : Option Addr) (m oc : Nat) (n0 : Int) (x0 y0 z0 : Dig) (n : Int) (x y z : Dig) (p : List Dig) (P : Option Addr) (k pc : Nat) (w0 w : World) (L : List Res) (hT : Tb w0) (hl : p.length = k) (hp : ∀ (W' : World) (X : List Res), St w0 W' (X ++ L) → SlR W' P k pc 32 (GP p))
  (Ga : St w0 w (.blk g 165 (KS O m oc n0 x0 y0 z0) :: .row O m oc 5 1 (GK key) :: L)) (hm : m ≤ 140737488355000) (hn1 : -9223372036854775808 ≤ n) (hn2 : n ≤ 9223372036854775807) (h0 : 0 ≤ n0) :
  Calls Tryz.prog 135 #[.pointer (some ⟨g, 0, none⟩), .agg (H9 n x y z), .slice P k pc] w fun e w' => e = .returned (Nl (takeN key n0 x0 y0 n x y z p)) ∧
   St w0 w' (.blk g 165 (pinAft (takeN key n0 x0 y0 n x y z p) (KS O m oc n0 x0 y0 z0) (KS O m oc n x y z)) :: .row O m oc 5 1 (GK key) :: L) := by
 have HT := Gg hT
 have HC := Gg (fun (w' : World) (ht : Tb w') (h1 : SlR w' O m oc 1 (GK key)) => told_tag_any key O m oc n x y z w' hn1 hn2 ht h1 hm)
 clear hT hn1 hn2 hm
 have HK := Gg (fun (w' : World) (ht : Tb w') (hs : SlR w' P k pc 32 (GP p)) => check_all n0 n x0 x p P k pc w' ht hs)
 obtain ⟨r, hr⟩ : ∃ r, r = takeN key n0 x0 y0 n x y z p := ⟨_, rfl⟩
 rw [← hr]
 unfold takeN at hr
 by_cases c1 : z = tagN key n x y
 ·rw [if_pos c1] at hr
  rw [decide_eq_true c1] at HC
  clear c1
  have HR := Gg hr
  clear hr
  have hl0 := Gg hl
  have h00 := Gg h0
  clear hl h0
  go_enter Tryz.func135, Tryz.ntmps135
  go_upto_region 1 with (go_big_may; (refine Gm 4 rfl (Gw rfl) ?_; (try clear Gb); intro g4 W4 Gb; replace Ga := Ga.tr1 Gb))
  go_upto_region 2 with (go_big_may; first | (refine Gn 11 rfl (by rfl) uz41 rfl GS (pinArr_head (Ga.get 1 rfl)) (GR _ _ _ _) ?_) | (refine Gk 7 rfl GS ?_; (try clear Gb); intro g7 W7 Gb; replace Ga := Ga.tr1 Gb) | ((refine Gr 7 11 Ga rfl (by rfl) (Gw rfl) (Jr _ _ _ _) GS (GR _ _ _ _) 0 rfl (by rfl) ?_; clear Ga; intro WS5 Ga; simp only [Ge, Gf] at Ga)))
  refine GO [(0, 0), (1, 0), (2, 0), (3, 0), (4, 2), (5, 2), (6, 2), (7, 2)] (by kernel_rfl) (by kernel_rfl) ?_
  replace Ga := Ga.drew
  refine GG rfl rfl ?_; go_wp2_with fail
  refine GG rfl rfl ?_; go_wp2_with fail
  refine H8 rfl rfl (by kernel_rfl) ?_; go_wp2_with fail
  refine GG rfl rfl ?_; go_wp2_with (refine Gj 16 rfl (by rfl) uz22 rfl (Gy (Ga.get 2 rfl) pinArr_0) ?_)
  refine GA rfl ?_; go_wp2_with ((refine Gl 17 rfl (by rfl) uz41 rfl GS (Ga.get 1 rfl) (GR _ _ _ _) ?_)); refine Gh ?_
  refine GA rfl ?_; go_wp2_with ((go_at_call 151; refine (HC.out _ (HT.out.of Ga) (Ga.sl 3 rfl)).mono ?_; rintro e Wt ⟨rfl, Gb⟩; replace Ga := Ga.keep Gb)); refine Gi Gb ?_
  refine GA rfl ?_; go_wp2_with fail; refine Gh ?_
  refine GA rfl ?_; go_wp2_with fail; refine Gh ?_
  refine G5 ?_
  by_cases c2 : n < 0
  ·have hr := HR.out
   clear HR
   rw [if_pos (Or.inl c2)] at hr
   have HR := Gg hr
   clear hr
   go_upto_region 5 with (go_big_may; (refine Gj 23 rfl (by rfl) uz3 rfl (Gy (Ga.get 1 rfl) GQ) ?_))
   go_wp2_with (fail)
   go_ret
   obtain rfl : r = 2 := HR.out
   refine ⟨?_, Ga.tail.tail⟩
   show _ = Ending.returned (JL 2)
   rfl
  by_cases c3 : 256 < n
  ·have hr := HR.out
   clear HR
   rw [if_pos (Or.inr c3)] at hr
   have HR := Gg hr
   clear hr
   go_upto_region 5 with (go_big_may; first | (refine Gj 23 rfl (by rfl) uz3 rfl (Gy (Ga.get 1 rfl) GQ) ?_) | (refine Gj 27 rfl (by rfl) uz3 rfl (Gy (Ga.get 1 rfl) GQ) ?_))
   go_wp2_with (fail)
   go_ret
   obtain rfl : r = 2 := HR.out
   refine ⟨?_, Ga.tail.tail⟩
   show _ = Ending.returned (JL 2)
   rfl
  have hr := HR.out
  clear HR
  rw [if_neg (not_or.2 ⟨c2, c3⟩)] at hr
  have HR := Gg hr
  clear hr
  by_cases c4 : n < n0
  ·have hr := HR.out
   clear HR
   rw [if_pos c4] at hr
   have HR := Gg hr
   clear hr
   go_upto_region 6 with (go_big_may; first | (refine Gj 23 rfl (by rfl) uz3 rfl (Gy (Ga.get 1 rfl) GQ) ?_) | (refine Gj 27 rfl (by rfl) uz3 rfl (Gy (Ga.get 1 rfl) GQ) ?_))
   go_upto_region 7 with (go_big_may; first | (refine Gj 33 rfl (by rfl) uz3 rfl (Gy (Ga.get 1 rfl) GQ) ?_) | (refine Gj 35 rfl (by rfl) uz3 rfl (Gy (Ga.get 0 rfl) GQ) ?_))
   go_wp2_with (fail)
   go_ret
   obtain rfl : r = 8 := HR.out
   refine ⟨?_, Ga.tail.tail⟩
   show _ = Ending.returned (JL 8)
   rfl
  have hr := HR.out
  clear HR
  rw [if_neg c4] at hr
  have HR := Gg hr
  clear hr
  by_cases c5 : n = n0
  ·subst c5
   have hr := HR.out
   clear HR
   rw [if_pos rfl] at hr
   have HR := Gg hr
   clear hr
   by_cases c6 : x = x0
   ·have hx := dNe x0
    subst c6
    by_cases c7 : y = y0
    ·subst c7
     have hr := HR.out
     clear HR
     rw [if_pos ⟨rfl, rfl⟩] at hr
     have HR := Gg hr
     clear hr
     go_upto_region 6 with (go_big_may; first | (refine Gj 23 rfl (by rfl) uz3 rfl (Gy (Ga.get 1 rfl) GQ) ?_) | (refine Gj 27 rfl (by rfl) uz3 rfl (Gy (Ga.get 1 rfl) GQ) ?_))
     go_upto_region 8 with (go_big_may; first | (refine Gj 33 rfl (by rfl) uz3 rfl (Gy (Ga.get 1 rfl) GQ) ?_) | (refine Gj 35 rfl (by rfl) uz3 rfl (Gy (Ga.get 0 rfl) GQ) ?_))
     go_upto_region 9 with (go_big_may; first | (refine Gj 40 rfl (by rfl) uz3 rfl (Gy (Ga.get 1 rfl) GQ) ?_) | (refine Gj 42 rfl (by rfl) uz3 rfl (Gy (Ga.get 0 rfl) GQ) ?_))
     go_upto_region 16 with (go_big_may; first | (refine Gn 45 rfl (by rfl) uz32 rfl Gv (Hy (Ga.get 1 rfl)) (Dig.size _) ?_) | (refine Gn 47 rfl (by rfl) uz32 rfl Gv (Hy (Ga.get 0 rfl)) (Dig.size _) ?_) | (refine Ml (d := some 48) rfl rfl rfl uz32 uz5 GF JG (Gw rfl) (Gw rfl) ?_; (try rw [dNe _])) | (refine Gn 51 rfl (by rfl) uz32 rfl Gv (Jt (Ga.get 1 rfl)) (Dig.size _) ?_) | (refine Gn 53 rfl (by rfl) uz32 rfl Gv (Jt (Ga.get 0 rfl)) (Dig.size _) ?_) | (refine Ml (d := some 54) rfl rfl rfl uz32 uz5 GF JG (Gw rfl) (Gw rfl) ?_; (try rw [dNe _])))
     go_upto_region 17 with (go_big_may; first | (refine Gl 79 rfl (by rfl) uz41 rfl GS (Ga.get 1 rfl) (GR _ _ _ _) ?_) | ((refine Gs 81 79 Ga rfl (by rfl) (Gw rfl) (Jr _ _ _ _) GS (GR _ _ _ _) 2 rfl (by (simp; done)) ?_; clear Ga; intro WS4 Ga; simp only [Ge, Gf, pinArr_put _ _ _ _ _ _ _ _ _ _ _] at Ga)))
     go_wp2_with (fail)
     go_ret
     obtain rfl : r = 0 := HR.out
     refine ⟨?_, Ga.tail.tail⟩
     show _ = Ending.returned .nilIface
     rfl
    ·have hr := HR.out
     clear HR
     rw [if_neg (fun h => c7 h.2)] at hr
     have HR := Gg hr
     clear hr
     go_upto_region 6 with (go_big_may; first | (refine Gj 23 rfl (by rfl) uz3 rfl (Gy (Ga.get 1 rfl) GQ) ?_) | (refine Gj 27 rfl (by rfl) uz3 rfl (Gy (Ga.get 1 rfl) GQ) ?_))
     go_upto_region 8 with (go_big_may; first | (refine Gj 33 rfl (by rfl) uz3 rfl (Gy (Ga.get 1 rfl) GQ) ?_) | (refine Gj 35 rfl (by rfl) uz3 rfl (Gy (Ga.get 0 rfl) GQ) ?_))
     go_upto_region 9 with (go_big_may; first | (refine Gj 40 rfl (by rfl) uz3 rfl (Gy (Ga.get 1 rfl) GQ) ?_) | (refine Gj 42 rfl (by rfl) uz3 rfl (Gy (Ga.get 0 rfl) GQ) ?_))
     go_upto_region 10 with (go_big_may; first | (refine Gn 45 rfl (by rfl) uz32 rfl Gv (Hy (Ga.get 1 rfl)) (Dig.size _) ?_) | (refine Gn 47 rfl (by rfl) uz32 rfl Gv (Hy (Ga.get 0 rfl)) (Dig.size _) ?_) | (refine Ml (d := some 48) rfl rfl rfl uz32 uz5 GF JG (Gw rfl) (Gw rfl) ?_; (try rw [dNe _])) | (refine Gn 51 rfl (by rfl) uz32 rfl Gv (Jt (Ga.get 1 rfl)) (Dig.size _) ?_) | (refine Gn 53 rfl (by rfl) uz32 rfl Gv (Jt (Ga.get 0 rfl)) (Dig.size _) ?_) | (refine Ml (d := some 54) rfl rfl rfl uz32 uz5 GF JG (Gw rfl) (Gw rfl) ?_; (try rw [dNe _])))
     go_wp2_with (fail)
     go_ret
     obtain rfl : r = 9 := HR.out
     refine ⟨?_, Ga.tail.tail⟩
     show _ = Ending.returned (JL 9)
     rfl
   ·have hr := HR.out
    clear HR
    rw [if_neg (fun h => c6 h.1)] at hr
    have HR := Gg hr
    clear hr
    go_upto_region 6 with (go_big_may; first | (refine Gj 23 rfl (by rfl) uz3 rfl (Gy (Ga.get 1 rfl) GQ) ?_) | (refine Gj 27 rfl (by rfl) uz3 rfl (Gy (Ga.get 1 rfl) GQ) ?_))
    go_upto_region 8 with (go_big_may; first | (refine Gj 33 rfl (by rfl) uz3 rfl (Gy (Ga.get 1 rfl) GQ) ?_) | (refine Gj 35 rfl (by rfl) uz3 rfl (Gy (Ga.get 0 rfl) GQ) ?_))
    go_upto_region 9 with (go_big_may; first | (refine Gj 40 rfl (by rfl) uz3 rfl (Gy (Ga.get 1 rfl) GQ) ?_) | (refine Gj 42 rfl (by rfl) uz3 rfl (Gy (Ga.get 0 rfl) GQ) ?_))
    go_upto_region 10 with (go_big_may; first | (refine Gn 45 rfl (by rfl) uz32 rfl Gv (Hy (Ga.get 1 rfl)) (Dig.size _) ?_) | (refine Gn 47 rfl (by rfl) uz32 rfl Gv (Hy (Ga.get 0 rfl)) (Dig.size _) ?_) | (refine Ml (d := some 48) rfl rfl rfl uz32 uz5 GF JG (Gw rfl) (Gw rfl) ?_))
    go_wp2_with (fail)
    go_ret
    obtain rfl : r = 9 := HR.out
    refine ⟨?_, Ga.tail.tail⟩
    show _ = Ending.returned (JL 9)
    rfl
  have hr := HR.out
  clear HR
  rw [if_neg c5] at hr
  have HR := Gg hr
  clear hr
  by_cases c6 : n0 = 0
  ·subst c6
   have hr := HR.out
   clear HR
   rw [if_pos rfl] at hr
   have HR := Gg hr
   clear hr
   have hl := hl0.out
   by_cases c7 : p = []
   ·subst c7
    obtain rfl : k = 0 := by simpa using hl.symm
    clear hl hl0
    have hr := HR.out
    clear HR
    rw [if_pos rfl] at hr
    have HR := Gg hr
    clear hr
    go_upto_region 6 with (go_big_may; first | (refine Gj 23 rfl (by rfl) uz3 rfl (Gy (Ga.get 1 rfl) GQ) ?_) | (refine Gj 27 rfl (by rfl) uz3 rfl (Gy (Ga.get 1 rfl) GQ) ?_))
    go_upto_region 8 with (go_big_may; first | (refine Gj 33 rfl (by rfl) uz3 rfl (Gy (Ga.get 1 rfl) GQ) ?_) | (refine Gj 35 rfl (by rfl) uz3 rfl (Gy (Ga.get 0 rfl) GQ) ?_))
    go_upto_region 11 with (go_big_may; first | (refine Gj 40 rfl (by rfl) uz3 rfl (Gy (Ga.get 1 rfl) GQ) ?_) | (refine Gj 42 rfl (by rfl) uz3 rfl (Gy (Ga.get 0 rfl) GQ) ?_))
    go_upto_region 12 with (go_big_may; (refine Gj 59 rfl (by rfl) uz3 rfl (Gy (Ga.get 0 rfl) GQ) ?_))
    go_upto_region 16 with (go_big_may; fail)
    go_upto_region 17 with (go_big_may; first | (refine Gl 79 rfl (by rfl) uz41 rfl GS (Ga.get 1 rfl) (GR _ _ _ _) ?_) | ((refine Gs 81 79 Ga rfl (by rfl) (Gw rfl) (Jr _ _ _ _) GS (GR _ _ _ _) 2 rfl (by (simp; done)) ?_; clear Ga; intro WS4 Ga; simp only [Ge, Gf, pinArr_put _ _ _ _ _ _ _ _ _ _ _] at Ga)))
    go_wp2_with (fail)
    go_ret
    obtain rfl : r = 0 := HR.out
    refine ⟨?_, Ga.tail.tail⟩
    show _ = Ending.returned .nilIface
    rfl
   ·have hk0 : (0 : Int) < (k : Int) := by
     have := List.length_pos_iff.2 c7
     omega
    clear hl hl0
    have hr := HR.out
    clear HR
    rw [if_neg c7] at hr
    have HR := Gg hr
    clear hr
    go_upto_region 6 with (go_big_may; first | (refine Gj 23 rfl (by rfl) uz3 rfl (Gy (Ga.get 1 rfl) GQ) ?_) | (refine Gj 27 rfl (by rfl) uz3 rfl (Gy (Ga.get 1 rfl) GQ) ?_))
    go_upto_region 8 with (go_big_may; first | (refine Gj 33 rfl (by rfl) uz3 rfl (Gy (Ga.get 1 rfl) GQ) ?_) | (refine Gj 35 rfl (by rfl) uz3 rfl (Gy (Ga.get 0 rfl) GQ) ?_))
    go_upto_region 11 with (go_big_may; first | (refine Gj 40 rfl (by rfl) uz3 rfl (Gy (Ga.get 1 rfl) GQ) ?_) | (refine Gj 42 rfl (by rfl) uz3 rfl (Gy (Ga.get 0 rfl) GQ) ?_))
    go_upto_region 12 with (go_big_may; (refine Gj 59 rfl (by rfl) uz3 rfl (Gy (Ga.get 0 rfl) GQ) ?_))
    go_upto_region 13 with (go_big_may; fail)
    go_wp2_with (fail)
    go_ret
    obtain rfl : r = 9 := HR.out
    refine ⟨?_, Ga.tail.tail⟩
    show _ = Ending.returned (JL 9)
    rfl
  have hr := HR.out
  clear HR
  rw [if_neg c6] at hr
  have HR := Gg hr
  clear hr
  by_cases c7 : Mx n0 n x0 x p = true
  ·have hr := HR.out
   clear HR
   rw [if_pos c7] at hr
   have HR := Gg hr
   clear hr
   rw [c7] at HK
   go_upto_region 6 with (go_big_may; first | (refine Gj 23 rfl (by rfl) uz3 rfl (Gy (Ga.get 1 rfl) GQ) ?_) | (refine Gj 27 rfl (by rfl) uz3 rfl (Gy (Ga.get 1 rfl) GQ) ?_))
   go_upto_region 8 with (go_big_may; first | (refine Gj 33 rfl (by rfl) uz3 rfl (Gy (Ga.get 1 rfl) GQ) ?_) | (refine Gj 35 rfl (by rfl) uz3 rfl (Gy (Ga.get 0 rfl) GQ) ?_))
   go_upto_region 11 with (go_big_may; first | (refine Gj 40 rfl (by rfl) uz3 rfl (Gy (Ga.get 1 rfl) GQ) ?_) | (refine Gj 42 rfl (by rfl) uz3 rfl (Gy (Ga.get 0 rfl) GQ) ?_))
   go_upto_region 14 with (go_big_may; (refine Gj 59 rfl (by rfl) uz3 rfl (Gy (Ga.get 0 rfl) GQ) ?_))
   go_upto_region 16 with (go_big_may; first | (go_at_call 152; refine (HK.out _ (HT.out.of Ga) (hp _ [_, _, _, _] Ga)).mono ?_; rintro e Wk ⟨rfl, Gb⟩; replace Ga := Ga.keep Gb) | (refine Gj 67 rfl (by rfl) uz3 rfl (Gy (Ga.get 0 rfl) GQ) ?_) | (refine Gj 69 rfl (by rfl) uz3 rfl (Gy (Ga.get 1 rfl) GQ) ?_) | (refine Gn 71 rfl (by rfl) uz32 rfl Gv (Hy (Ga.get 0 rfl)) (Dig.size _) ?_) | (refine Gn 73 rfl (by rfl) uz32 rfl Gv (Hy (Ga.get 1 rfl)) (Dig.size _) ?_))
   go_upto_region 17 with (go_big_may; first | (refine Gl 79 rfl (by rfl) uz41 rfl GS (Ga.get 1 rfl) (GR _ _ _ _) ?_) | ((refine Gs 81 79 Ga rfl (by rfl) (Gw rfl) (Jr _ _ _ _) GS (GR _ _ _ _) 2 rfl (by (simp; done)) ?_; clear Ga; intro WS4 Ga; simp only [Ge, Gf, pinArr_put _ _ _ _ _ _ _ _ _ _ _] at Ga)))
   go_wp2_with (fail)
   go_ret
   obtain rfl : r = 0 := HR.out
   refine ⟨?_, Ga.tail.tail⟩
   show _ = Ending.returned .nilIface
   rfl
  ·have hr := HR.out
   clear HR
   rw [if_neg c7] at hr
   have HR := Gg hr
   clear hr
   rw [Bool.eq_false_iff.2 c7] at HK
   go_upto_region 6 with (go_big_may; first | (refine Gj 23 rfl (by rfl) uz3 rfl (Gy (Ga.get 1 rfl) GQ) ?_) | (refine Gj 27 rfl (by rfl) uz3 rfl (Gy (Ga.get 1 rfl) GQ) ?_))
   go_upto_region 8 with (go_big_may; first | (refine Gj 33 rfl (by rfl) uz3 rfl (Gy (Ga.get 1 rfl) GQ) ?_) | (refine Gj 35 rfl (by rfl) uz3 rfl (Gy (Ga.get 0 rfl) GQ) ?_))
   go_upto_region 11 with (go_big_may; first | (refine Gj 40 rfl (by rfl) uz3 rfl (Gy (Ga.get 1 rfl) GQ) ?_) | (refine Gj 42 rfl (by rfl) uz3 rfl (Gy (Ga.get 0 rfl) GQ) ?_))
   go_upto_region 14 with (go_big_may; (refine Gj 59 rfl (by rfl) uz3 rfl (Gy (Ga.get 0 rfl) GQ) ?_))
   go_upto_region 15 with (go_big_may; first | (go_at_call 152; refine (HK.out _ (HT.out.of Ga) (hp _ [_, _, _, _] Ga)).mono ?_; rintro e Wk ⟨rfl, Gb⟩; replace Ga := Ga.keep Gb) | (refine Gj 67 rfl (by rfl) uz3 rfl (Gy (Ga.get 0 rfl) GQ) ?_) | (refine Gj 69 rfl (by rfl) uz3 rfl (Gy (Ga.get 1 rfl) GQ) ?_) | (refine Gn 71 rfl (by rfl) uz32 rfl Gv (Hy (Ga.get 0 rfl)) (Dig.size _) ?_) | (refine Gn 73 rfl (by rfl) uz32 rfl Gv (Hy (Ga.get 1 rfl)) (Dig.size _) ?_))
   go_wp2_with (fail)
   go_ret
   obtain rfl : r = 9 := HR.out
   refine ⟨?_, Ga.tail.tail⟩
   show _ = Ending.returned (JL 9)
   rfl
 ·rw [if_neg c1] at hr
  rw [decide_eq_false c1] at HC
  have HR := Gg hr
  clear h0 hp hl c1 HK hr
  go_enter Tryz.func135, Tryz.ntmps135
  go_upto_region 1 with (go_big_may; (refine Gm 4 rfl (Gw rfl) ?_; (try clear Gb); intro g4 W4 Gb; replace Ga := Ga.tr1 Gb))
  go_upto_region 2 with (go_big_may; first | (refine Gn 11 rfl (by rfl) uz41 rfl GS (pinArr_head (Ga.get 1 rfl)) (GR _ _ _ _) ?_) | (refine Gk 7 rfl GS ?_; (try clear Gb); intro g7 W7 Gb; replace Ga := Ga.tr1 Gb) | ((refine Gr 7 11 Ga rfl (by rfl) (Gw rfl) (Jr _ _ _ _) GS (GR _ _ _ _) 0 rfl (by rfl) ?_; clear Ga; intro WS5 Ga; simp only [Ge, Gf] at Ga)))
  refine GO [(0, 0), (1, 0), (2, 0), (3, 0), (4, 2), (5, 2), (6, 2), (7, 2)] (by kernel_rfl) (by kernel_rfl) ?_
  replace Ga := Ga.drew
  refine GG rfl rfl ?_; go_wp2_with fail
  refine GG rfl rfl ?_; go_wp2_with fail
  refine H8 rfl rfl (by kernel_rfl) ?_; go_wp2_with fail
  refine GG rfl rfl ?_; go_wp2_with (refine Gj 16 rfl (by rfl) uz22 rfl (Gy (Ga.get 2 rfl) pinArr_0) ?_)
  refine GA rfl ?_; go_wp2_with ((refine Gl 17 rfl (by rfl) uz41 rfl GS (Ga.get 1 rfl) (GR _ _ _ _) ?_)); refine Gh ?_
  refine GA rfl ?_; go_wp2_with ((go_at_call 151; refine (HC.out _ (HT.out.of Ga) (Ga.sl 3 rfl)).mono ?_; rintro e Wt ⟨rfl, Gb⟩; replace Ga := Ga.keep Gb)); refine Gi Gb ?_
  refine GA rfl ?_; go_wp2_with fail; refine Gh ?_
  refine GA rfl ?_; go_wp2_with fail; refine Gh ?_
  refine G5 ?_
  go_wp2_with fail
  go_ret
  obtain rfl : r = 1 := HR.out
  refine ⟨?_, Ga.tail.tail⟩
  show _ = Ending.returned (JL 1)
  rfl
end
section
open Go.RowKit
attribute [local simp] GR GN
section
variable {P : Program} {ops : Array Oper} {rest : List Oper} {o : Oper} {a : Act} {W : World} {Q : Exit → Act → World → Prop} {d : Option Tmp}
theorem L_fieldC (hd : o.dst = d) (hw : Region.wanted o (yielded ops a.tmps) = true) {T : TypeId} {x : Operand} {k : Nat} (ho : o.op = .field T x k) {fs : Array Field} (hu : P.underlying T = some (.struct fs)) {fl : Field} (hf : fs[k]? = some fl) {cs : Array Value} (hx : a.eval x = .agg cs)
  {td : TypeDesc} (ht : P.underlying fl.type = some td) (hr : td.isRow = false) {v : Value} (hv : cs[fl.offset]? = some v)
  (h : wpList P ops Q rest (a.put d v) W) : wpList P ops Q (o :: rest) a W := by
 refine Js hd hw ?_ h
 unfold execOp
 simp only [ho, hx]
 simp [Instr.field, run_underlying hu, hf, asAgg, Nt ht hr hv]
end
def pinS (gp : Nat) (O : Option Addr) (m oc : Nat) (ns : List NoteN) (j : Nat) (z : Dig) : Res := .blk gp 165 (KS O m oc (j : Int) (G4 (lvN (ns.take j))) (Jz (ns.take j)) z)
theorem dtake_any (key : List UInt8) (s : DkS) (p : LgP) (g gp m oc : Nat) (O : Option Addr) (w0 w : World) (L : List Res) (hT : Tb w0) (Ga : St w0 w (lgL p key s.ns ++ (.blk g 125 (Nr p.g gp) :: pinS gp O m oc s.ns s.j s.z :: .row O m oc 5 1 (GK key) :: L))) (hm : MapsOf s.ns p.nm p.am) (hok : DkOk s) (hpm : p.m ≤ 140737488351232) (hm2 : m ≤ 140737488351232) :
  Calls Tryz.prog 111 #[.pointer (some ⟨g, 0, none⟩)] w fun e w' => e = .returned .nilIface ∧ St w0 w' (lgL p key s.ns ++ (.blk g 125 (Nr p.g gp) :: pinS gp O m oc s.ns s.ns.length (Mc key s.ns) :: .row O m oc 5 1 (GK key) :: L)) := by
 obtain ⟨ns, j, z⟩ := s
 obtain ⟨hl, hj⟩ := hok
 simp only at *
 have hn := hl.len
 have HT := Gg hT
 have HH := Gg (fun (w' : World) (ht : Tb w') (h : LgAt w' p key ns) => headK_any key ns p w' ht h hm hl (by omega))
 have hTk := take_honest key hj hn
 rewrite [show tagN key (ns.length : Int) (G4 (lvN ns)) (Jz ns) = Mc key ns from rfl] at hTk
 have HTL := Gg (List.take_length (l := ns))
 unfold pinS at *
 rewrite [HTL.out]
 by_cases hj0 : j = 0
 ·subst hj0
  have hpr : prfN ns 0 = [] := if_pos rfl
  rewrite [hpr] at hTk
  have HK := Gg (fun (w' : World) (L' : List Res) h => by
   have := ptake_gen key gp O m oc ((0 : Nat) : Int) (G4 (lvN (ns.take 0))) (Jz (ns.take 0)) z (ns.length : Int) (G4 (lvN ns)) (Jz ns) (Mc key ns) [] none 0 0 w0 w' L' hT rfl (fun W' X _ => SlR.nil_ W' 32) h (by omega) (by omega) (by omega) (by omega)
   rewrite [hTk] at this
   exact this)
  generalize G4 (lvN (ns.take 0)) = rx at *
  generalize Jz (ns.take 0) = ry at *
  generalize G4 (lvN ns) = rt at *
  generalize Jz ns = mp at *
  generalize Mc key ns = hr at *
  clear hTk hpr hT hm hl hj
  obtain ⟨pg, pm, pc, plc, pMn, pMa, pA, pO, pnm, pam⟩ := p
  simp only [lgL, Gc, Gd] at Ga HH hpm
  have e0 : decide ((0 : Int) < ((0 : Nat) : Int)) = false := by decide
  go_enter Tryz.func111, Tryz.ntmps111
  go_upto_region 1 with (go_big_may; fail)
  go_upto_region 2 with (go_big_may; fail)
  go_upto_region 3 with (go_big_may; first | (refine L_fieldC (d := some 12) rfl rfl rfl uz41 rfl (Gw rfl) uz3 rfl GQ ?_) | (go_at_call 110; (try clear Gb); refine (held_any _ _ _ _ _ _ _ _ _ _ _ (Ga.get 6 rfl)).mono ?_; rintro e Wh ⟨rfl, Gb⟩; replace Ga := Ga.keep Gb) | (refine Gj 10 rfl (by rfl) uz122 rfl (Gy (Ga.get 5 rfl) dkArr_1) ?_))
  go_upto_region 8 with (go_big_may; fail)
  (try clear Gb)
  refine J3 [(0, 0), (1, 0), (2, 0), (3, 0), (4, 0), (5, 0), (6, 0), (7, 0), (9, 0), (8, 2), (10, 1), (11, 2)] (by kernel_rfl) (by kernel_rfl) ?_
  replace Ga := Ga.drew
  refine GG rfl rfl ?_; go_wp2_with fail
  refine GG rfl rfl ?_; go_wp2_with fail
  refine H8 rfl rfl (by kernel_rfl) ?_; go_wp2_with fail
  refine GG rfl rfl ?_; go_wp2_with (refine Gj 31 rfl (by rfl) uz122 rfl (Gy (Ga.get 5 rfl) dkArr_1) ?_)
  refine GG rfl rfl ?_; go_wp2_with fail
  refine GG rfl rfl ?_; go_wp2_with fail
  refine H8 rfl rfl (by kernel_rfl) ?_; go_wp2_with fail
  refine GG rfl rfl ?_; go_wp2_with (refine Gj 35 rfl (by rfl) uz24 rfl (Gy (Ga.get 5 rfl) Po) ?_)
  refine GG rfl rfl ?_; go_wp2_with fail
  refine GA rfl ?_; go_wp2_with ((go_at_call 12; (try clear Gb); refine (HH.out _ (HT.out.of Ga) (lgAt_of Ga)).mono ?_; rintro e Wh ⟨rfl, Gb⟩; replace Ga := Ga.keep Gb)); refine Gi Gb ?_
  refine J6 rfl ?_; go_wp2_with ((go_at_call 135; (try clear Gb); refine (HK.out _ _ (St.swap (X := [_, _, _, _, _, _]) (Y := [_, _]) (L := L) Ga)).mono ?_; rintro e Wt ⟨rfl, hst'⟩; clear Ga; have Ga := hst'; clear hst'))
  refine GA rfl ?_; go_wp2_with fail; refine Gh ?_
  refine G5 ?_
  go_wp2_with fail
  go_ret
  exact ⟨rfl, St.swap (X := [_, _]) (Y := [_, _, _, _, _, _]) (L := L) Ga⟩
 ·have hpr : prfN ns j = gpN (lvN ns) j true := if_neg hj0
  rewrite [hpr] at hTk
  have HS := Gg (fun (w' : World) (L' : List Res) h => by
   have := since_any key ns p (j : Int) w0 w' L' hT h hl (by omega) (by omega)
   rewrite [Int.toNat_natCast] at this
   exact this)
  have HK := Gg (fun (w' : World) (Os : Option Addr) (k os : Nat) (L' : List Res) (h1 : (gpN (lvN ns) j true).length = k) h2 h => by
   have := ptake_gen key gp O m oc (j : Int) (G4 (lvN (ns.take j))) (Jz (ns.take j)) z (ns.length : Int) (G4 (lvN ns)) (Jz ns) (Mc key ns) (gpN (lvN ns) j true) Os k os w0 w' L' hT h1 h2 h (by omega) (by omega) (by omega) (by omega)
   rewrite [hTk] at this
   exact this)
  generalize gpN (lvN ns) j true = gpf at *
  generalize plN ns.length j true = pl at *
  generalize G4 (lvN (ns.take j)) = rx at *
  generalize Jz (ns.take j) = ry at *
  generalize G4 (lvN ns) = rt at *
  generalize Jz ns = mp at *
  generalize Mc key ns = hr at *
  have p1 : 0 < j := by omega
  have p2 : (0 : Int) < (j : Int) := by omega
  have e1 : decide (0 < j) = true := decide_eq_true p1
  clear hTk hpr hT hm hl hj hj0
  obtain ⟨pg, pm, pc, plc, pMn, pMa, pA, pO, pnm, pam⟩ := p
  simp only at HS HH hpm Ga
  go_enter Tryz.func111, Tryz.ntmps111
  go_upto_region 1 with (go_big_may; fail)
  go_upto_region 2 with (go_big_may; fail)
  go_upto_region 3 with (go_big_may; first | (refine L_fieldC (d := some 12) rfl rfl rfl uz41 rfl (Gw rfl) uz3 rfl GQ ?_) | (go_at_call 110; (try clear Gb); refine (held_any _ _ _ _ _ _ _ _ _ _ _ (Ga.get 6 rfl)).mono ?_; rintro e Wh ⟨rfl, Gb⟩; replace Ga := Ga.keep Gb) | (refine Gj 10 rfl (by rfl) uz122 rfl (Gy (Ga.get 5 rfl) dkArr_1) ?_))
  go_upto_region 4 with (go_big_may; fail)
  (try clear Gb)
  go_upto_region 5 with (go_big_may; first | (go_at_call 19; (try clear Gb); refine (HS.out _ _ Ga).mono ?_; rintro e Ws ⟨Os, os, rfl, hst'⟩; clear Ga; have Ga := hst'; clear hst') | (refine Gj 19 rfl (by rfl) uz24 rfl (Gy (Ga.get 5 rfl) Po) ?_))
  go_upto_region 7 with (go_big_may; fail)
  go_upto_region 8 with (go_big_may; fail)
  simp only [lgL, Gc, Gd] at Ga
  have hpl : gpf.length = pl := by
   have := (Ga.sl 0 rfl).1
   rw [G8] at this
   omega
  have HPl := Gg hpl
  clear hpl
  refine J3 [(0, 0), (1, 0), (2, 0), (3, 0), (4, 0), (5, 0), (6, 0), (7, 0), (9, 0), (8, 2), (10, 1), (11, 2)] (by kernel_rfl) (by kernel_rfl) ?_
  replace Ga := Ga.drew
  refine GG rfl rfl ?_; go_wp2_with fail
  refine GG rfl rfl ?_; go_wp2_with fail
  refine H8 rfl rfl (by kernel_rfl) ?_; go_wp2_with fail
  refine GG rfl rfl ?_; go_wp2_with (refine Gj 31 rfl (by rfl) uz122 rfl (Gy (Ga.get 6 rfl) dkArr_1) ?_)
  refine GG rfl rfl ?_; go_wp2_with fail
  refine GG rfl rfl ?_; go_wp2_with fail
  refine H8 rfl rfl (by kernel_rfl) ?_; go_wp2_with fail
  refine GG rfl rfl ?_; go_wp2_with (refine Gj 35 rfl (by rfl) uz24 rfl (Gy (Ga.get 6 rfl) Po) ?_)
  refine GG rfl rfl ?_; go_wp2_with fail
  refine GA rfl ?_; go_wp2_with ((go_at_call 12; (try clear Gb); refine (HH.out _ (HT.out.of Ga) (lgAt_of Ga.tail)).mono ?_; rintro e Wh ⟨rfl, Gb⟩; replace Ga := Ga.keep Gb)); refine Gi Gb ?_
  refine J6 rfl ?_; go_wp2_with ((go_at_call 135; (try clear Gb); refine (HK.out _ _ _ _ _ HPl.out (fun W' X h => (h.perm List.perm_append_comm).sl 0 rfl) (St.swap (X := [_, _, _, _, _, _, _]) (Y := [_, _]) (L := L) Ga)).mono ?_; rintro e Wt ⟨rfl, hst'⟩; clear Ga; have Ga := hst'; clear hst'))
  refine GA rfl ?_; go_wp2_with fail; refine Gh ?_
  refine G5 ?_
  go_wp2_with fail
  go_ret
  exact ⟨rfl, (St.swap (X := [_, _]) (Y := [_, _, _, _, _, _, _]) (L := L) Ga).tail⟩
end
section
open Go.RowKit
attribute [local simp] GR GN
structure DkP where
 (g gp m oc : Nat)
 O : Option Addr
def dkR (d : DkP) (p : LgP) (key : List UInt8) (s : DkS) (L : List Res) : List Res :=
 lgL p key s.ns ++ (.blk d.g 125 (Nr p.g d.gp) :: pinS d.gp d.O d.m d.oc s.ns s.j s.z :: .row d.O d.m d.oc 5 1 (GK key) :: L)
def Md (key : List UInt8) (s : DkS) (l : List UInt8) (d : DkP) (p : LgP) (w0 : World) (L : List Res) : Ending → World → Prop := fun e w' =>
 e = .returned (.tuple #[.string (GZ (Jp key s l).2.2), Nl (Jp key s l).2.1]) ∧ ∃ p' : LgP, p'.g = p.g ∧ p'.m = p.m ∧ MapsOf (Jp key s l).1.ns p'.nm p'.am ∧ St w0 w' (dkR d p' key (Jp key s l).1 L)
theorem take_addL (ns : List NoteN) (t : List UInt8) (k : Dig) {j : Nat} (h : j ≤ ns.length) : (addL ns t k).take j = ns.take j := by
 unfold addL
 split
 ·rw [List.take_append_of_le_length h]
 ·rfl
theorem addT_pin (s : DkS) (t : List UInt8) (h : s.j ≤ s.ns.length) (gp m oc : Nat) (O : Option Addr) : pinS gp O m oc (PJ s t).1.ns (PJ s t).1.j (PJ s t).1.z = pinS gp O m oc s.ns s.j s.z := by
 unfold PJ pinS
 split
 ·split
  ·simp only
   rw [take_addL _ _ _ h]
  ·rfl
 ·rfl
theorem no_sp (a : List UInt8) (ha : ∀ b ∈ a, b ≠ 32) : ¬ spI a < a.length := by
 unfold spI
 rw [List.findIdx_eq_length.2 (fun b hb => by simpa using ha b hb)]
 exact Nat.lt_irrefl _
section
variable (key : List UInt8) (s : DkS) (l : List UInt8) (d : DkP) (p : LgP) (w0 w : World) (L : List Res)
theorem do_word (hT : Tb w0) (hP : Pz w0) (Ga : St w0 w (dkR d p key s L)) (hm : MapsOf s.ns p.nm p.am) (hok : DkOk s) (hpm : p.m ≤ 140737488351232) (hdm : d.m ≤ 140737488351232) (hl : l.length ≤ 140737488351232) (hsp : ¬ spI l < l.length) :
  Calls Tryz.prog 74 #[.pointer (some ⟨d.g, 0, none⟩), .string (GZ l)] w (Md key s l d p w0 L) := by
 have HT := Gg hT
 have HP := Gg hP
 have hn := hok.1.len
 have hj := hok.2
 have HC := Gg (fun w' => cut_any l w' (by omega))
 rewrite [decide_eq_false hsp] at HC
 generalize l.take (spI l) = ta at HC
 generalize l.drop (spI l + 1) = tb at HC
 have hAns : ∀ (hh : ¬ l = Ki) (hd : ¬ l = Kw) (ht : ¬ l = KM), Jp key s l = (s, (1, [])) := fun hh hd ht => by
  unfold Jp
  rw [if_neg hh, if_neg hd, if_neg ht, if_neg (fun h => hsp ((beg_find l).1 h).1), if_neg (fun h => hsp ((beg_add l).1 h).1)]
 by_cases c1 : l = Ki
 ·have hA : Jp key s l = (s, (0, Np s.ns.length (G4 (lvN s.ns)) (Jz s.ns))) := if_pos c1
  have HQ := Gg (fun (w' : World) (h : St w0 w' (dkR d p key s L)) => show Md key s l d p w0 L (.returned (.tuple #[.string (GZ (Np s.ns.length (G4 (lvN s.ns)) (Jz s.ns))), .nilIface])) w' by
   unfold Md
   rw [hA]
   exact ⟨rfl, p, rfl, rfl, hm, h⟩)
  have HD := Gg (show decide (l = Ki) = true from decide_eq_true c1)
  have HH := Gg (fun (w' : World) (ht : Tb w') (h : LgAt w' p key s.ns) => headK_any key s.ns p w' ht h hm hok.1 (by omega))
  have HTx := Gg (fun (w' : World) (z : Dig) (h : Pz w') => headed_any s.ns.length (G4 (lvN s.ns)) (Jz s.ns) z (by omega) w' h)
  generalize Md key s l d p w0 L = Q at *
  unfold dkR pinS at *
  generalize Np s.ns.length (G4 (lvN s.ns)) (Jz s.ns) = tx at *
  clear hA hAns hT hP hm hok c1
  generalize hgl : p.g = gl at *
  clear hgl
  go_enter Tryz.func74, Tryz.ntmps74
  go_upto_region 1 with (go_big_may; fail)
  go_upto_region 2 with (go_big_may; (go_at_call 106; (try clear Gb); refine (HC.out _).mono ?_; rintro e Wk1 ⟨rfl, Gb⟩; replace Ga := Ga.keep Gb))
  go_upto_region 4 with (first | (with_reducible refine GI (t := 18) rfl (by kernel_rfl) ?_) | (with_reducible refine GI (t := 19) rfl (by kernel_rfl) ?_))
  go_upto_region 6 with (first | (with_reducible refine GI (t := 29) rfl (by kernel_rfl) ?_) | (with_reducible refine GI (t := 30) rfl (by kernel_rfl) ?_))
  go_upto_region 7 with (go_big_may; (refine Ja (d := some 39) (u := Ki) rfl rfl rfl (by kernel_rfl) uz9 (Gw rfl) GT ?_; rewrite [HD.out]))
  go_wp2_with (first | (go_at_call 12; (try clear Gb); refine (HH.out _ (HT.out.of Ga) (lgAt_of Ga)).mono ?_; rintro e Wh ⟨rfl, Gb⟩; replace Ga := Ga.keep Gb) | (go_at_call 109; (try clear Gb); refine (HTx.out _ _ (HP.out.of Ga)).mono ?_; rintro e Wk2 ⟨rfl, Gb⟩; replace Ga := Ga.keep Gb) | (refine Gj 43 rfl (by rfl) uz24 rfl (Gy (Ga.get 5 rfl) Po) ?_))
  exact HQ.out _ Ga
 have F1 := Gg (show decide (l = Ki) = false from decide_eq_false c1)
 by_cases c2 : l = Kw
 ·have hA : Jp key s l = (s, (0, Np s.j (G4 (lvN (s.ns.take s.j))) (Jz (s.ns.take s.j)))) := by unfold Jp; rw [if_neg c1, if_pos c2]
  have HQ := Gg (fun (w' : World) (h : St w0 w' (dkR d p key s L)) => show Md key s l d p w0 L (.returned (.tuple #[.string (GZ (Np s.j (G4 (lvN (s.ns.take s.j))) (Jz (s.ns.take s.j)))), .nilIface])) w' by
   unfold Md
   rw [hA]
   exact ⟨rfl, p, rfl, rfl, hm, h⟩)
  have HD := Gg (show decide (l = Kw) = true from decide_eq_true c2)
  have HTx := Gg (fun (w' : World) (z : Dig) (h : Pz w') => headed_any s.j (G4 (lvN (s.ns.take s.j))) (Jz (s.ns.take s.j)) z (by omega) w' h)
  generalize Md key s l d p w0 L = Q at *
  unfold dkR pinS at *
  generalize Np s.j (G4 (lvN (s.ns.take s.j))) (Jz (s.ns.take s.j)) = tx at *
  generalize G4 (lvN (s.ns.take s.j)) = rx at *
  generalize Jz (s.ns.take s.j) = ry at *
  clear hA hAns hT hP hm hok c1 c2
  generalize hgl : p.g = gl at *
  clear hgl
  go_enter Tryz.func74, Tryz.ntmps74
  go_upto_region 1 with (go_big_may; fail)
  go_upto_region 2 with (go_big_may; (go_at_call 106; (try clear Gb); refine (HC.out _).mono ?_; rintro e Wk3 ⟨rfl, Gb⟩; replace Ga := Ga.keep Gb))
  go_upto_region 4 with (first | (with_reducible refine GI (t := 18) rfl (by kernel_rfl) ?_) | (with_reducible refine GI (t := 19) rfl (by kernel_rfl) ?_))
  go_upto_region 6 with (first | (with_reducible refine GI (t := 29) rfl (by kernel_rfl) ?_) | (with_reducible refine GI (t := 30) rfl (by kernel_rfl) ?_))
  go_upto_region 8 with (go_big_may; (refine Ja (d := some 39) (u := Ki) rfl rfl rfl (by kernel_rfl) uz9 (Gw rfl) GT ?_; rewrite [F1.out]))
  go_upto_region 9 with (go_big_may; (refine Ja (d := some 48) (u := Kw) rfl rfl rfl (by kernel_rfl) uz9 (Gw rfl) GT ?_; rewrite [HD.out]))
  go_wp2_with (first | (go_at_call 110; (try clear Gb); refine (held_any _ _ _ _ _ _ _ _ _ _ _ (Ga.get 6 rfl)).mono ?_; rintro e Wh ⟨rfl, Gb⟩; replace Ga := Ga.keep Gb) | (go_at_call 109; (try clear Gb); refine (HTx.out _ _ (HP.out.of Ga)).mono ?_; rintro e Wk4 ⟨rfl, Gb⟩; replace Ga := Ga.keep Gb) | (refine Gj 52 rfl (by rfl) uz122 rfl (Gy (Ga.get 5 rfl) dkArr_1) ?_))
  exact HQ.out _ Ga
 have F2 := Gg (show decide (l = Kw) = false from decide_eq_false c2)
 by_cases c3 : l = KM
 ·have hA : Jp key s l = (⟨s.ns, s.ns.length, Mc key s.ns⟩, (0, tOk)) := by unfold Jp; rw [if_neg c1, if_neg c2, if_pos c3]
  have HQ := Gg (fun (w' : World) (h : St w0 w' (dkR d p key ⟨s.ns, s.ns.length, Mc key s.ns⟩ L)) => show Md key s l d p w0 L (.returned (.tuple #[.string (GZ tOk), .nilIface])) w' by
   unfold Md
   rw [hA]
   exact ⟨rfl, p, rfl, rfl, hm, h⟩)
  have HD := Gg (show decide (l = KM) = true from decide_eq_true c3)
  unfold dkR at *
  have HK := Gg (fun (w' : World) h => dtake_any key s p d.g d.gp d.m d.oc d.O w0 w' L hT h hm hok hpm hdm)
  generalize Md key s l d p w0 L = Q at *
  clear hA hAns hT hP hm hok c1 c2 c3
  go_enter Tryz.func74, Tryz.ntmps74
  go_upto_region 1 with (go_big_may; fail)
  go_upto_region 2 with (go_big_may; (go_at_call 106; (try clear Gb); refine (HC.out _).mono ?_; rintro e Wk5 ⟨rfl, Gb⟩; replace Ga := Ga.keep Gb))
  go_upto_region 4 with (first | (with_reducible refine GI (t := 18) rfl (by kernel_rfl) ?_) | (with_reducible refine GI (t := 19) rfl (by kernel_rfl) ?_))
  go_upto_region 6 with (first | (with_reducible refine GI (t := 29) rfl (by kernel_rfl) ?_) | (with_reducible refine GI (t := 30) rfl (by kernel_rfl) ?_))
  go_upto_region 8 with (go_big_may; (refine Ja (d := some 39) (u := Ki) rfl rfl rfl (by kernel_rfl) uz9 (Gw rfl) GT ?_; rewrite [F1.out]))
  go_upto_region 10 with (go_big_may; (refine Ja (d := some 48) (u := Kw) rfl rfl rfl (by kernel_rfl) uz9 (Gw rfl) GT ?_; rewrite [F2.out]))
  go_upto_region 11 with (go_big_may; (refine Ja (d := some 57) (u := KM) rfl rfl rfl (by kernel_rfl) uz9 (Gw rfl) GT ?_; rewrite [HD.out]))
  go_wp2_with ((go_at_call 111; (try clear Gb); refine (HK.out _ Ga).mono ?_; rintro e Wh ⟨rfl, hst'⟩; clear Ga; have Ga := hst'; clear hst'))
  exact HQ.out _ Ga
 have F3 := Gg (show decide (l = KM) = false from decide_eq_false c3)
 have hA := hAns c1 c2 c3
 have HQ := Gg (fun (w' : World) (h : St w0 w' (dkR d p key s L)) => show Md key s l d p w0 L (.returned (.tuple #[.string (GZ []), JL 1])) w' by
  unfold Md
  rw [hA]
  exact ⟨rfl, p, rfl, rfl, hm, h⟩)
 unfold JL at HQ
 generalize Md key s l d p w0 L = Q at *
 clear hA hAns hT hP hm hok c1 c2 c3
 generalize dkR d p key s L = LL at *
 go_enter Tryz.func74, Tryz.ntmps74
 go_upto_region 1 with (go_big_may; fail)
 go_upto_region 2 with (go_big_may; (go_at_call 106; (try clear Gb); refine (HC.out _).mono ?_; rintro e Wk6 ⟨rfl, Gb⟩; replace Ga := Ga.keep Gb))
 go_upto_region 4 with (first | (with_reducible refine GI (t := 18) rfl (by kernel_rfl) ?_) | (with_reducible refine GI (t := 19) rfl (by kernel_rfl) ?_))
 go_upto_region 6 with (first | (with_reducible refine GI (t := 29) rfl (by kernel_rfl) ?_) | (with_reducible refine GI (t := 30) rfl (by kernel_rfl) ?_))
 go_upto_region 8 with (go_big_may; (refine Ja (d := some 39) (u := Ki) rfl rfl rfl (by kernel_rfl) uz9 (Gw rfl) GT ?_; rewrite [F1.out]))
 go_upto_region 10 with (go_big_may; (refine Ja (d := some 48) (u := Kw) rfl rfl rfl (by kernel_rfl) uz9 (Gw rfl) GT ?_; rewrite [F2.out]))
 go_upto_region 12 with (go_big_may; (refine Ja (d := some 57) (u := KM) rfl rfl rfl (by kernel_rfl) uz9 (Gw rfl) GT ?_; rewrite [F3.out]))
 go_wp2_with (fail)
 exact HQ.out _ Ga
theorem do_words (hT : Tb w0) (hP : Pz w0) (Ga : St w0 w (dkR d p key s L)) (hm : MapsOf s.ns p.nm p.am) (hok : DkOk s) (hpm : p.m ≤ 140737488351232) (hl : l.length ≤ 140737488351232) (hsp : spI l < l.length) :
  Calls Tryz.prog 74 #[.pointer (some ⟨d.g, 0, none⟩), .string (GZ l)] w (Md key s l d p w0 L) := by
 have HT := Gg hT
 have HP := Gg hP
 have hn := hok.1.len
 have hj := hok.2
 have HC := Gg (fun w' => cut_any l w' (by omega))
 rewrite [decide_eq_true hsp] at HC
 have c1 : ¬ l = Ki := fun h => no_sp Ki (by decide) (h ▸ hsp)
 have c2 : ¬ l = Kw := fun h => no_sp Kw (by decide) (h ▸ hsp)
 have c3 : ¬ l = KM := fun h => no_sp KM (by decide) (h ▸ hsp)
 have hdl : (l.drop (spI l + 1)).length ≤ 140737488351232 := by rw [List.length_drop]; omega
 by_cases cF : l.take (spI l) = tFind
 ·have hb := (beg_find l).2 ⟨hsp, cF⟩
  have h4 := beg_find_len l hb
  rewrite [h4] at HC hdl cF
  have hA : Jp key s l = (s, N2 s.ns (l.drop 5)) := by unfold Jp; rw [if_neg c1, if_neg c2, if_neg c3, if_pos hb]
  have HQ := Gg (fun (w' : World) (h : St w0 w' (dkR d p key s L)) => show Md key s l d p w0 L (.returned (.tuple #[.string (GZ (N2 s.ns (l.drop 5)).2), Nl (N2 s.ns (l.drop 5)).1])) w' by
   unfold Md
   rw [hA]
   exact ⟨rfl, p, rfl, rfl, hm, h⟩)
  have HA := Gg (show decide (l.take 4 = tAdd) = false by rw [cF]; decide)
  have HD := Gg (show decide (l.take 4 = tFind) = true from decide_eq_true cF)
  unfold dkR at *
  have HF := Gg (fun (w' : World) h => dfind_any key s.ns (l.drop 5) p d.g d.gp w0 w' (pinS d.gp d.O d.m d.oc s.ns s.j s.z :: .row d.O d.m d.oc 5 1 (GK key) :: L) hT hP h hm hok.1 hpm hdl)
  rewrite [show (4 + 1 : Nat) = 5 from rfl] at HC
  generalize Md key s l d p w0 L = Q at *
  generalize l.take 4 = ta at *
  generalize l.drop 5 = tb at *
  generalize N2 s.ns tb = ft at *
  clear hA hT hP hm hok c1 c2 c3 cF hb h4
  go_enter Tryz.func74, Tryz.ntmps74
  go_upto_region 1 with (go_big_may; fail)
  go_upto_region 2 with (go_big_may; (go_at_call 106; (try clear Gb); refine (HC.out _).mono ?_; rintro e Wk7 ⟨rfl, Gb⟩; replace Ga := Ga.keep Gb))
  go_upto_region 4 with (go_big_may; (refine Ja (d := some 19) (u := tAdd) rfl rfl rfl (by kernel_rfl) uz9 (Gw rfl) GT ?_; rewrite [HA.out]))
  go_upto_region 5 with (go_big_may; (refine Ja (d := some 30) (u := tFind) rfl rfl rfl (by kernel_rfl) uz9 (Gw rfl) GT ?_; rewrite [HD.out]))
  go_wp2_with ((go_at_call 108; (try clear Gb); refine (HF.out _ Ga).mono ?_; rintro e Wh ⟨rfl, hst'⟩; clear Ga; have Ga := hst'; clear hst'))
  exact HQ.out _ Ga
 have hbF : ¬ NU l Mj = true := fun h => cF ((beg_find l).1 h).2
 by_cases cA : l.take (spI l) = tAdd
 ·have hb := (beg_add l).2 ⟨hsp, cA⟩
  have h4 := beg_add_len l hb
  rewrite [h4] at HC hdl cA
  have hA : Jp key s l = PJ s (l.drop 4) := by unfold Jp; rw [if_neg c1, if_neg c2, if_neg c3, if_neg hbF, if_pos hb]
  have HQ := Gg (fun (e : Ending) (w' : World) (h : PW key s (l.drop 4) p d.g d.gp w0 (pinS d.gp d.O d.m d.oc s.ns s.j s.z :: .row d.O d.m d.oc 5 1 (GK key) :: L) e w') => show Md key s l d p w0 L e w' by
   obtain ⟨rfl, p', h1, h2, h3, h5⟩ := h
   unfold Md
   rw [hA]
   refine ⟨rfl, p', h1, h2, h3, ?_⟩
   unfold dkR
   rw [addT_pin s _ hj, h1]
   exact h5)
  have HD := Gg (show decide (l.take 3 = tAdd) = true from decide_eq_true cA)
  unfold dkR at *
  have HF := Gg (fun (w' : World) h => dadd_any key s (l.drop 4) p d.g d.gp w0 w' (pinS d.gp d.O d.m d.oc s.ns s.j s.z :: .row d.O d.m d.oc 5 1 (GK key) :: L) hT hP h hm hok.1 hdl)
  rewrite [show (3 + 1 : Nat) = 4 from rfl] at HC
  unfold PW at HF HQ
  generalize Md key s l d p w0 L = Q at *
  generalize l.take 3 = ta at *
  generalize l.drop 4 = tb at *
  clear hA hT hP hm hok c1 c2 c3 cA cF hb h4 hbF
  go_enter Tryz.func74, Tryz.ntmps74
  go_upto_region 1 with (go_big_may; fail)
  go_upto_region 2 with (go_big_may; (go_at_call 106; (try clear Gb); refine (HC.out _).mono ?_; rintro e Wk8 ⟨rfl, Gb⟩; replace Ga := Ga.keep Gb))
  go_upto_region 3 with (go_big_may; (refine Ja (d := some 19) (u := tAdd) rfl rfl rfl (by kernel_rfl) uz9 (Gw rfl) GT ?_; rewrite [HD.out]))
  go_wp2_with ((go_at_call 107; (try clear Gb); refine (HF.out _ Ga).mono ?_; rintro e Wh ⟨rfl, q1, u1, u2, u3, hst'⟩; clear Ga; have Ga := hst'; clear hst'))
  exact HQ.out _ _ ⟨rfl, q1, u1, u2, u3, Ga⟩
 have hbA : ¬ NU l Nk = true := fun h => cA ((beg_add l).1 h).2
 have hA : Jp key s l = (s, (1, [])) := by unfold Jp; rw [if_neg c1, if_neg c2, if_neg c3, if_neg hbF, if_neg hbA]
 have HQ := Gg (fun (w' : World) (h : St w0 w' (dkR d p key s L)) => show Md key s l d p w0 L (.returned (.tuple #[.string (GZ []), JL 1])) w' by
  unfold Md
  rw [hA]
  exact ⟨rfl, p, rfl, rfl, hm, h⟩)
 unfold JL at HQ
 have F1 := Gg (show decide (l = Ki) = false from decide_eq_false c1)
 have F2 := Gg (show decide (l = Kw) = false from decide_eq_false c2)
 have F3 := Gg (show decide (l = KM) = false from decide_eq_false c3)
 have F4 := Gg (show decide (l.take (spI l) = tAdd) = false from decide_eq_false cA)
 have F5 := Gg (show decide (l.take (spI l) = tFind) = false from decide_eq_false cF)
 generalize Md key s l d p w0 L = Q at *
 generalize l.take (spI l) = ta at *
 generalize l.drop (spI l + 1) = tb at *
 clear hA hT hP hm hok c1 c2 c3 cA cF hbA hbF
 generalize dkR d p key s L = LL at *
 go_enter Tryz.func74, Tryz.ntmps74
 go_upto_region 1 with (go_big_may; fail)
 go_upto_region 2 with (go_big_may; (go_at_call 106; (try clear Gb); refine (HC.out _).mono ?_; rintro e Wk9 ⟨rfl, Gb⟩; replace Ga := Ga.keep Gb))
 go_upto_region 4 with (go_big_may; (refine Ja (d := some 19) (u := tAdd) rfl rfl rfl (by kernel_rfl) uz9 (Gw rfl) GT ?_; rewrite [F4.out]))
 go_upto_region 6 with (go_big_may; (refine Ja (d := some 30) (u := tFind) rfl rfl rfl (by kernel_rfl) uz9 (Gw rfl) GT ?_; rewrite [F5.out]))
 go_upto_region 8 with (go_big_may; (refine Ja (d := some 39) (u := Ki) rfl rfl rfl (by kernel_rfl) uz9 (Gw rfl) GT ?_; rewrite [F1.out]))
 go_upto_region 10 with (go_big_may; (refine Ja (d := some 48) (u := Kw) rfl rfl rfl (by kernel_rfl) uz9 (Gw rfl) GT ?_; rewrite [F2.out]))
 go_upto_region 12 with (go_big_may; (refine Ja (d := some 57) (u := KM) rfl rfl rfl (by kernel_rfl) uz9 (Gw rfl) GT ?_; rewrite [F3.out]))
 go_wp2_with (fail)
 exact HQ.out _ Ga
theorem do_any (hT : Tb w0) (hP : Pz w0) (Ga : St w0 w (dkR d p key s L)) (hm : MapsOf s.ns p.nm p.am) (hok : DkOk s) (hpm : p.m ≤ 140737488351232) (hdm : d.m ≤ 140737488351232) (hl : l.length ≤ 140737488351232) :
  Calls Tryz.prog 74 #[.pointer (some ⟨d.g, 0, none⟩), .string (GZ l)] w (Md key s l d p w0 L) := by
 by_cases hsp : spI l < l.length
 ·exact do_words key s l d p w0 w L hT hP Ga hm hok hpm hl hsp
 ·exact do_word key s l d p w0 w L hT hP Ga hm hok hpm hdm hl hsp
end
end
section
open Go.RowKit Go.Extern.Stop Go.Stop Go.Extern
abbrev hdl (t : Nat) : Value := .pointer (some ⟨6, t, none⟩)
def Eb (W : World) : Prop := W.cell? ⟨0, 0, none⟩ = some (.iface 209 (.agg #[.pointer (some ⟨6, 36, none⟩)]))
theorem Eb.lt {W : World} (h : Eb W) : 0 < W.heap.size := by
 rcases Nat.lt_or_ge 0 W.heap.size with h0 | h0
 ·exact h0
 ·simp [Eb, World.cell?, Array.getElem?_eq_none h0] at h
theorem Eb.of {w W : World} {L : List Res} (h : Eb w) (Ga : St w W L) : Eb W := by
 unfold Eb
 rw [World.cell?_of_block (w := w) (w' := W) (a := ⟨0, 0, none⟩) (Ga.below.block _ h.lt)]
 exact h
theorem valueOfP (t : Addr) (w : World) : (ReflectliteValue.unpack (.iface 137 (.pointer (some t)))).run Tryz.prog w
  = .ok (.agg #[.pointer (some ⟨6, 137, none⟩), .pointer (some ⟨w.heap.size, 0, none⟩), .int .u64 150]) (w.alloc (.cells #[.pointer (some t)] 137)) := by kernel_rfl
theorem typeP (a : Addr) (w : World) : (ReflectliteValue.methodAny (ReflectliteValue.valueError "reflectlite.Value.Type" 0) (fun t _ _ _ => ReflectliteType.toType t) #[.agg #[.pointer (some ⟨6, 137, none⟩), .pointer (some a), .int .u64 150]]).run Tryz.prog w
  = .ok (.iface 209 (.agg #[.pointer (some ⟨6, 137, none⟩)])) w := by kernel_rfl
theorem methodKind (h : Value) (w : World) : (Go.method 397 209 (.agg #[h]) "Kind").run Tryz.prog w = .ok (204, h) w := by kernel_rfl
theorem kindP (w : World) : ((ReflectliteType.abiMethod fun t => (fun a : Nat => Value.int IntKind.u8 (a : Int)) <$> Rtype.kind t) #[.pointer (some ⟨6, 137, none⟩)]).run Tryz.prog w = .ok (.int .u8 22) w := by kernel_rfl
theorem kindE (w : World) : ((ReflectliteType.abiMethod fun t => (fun a : Nat => Value.int IntKind.u8 (a : Int)) <$> Rtype.kind t) #[.pointer (some ⟨6, 28, none⟩)]).run Tryz.prog w = .ok (.int .u8 2) w := by kernel_rfl
theorem rlm (z : Sem Value) (f : TypeId → Addr → Nat → Nat → Sem Value) (v : Value) :
  ReflectliteValue.method z f #[v] = (do match ← ReflectliteValue.parts v with | none => z | some (t, a, fl) => f t a fl (fl % 32)) := rfl
theorem partsP (a : Addr) (w : World) : (ReflectliteValue.parts (.agg #[.pointer (some ⟨6, 137, none⟩), .pointer (some a), .int .u64 150])).run Tryz.prog w = .ok (some (137, a, 150)) w := by kernel_rfl
theorem isNilP (a p : Addr) (W : World) (ha : W.cell? a = some (.pointer (some p))) :
  (ReflectliteValue.method (ReflectliteValue.valueError "reflectlite.Value.IsNil" 0) ReflectliteValue.isNil #[.agg #[.pointer (some ⟨6, 137, none⟩), .pointer (some a), .int .u64 150]]).run Tryz.prog W = .ok (.bool false) W := by
 rw [rlm]
 simp only [Sem.run_bind, partsP, Result.andThen]
 simp [ReflectliteValue.isNil, loadVar, isAgg, underlying, Tryz.underlying137, ha, Result.andThen]
theorem methodElem (h : Value) (w : World) : (Go.method 397 209 (.agg #[h]) "Elem").run Tryz.prog w = .ok (213, .agg #[h]) w := by kernel_rfl
theorem methodImplements (h : Value) (w : World) : (Go.method 397 209 (.agg #[h]) "Implements").run Tryz.prog w = .ok (214, .agg #[h]) w := by kernel_rfl
theorem methodAssignableTo (h : Value) (w : World) : (Go.method 397 209 (.agg #[h]) "AssignableTo").run Tryz.prog w = .ok (211, .agg #[h]) w := by kernel_rfl
theorem elemP (w : World) : (ReflectliteType.method ReflectliteType.elem #[.agg #[.pointer (some ⟨6, 137, none⟩)]]).run Tryz.prog w = .ok (.iface 209 (.agg #[.pointer (some ⟨6, 28, none⟩)])) w := by kernel_rfl
theorem implementsE (w : World) : (ReflectliteType.relation "Implements" ReflectliteType.implements_ #[.agg #[.pointer (some ⟨6, 28, none⟩)], .iface 209 (.agg #[.pointer (some ⟨6, 36, none⟩)])]).run Tryz.prog w = .ok (.bool true) w := by kernel_rfl
theorem typeOfE (v : Value) (w : World) : (ReflectliteType.typeOf #[.iface 28 v]).run Tryz.prog w = .ok (.iface 209 (.agg #[.pointer (some ⟨6, 28, none⟩)])) w := by kernel_rfl
theorem assignableE (w : World) : (ReflectliteType.relation "AssignableTo" ReflectliteType.assignableTo #[.agg #[.pointer (some ⟨6, 28, none⟩)], .iface 209 (.agg #[.pointer (some ⟨6, 28, none⟩)])]).run Tryz.prog w = .ok (.bool true) w := by kernel_rfl
theorem valueOfE (k : Int) (w : World) : (ReflectliteValue.unpack (.iface 28 (.int .i64 k))).run Tryz.prog w
  = .ok (.agg #[.pointer (some ⟨6, 28, none⟩), .pointer (some ⟨w.heap.size, 0, none⟩), .int .u64 130]) (w.alloc (.cells #[.int .i64 k] 28)) := by kernel_rfl
theorem elemOfP (w : World) : (Rtype.elem? 137).run Tryz.prog w = .ok (some 28) w := by kernel_rfl
theorem mkE (p : Addr) (w : World) : (ReflectliteValue.mk 28 p ReflectliteValue.flagAddr).run Tryz.prog w = .ok (.agg #[.pointer (some ⟨6, 28, none⟩), .pointer (some p), .int .u64 386]) w := by kernel_rfl
theorem elemVP (a p : Addr) (W : World) (ha : W.cell? a = some (.pointer (some p))) :
  (ReflectliteValue.method (ReflectliteValue.valueError "reflectlite.Value.Elem" 0) ReflectliteValue.elem #[.agg #[.pointer (some ⟨6, 137, none⟩), .pointer (some a), .int .u64 150]]).run Tryz.prog W
   = .ok (.agg #[.pointer (some ⟨6, 28, none⟩), .pointer (some p), .int .u64 386]) W := by
 rw [rlm]
 simp only [Sem.run_bind, partsP, Result.andThen]
 simp [ReflectliteValue.elem, loadVar, isAgg, underlying, Tryz.underlying137, ha, Result.andThen, elemOfP, mkE]
theorem rls (v x : Value) : ReflectliteValue.set #[v, x] = (do
  let (some (dst, a, fl), some (src, b, _)) := (← ReflectliteValue.parts v, ← ReflectliteValue.parts x)
   | unsupported (.noEntry "extern/(internal/reflectlite.Value).Set.zeroValue")
  if fl / ReflectliteValue.flagAddr % 2 == 0 then unsupported (.noEntry "extern/(internal/reflectlite.Value).Set.unaddressable")
  let val ← loadVar src b
  if ← Rtype.directlyAssignable dst src then storeVar dst a val
  else if ← Rtype.implements dst src then
   if (← Rtype.kind src) == 20 then
    match val with
    | .nilIface => unsupported (.noEntry "extern/reflectlite: a nil value of one interface type handed on as a value of another")
    | _ => storeVar dst a val
   else storeVar dst a (.iface src val)
  else panicString ("reflectlite.Set: value of type " ++ (← Rtype.spelt src) ++ " is not assignable to type " ++ (← Rtype.spelt dst))
  pure (.tuple #[])) := rfl
theorem partsEa (a : Addr) (w : World) : (ReflectliteValue.parts (.agg #[.pointer (some ⟨6, 28, none⟩), .pointer (some a), .int .u64 386])).run Tryz.prog w = .ok (some (28, a, 386)) w := by kernel_rfl
theorem partsE (a : Addr) (w : World) : (ReflectliteValue.parts (.agg #[.pointer (some ⟨6, 28, none⟩), .pointer (some a), .int .u64 130])).run Tryz.prog w = .ok (some (28, a, 130)) w := by kernel_rfl
theorem directE (w : World) : (Rtype.directlyAssignable 28 28).run Tryz.prog w = .ok true w := by kernel_rfl
theorem setE (ta b : Addr) (k : Int) (old : Value) (W : World) (hb : W.cell? b = some (.int .i64 k)) (ht : W.cell? ta = some old) (hf : W.frozen? ta = false) :
  (ReflectliteValue.set #[.agg #[.pointer (some ⟨6, 28, none⟩), .pointer (some ta), .int .u64 386], .agg #[.pointer (some ⟨6, 28, none⟩), .pointer (some b), .int .u64 130]]).run Tryz.prog W
   = .ok (.tuple #[]) (W.setCell ta (.int .i64 k)) := by
 rw [rls]
 simp only [Sem.run_bind, partsEa, partsE, Result.andThen]
 simp [ReflectliteValue.flagAddr, loadVar, isAgg, underlying, Tryz.underlying28, hb, Result.andThen, directE, storeVar, Value.cells, storeCells, Addr.add]
 rw [run_store Tryz.prog W ta _ _ (by rfl)]
 simp [ht, hf]
theorem as_hit (k : Int) (t : Addr) (old : Value) (w : World) (hg : w.cell? ⟨0, 0, none⟩ = some (.iface 209 (.agg #[.pointer (some ⟨6, 36, none⟩)]))) (ht0 : w.cell? t = some old) (hf0 : w.frozen? t = false) :
  Calls Tryz.prog 75 #[.iface 28 (.int .i64 k), .iface 137 (.pointer (some t))] w fun ev w' => ev = .returned (.bool true) ∧ w' = ((((w.alloc (.cells #[.pointer (some t)] 137)).alloc (.cells #[.pointer (some ⟨6, 137, none⟩), .pointer (some ⟨w.heap.size, 0, none⟩), .int .u64 150] 174)).alloc (.cells #[.pointer (some ⟨6, 137, none⟩), .pointer (some ⟨w.heap.size, 0, none⟩), .int .u64 150] 174)).alloc (.cells #[.int .i64 k] 28)).setCell t (.int .i64 k) := by
 have h6 := @run_callFunc_extern Tryz.prog 112 _ (fun args => ReflectliteValue.unpack (args.getD 0 (.tuple #[]))) Tryz.func112 (by kernel_rfl) (by kernel_rfl) (by kernel_rfl) (by kernel_rfl)
 have h7 := @run_callFunc_extern Tryz.prog 113 _ (ReflectliteValue.methodAny (ReflectliteValue.valueError "reflectlite.Value.Type" 0) (fun t _ _ _ => ReflectliteType.toType t)) Tryz.func113 (by kernel_rfl) (by kernel_rfl) (by kernel_rfl) (by kernel_rfl)
 have h8 := @run_callFunc_extern Tryz.prog 114 _ (ReflectliteValue.method (ReflectliteValue.valueError "reflectlite.Value.IsNil" 0) ReflectliteValue.isNil) Tryz.func114 (by kernel_rfl) (by kernel_rfl) (by kernel_rfl) (by kernel_rfl)
 have h27 := @run_callFunc_extern Tryz.prog 204 _ (ReflectliteType.abiMethod fun t => do pure (.int .u8 (← Rtype.kind t))) Tryz.func204 (by kernel_rfl) (by kernel_rfl) (by kernel_rfl) (by kernel_rfl)
 have h37 := @run_callFunc_extern Tryz.prog 213 _ (ReflectliteType.method ReflectliteType.elem) Tryz.func213 (by kernel_rfl) (by kernel_rfl) (by kernel_rfl) (by kernel_rfl)
 have h38 := @run_callFunc_extern Tryz.prog 214 _ (ReflectliteType.relation "Implements" ReflectliteType.implements_) Tryz.func214 (by kernel_rfl) (by kernel_rfl) (by kernel_rfl) (by kernel_rfl)
 have h10 := @run_callFunc_extern Tryz.prog 136 _ ReflectliteType.typeOf Tryz.func136 (by kernel_rfl) (by kernel_rfl) (by kernel_rfl) (by kernel_rfl)
 have h35 := @run_callFunc_extern Tryz.prog 211 _ (ReflectliteType.relation "AssignableTo" ReflectliteType.assignableTo) Tryz.func211 (by kernel_rfl) (by kernel_rfl) (by kernel_rfl) (by kernel_rfl)
 have h11 := @run_callFunc_extern Tryz.prog 137 _ (ReflectliteValue.method (ReflectliteValue.valueError "reflectlite.Value.Elem" 0) ReflectliteValue.elem) Tryz.func137 (by kernel_rfl) (by kernel_rfl) (by kernel_rfl) (by kernel_rfl)
 have h12 := @run_callFunc_extern Tryz.prog 138 _ ReflectliteValue.set Tryz.func138 (by kernel_rfl) (by kernel_rfl) (by kernel_rfl) (by kernel_rfl)
 have tO := typeOfE
 have mA := methodAssignableTo
 have a25 := assignableE
 have v25 := valueOfE
 have f6 := valueOfP
 have f7 := typeP
 have mK := methodKind
 have mE := methodElem
 have mI := methodImplements
 have k27 := kindP
 have k25 := kindE
 have e27 := elemP
 have i25 := implementsE
 have n8 := isNilP ⟨w.heap.size, 0, none⟩ t ((w.alloc (.cells #[.pointer (some t)] 137)).alloc (.cells #[.pointer (some ⟨6, 137, none⟩), .pointer (some ⟨w.heap.size, 0, none⟩), .int .u64 150] 174)) (by simp)
 have hlt : 0 < w.heap.size := Eb.lt hg
 have hg2 : ((w.alloc (.cells #[.pointer (some t)] 137)).alloc (.cells #[.pointer (some ⟨6, 137, none⟩), .pointer (some ⟨w.heap.size, 0, none⟩), .int .u64 150] 174)).cell? ⟨0, 0, none⟩ = some (.iface 209 (.agg #[.pointer (some ⟨6, 36, none⟩)])) := by
  rw [World.cell?_alloc_lt _ _ ⟨0, 0, none⟩ (by (simp; done)), World.cell?_alloc_lt _ _ ⟨0, 0, none⟩ hlt]; exact hg
 have htl : t.block < w.heap.size := by
  rcases Nat.lt_or_ge t.block w.heap.size with h | h
  ·exact h
  ·simp [World.cell?, Array.getElem?_eq_none h] at ht0
 have el := elemVP ⟨w.heap.size, 0, none⟩ t (((w.alloc (.cells #[.pointer (some t)] 137)).alloc (.cells #[.pointer (some ⟨6, 137, none⟩), .pointer (some ⟨w.heap.size, 0, none⟩), .int .u64 150] 174)).alloc (.cells #[.pointer (some ⟨6, 137, none⟩), .pointer (some ⟨w.heap.size, 0, none⟩), .int .u64 150] 174)) (by rw [World.cell?_alloc_lt _ _ ⟨w.heap.size, 0, none⟩ (by (simp; omega))]; simp)
 have st := setE t ⟨w.heap.size + 1 + 1 + 1, 0, none⟩ k old ((((w.alloc (.cells #[.pointer (some t)] 137)).alloc (.cells #[.pointer (some ⟨6, 137, none⟩), .pointer (some ⟨w.heap.size, 0, none⟩), .int .u64 150] 174)).alloc (.cells #[.pointer (some ⟨6, 137, none⟩), .pointer (some ⟨w.heap.size, 0, none⟩), .int .u64 150] 174)).alloc (.cells #[.int .i64 k] 28))
  (by rw [World.cell?_alloc_at _ _ _ _ (by simp)]; rfl)
  (by rw [World.cell?_alloc_lt _ _ t (by (simp; omega)), World.cell?_alloc_lt _ _ t (by (simp; omega)), World.cell?_alloc_lt _ _ t (by (simp; omega)), World.cell?_alloc_lt _ _ t htl]; exact ht0)
  (by rw [World.frozen?_alloc_old _ _ t (by (simp; omega)), World.frozen?_alloc_old _ _ t (by (simp; omega)), World.frozen?_alloc_old _ _ t (by (simp; omega)), World.frozen?_alloc_old _ _ t (Nat.ne_of_lt htl)]; exact hf0)
 go_enter Tryz.func75, Tryz.ntmps75
 go_wp2
 refine wp_loop_rounds 1 ?_
 rw [rounds_succ]
 go_wp2
 go_ret
 exact ⟨rfl, rfl⟩
end
section
open Go.RowKit
theorem el_api_Errno : GW Tryz.prog 28 (.int .i64 0) 1 8 := by unfold GW; kernel_rfl
theorem as_any (k : Int) (g : Nat) (old : Value) (w0 w : World) (L : List Res) (hE : Eb w0) (Ga : St w0 w (.blk g 28 #[old] :: L)) :
  Calls Tryz.prog 75 #[.iface 28 (.int .i64 k), .iface 137 (.pointer (some ⟨g, 0, none⟩))] w fun e w' => e = .returned (.bool true) ∧ St w0 w' (.blk g 28 #[.int .i64 k] :: L) := by
 have hc := Ga.get 0 rfl
 refine (as_hit k ⟨g, 0, none⟩ old w (hE.of Ga) (Gy hc rfl) (by simp [World.frozen?, hc])).mono ?_
 rintro e w' ⟨rfl, rfl⟩
 refine ⟨rfl, ?_⟩
 exact (((((Ga.alloc _ _).alloc _ _).alloc _ _).alloc _ _).setCell 4 rfl 0 (.int .i64 k)).tailN 4
end
section
open Go.RowKit
attribute [local simp] GR GN
theorem el_desk_Desk : GW Tryz.prog 125 (.agg #[.pointer none, .pointer none]) 2 16 := by unfold GW; kernel_rfl
section
variable {ops : Array Oper} {rest : List Oper} {o : Oper} {a : Act} {W : World} {Q : Exit → Act → World → Prop} {d : Option Tmp}
theorem L_buildDk (hd : o.dst = d) (hw : Region.wanted o (yielded ops a.tmps) = true) {x y : Operand} (ho : o.op = .build 125 #[(0, x), (1, y)]) {gl gp : Nat} (hx : a.eval x = .pointer (some ⟨gl, 0, none⟩)) (hy : a.eval y = .pointer (some ⟨gp, 0, none⟩))
  (h : wpList Tryz.prog ops Q rest (a.put d (.agg (Nr gl gp))) W) : wpList Tryz.prog ops Q (o :: rest) a W :=
 Mb hd hw ho uz125 el_desk_Desk [(0, 1), (1, 1)] (by kernel_rfl) (ps := [(0, .pointer (some ⟨gl, 0, none⟩)), (1, .pointer (some ⟨gp, 0, none⟩))]) (by simp [hx, hy]) (qs := [(0, [.pointer (some ⟨gl, 0, none⟩)]), (1, [.pointer (some ⟨gp, 0, none⟩)])])
  ⟨rfl, rfl, by simp, rfl, rfl, by simp, trivial⟩ rfl h
end
theorem dnew_any (key : List UInt8) (K : Option Addr) (m mc : Nat) (w : World) (hT : Tb w) (hk : SlR w K m mc 1 (GK key)) (hm : m ≤ 140737488351232) :
  Calls Tryz.prog 26 #[.slice K m mc] w fun e w' => ∃ (d : DkP) (p : LgP), e = .returned (.pointer (some ⟨d.g, 0, none⟩)) ∧ d.m = m ∧ p.m = m ∧ MapsOf [] p.nm p.am ∧ St w w' (dkR d p key ⟨[], 0, GM⟩ []) := by
 have Ga := St.refl w
 have HT := Gg hT
 have HK := Gg hk
 have HL := Gg (fun w' (h : SlR w' K m mc 1 (GK key)) => lnew_any key K m mc w' h (by omega))
 have HP := Gg (fun w' (ht : Tb w') (h : SlR w' K m mc 1 (GK key)) => pnew_any key K m mc w' ht h (by omega))
 clear hT hk
 have HR := Gg (show G4 (lvN (([] : List NoteN).take 0)) = sha [] ∧ Jz (([] : List NoteN).take 0) = GM by rw [List.take_nil, show lvN [] = [] from rfl, rootN_nil, mapN_nil]; exact ⟨rfl, rfl⟩)
 obtain ⟨N0, hN0⟩ : ∃ N0 : List NoteN, N0 = [] := ⟨_, rfl⟩
 rewrite [← hN0] at HL ⊢
 have HN := Gg hN0
 clear hN0
 generalize hsh : sha [] = s0 at *
 have HSh := Gg hsh
 clear hsh
 go_enter Tryz.func26, Tryz.ntmps26
 go_upto_region 1 with (go_big_may; fail)
 go_wp2_with (first | (go_at_call 8; (try clear Gb); refine (HL.out _ (Ga.old (by decide) HK.out)).mono ?_; rintro e Wl ⟨p, rfl, hpm, hmp, Gb⟩; replace Ga := Ga.trans Gb; clear Gb) | (go_at_call 65; (try clear Gb); refine (HP.out _ (HT.out.of Ga) (Ga.old (by decide) HK.out)).mono ?_; rintro e Wp ⟨gp, O, oc, rfl, Gb⟩; replace Ga := Ga.trans Gb; simp only [Gc, Gd] at Ga) | (refine L_buildDk (d := some 7) rfl rfl rfl (Gw rfl) (Gw rfl) ?_) | (refine Gm 8 rfl (Gw rfl) ?_; (try clear Gb); intro g8 W8 Gb; replace Ga := Ga.tr1 Gb))
 go_ret
 obtain rfl := HN.out
 refine ⟨⟨g8, gp, m, oc, O⟩, p, rfl, rfl, hpm, hmp, ?_⟩
 unfold dkR pinS
 rw [HR.out.1, HR.out.2, ← HSh.out] at *
 simp only [lgL, Gc, Gd, List.append_nil] at Ga ⊢
 exact Ga.pick [3, 4, 5, 6, 7, 0, 1, 2] (by decide)
theorem as_nil (x : Value) (w : World) : Calls Tryz.prog 75 #[.nilIface, x] w fun e w' => e = .returned (.bool false) ∧ St w w' [] := by
 have Ga := St.refl w
 go_enter Tryz.func75, Tryz.ntmps75
 go_upto_region 1 with (go_big_may; fail)
 go_upto_region 2 with (go_big_may; fail)
 go_wp2_with (fail)
 go_ret
 exact ⟨rfl, Ga⟩
theorem ans3_le (key : List UInt8) (s : DkS) (l : List UInt8) : (Jp key s l).2.1 ≤ 9 := by
 unfold Jp
 split
 ·simp
 split
 ·simp
 split
 ·simp
 split
 ·unfold N2
  split
  ·simp
  ·exact lookN_le _ _ _ _ _
 split
 ·unfold PJ
  split
  ·split
   ·simp
   ·exact addE_le _ _
  ·simp
 ·simp
def DoEnd (key : List UInt8) (s : DkS) (l : List UInt8) (d : DkP) (p : LgP) (w0 : World) (L : List Res) : Ending → World → Prop := fun e w' =>
 e = .returned (.string (GZ (N3 (Jp key s l).2))) ∧ ∃ p' : LgP, p'.g = p.g ∧ p'.m = p.m ∧ MapsOf (Jp key s l).1.ns p'.nm p'.am ∧ St w0 w' (dkR d p' key (Jp key s l).1 L)
theorem Do_any (key : List UInt8) (s : DkS) (l : List UInt8) (d : DkP) (p : LgP) (w0 w : World) (L : List Res) (hT : Tb w0) (hP : Pz w0) (hE : Eb w0) (Ga : St w0 w (dkR d p key s L)) (hm : MapsOf s.ns p.nm p.am) (hok : DkOk s) (hpm : p.m ≤ 140737488351232) (hdm : d.m ≤ 140737488351232) (hl : l.length ≤ 140737488351232) :
  Calls Tryz.prog 29 #[.pointer (some ⟨d.g, 0, none⟩), .string (GZ l)] w (DoEnd key s l d p w0 L) := by
 have HE := Gg hE
 have HD := Gg (fun (w' : World) h => do_any key s l d p w0 w' L hT hP h hm hok hpm hdm hl)
 have hr9 := ans3_le key s l
 unfold Md at HD
 unfold DoEnd
 generalize Jp key s l = r at *
 obtain ⟨s', r1, tx⟩ := r
 simp only at *
 clear hT hP hE hm hok hpm hdm hl
 by_cases h0 : r1 = 0
 ·subst h0
  rewrite [show N3 (0, tx) = tx from rfl]
  rewrite [show Nl 0 = .nilIface from rfl] at HD
  go_enter Tryz.func29, Tryz.ntmps29
  go_upto_region 1 with (go_big_may; fail)
  go_upto_region 2 with (go_big_may; (go_at_call 74; refine (HD.out _ Ga).mono ?_; rintro e Wd ⟨rfl, q1, u1, u2, u3, hst'⟩; clear Ga; have Ga := hst'; clear hst'))
  go_upto_region 3 with (go_big_may; (refine P1 (d := some 7) rfl rfl rfl el_api_Errno rfl ?_; (try clear Gb); intro g7 W7 Gb; replace Ga := Ga.tr1 Gb))
  go_upto_region 5 with (go_big_may; (go_at_call 75; (try clear Gb); refine (as_nil _ _).mono ?_; rintro e Wa ⟨rfl, Gb⟩; replace Ga := Ga.keep Gb))
  go_wp2_with (fail)
  go_ret
  exact ⟨rfl, q1, u1, u2, u3, Ga.tail⟩
 ·rewrite [show N3 (r1, tx) = Pa r1 from if_neg h0]
  rewrite [show Nl r1 = JL r1 from if_neg h0] at HD
  have HTx := Gg (fun w' => errTx_any r1 hr9 w')
  unfold JL at HD
  clear h0 hr9
  go_enter Tryz.func29, Tryz.ntmps29
  go_upto_region 1 with (go_big_may; fail)
  go_upto_region 2 with (go_big_may; (go_at_call 74; refine (HD.out _ Ga).mono ?_; rintro e Wd ⟨rfl, q1, u1, u2, u3, hst'⟩; clear Ga; have Ga := hst'; clear hst'))
  go_upto_region 3 with (go_big_may; (refine P1 (d := some 7) rfl rfl rfl el_api_Errno rfl ?_; (try clear Gb); intro g7 W7 Gb; replace Ga := Ga.tr1 Gb))
  go_upto_region 4 with (go_big_may; (go_at_call 75; (try clear Gb); refine (as_any (r1 : Int) g7 (.int .i64 0) w0 _ _ HE.out Ga).mono ?_; rintro e Wa ⟨rfl, hst'⟩; clear Ga; have Ga := hst'; clear hst'))
  go_wp2_with (first | (go_at_call 69; (try clear Gb); refine (HTx.out _).mono ?_; rintro e Wk1 ⟨rfl, Gb⟩; replace Ga := Ga.keep Gb) | (refine Gj 17 rfl (by rfl) uz28 rfl (Gy (Ga.get 0 rfl) rfl) ?_))
  go_ret
  exact ⟨rfl, q1, u1, u2, u3, Ga.tail⟩
end
section
open Go.RowKit
attribute [local simp] GR GN
def strsL (ls : List (List UInt8)) : List Value := ls.map fun l => .string (GZ l)
theorem length_strsL (ls : List (List UInt8)) : (strsL ls).length = ls.length := by simp [strsL]
theorem strs_at {W : World} {g off i : Nat} {ls : List (List UInt8)} (h : W.rangeAt g (off + (i : Int).toNat * 1) (((strsL ls).drop ((i : Int).toNat * 1)).take 1)) (hi : i < ls.length) : W.cell? ⟨g, off + (i : Int).toNat * 1, none⟩ = some (.string (GZ ls[i])) := by
 have := h 0 (.string (GZ ls[i])) (by simp [strsL, hi])
 simpa using this
theorem ans_head (key : List UInt8) (s : DkS) : Jp key s Ki = (s, (0, Np s.ns.length (G4 (lvN s.ns)) (Jz s.ns))) := if_pos rfl
theorem ans_held (key : List UInt8) (s : DkS) : Jp key s Kw = (s, (0, Np s.j (G4 (lvN (s.ns.take s.j))) (Jz (s.ns.take s.j)))) := by
 unfold Jp
 rw [if_neg (by decide), if_pos rfl]
theorem ans_take (key : List UInt8) (s : DkS) : Jp key s KM = (⟨s.ns, s.ns.length, Mc key s.ns⟩, (0, tOk)) := by
 unfold Jp
 rw [if_neg (by decide), if_neg (by decide), if_pos rfl]
def DkInv (key : List UInt8) (m : Nat) (s : DkS) (d : DkP) (p : LgP) : Prop := DkOk s ∧ MapsOf s.ns p.nm p.am ∧ p.m = m ∧ d.m = m
theorem DkInv.next {key : List UInt8} {m : Nat} {s : DkS} {d : DkP} {p p' : LgP} (h : DkInv key m s d p) {l : List UInt8} (h2 : p'.m = p.m) (h3 : MapsOf (Jp key s l).1.ns p'.nm p'.am) : DkInv key m (Jp key s l).1 d p' :=
 ⟨h.1.ans key l, h3, h2.trans h.2.2.1, h.2.2.2⟩
end
section
open Go.RowKit
attribute [local simp] GR GN
def tNothing : List UInt8 := [110, 111, 116, 104, 105, 110, 103]
theorem ans_nothing (key : List UInt8) (s : DkS) : Jp key s tNothing = (s, (1, [])) := by
 unfold Jp
 rw [if_neg (by decide), if_neg (by decide), if_neg (by decide), if_neg (by decide), if_neg (by decide)]
def dkB (d : DkP) (p : LgP) (key : List UInt8) (s : DkS) : List Res :=
 lgL p key s.ns ++ [.blk d.g 125 (Nr p.g d.gp), pinS d.gp d.O d.m d.oc s.ns s.j s.z, .row d.O d.m d.oc 5 1 (GK key)]
theorem dkR_B (d : DkP) (p : LgP) (key : List UInt8) (s : DkS) (L : List Res) : dkR d p key s L = dkB d p key s ++ L := by
 unfold dkR dkB
 rw [List.append_assoc]
 rfl
end
section
open Go.RowKit
theorem rplong_any : ∀ (n m : Nat) (own : Bool) (w : World), 1 ≤ m → m ≤ n → n ≤ 256 →
  Calls Tryz.prog 129 #[.int .i64 (m : Int), .int .i64 (n : Int), .bool own] w fun e w' => e = .returned (.int .i64 (plN n m own : Int)) ∧ St w w' [] := by
 intro n
 induction n using Nat.strongRecOn with
 | ind n ih =>
 intro m own w hm1 hmn hn
 have Ga := St.refl w
 by_cases h : m = n
 ·subst h
  clear ih
  rw [PP]
  cases own with
  | true =>
   go_enter Tryz.func129, Tryz.ntmps129
   go_wp2_with (fail)
   go_ret
   exact ⟨rfl, Ga⟩
  | false =>
   go_enter Tryz.func129, Tryz.ntmps129
   go_wp2_with (fail)
   go_ret
   exact ⟨rfl, Ga⟩
 ·have hlt := Ju n (by omega)
  have hps := Jl n
  have h' : ((m : Int) == (n : Int)) = false := by rw [beq_eq_false_iff_ne]; omega
  have HF := Gg (fun w => NN n (by omega) (by omega) w)
  by_cases hk : m ≤ GH n
  ·have hle := plN_le (GH n) m own
   rw [NV h (by omega) hk]
   have HI := Gg (fun w => ih (GH n) hlt m own w hm1 hk (by omega))
   have hk' : (m : Int) ≤ (GH n : Int) := by omega
   clear ih h
   generalize plN (GH n) m own = r at *
   generalize GH n = k at *
   go_enter Tryz.func129, Tryz.ntmps129
   go_wp2_with (first | (go_at_call 48; (try clear Gb); refine (HF.out _).mono ?_; rintro e Wk1 ⟨rfl, Gb⟩; replace Ga := Ga.keep Gb) | (go_at_call 129; (try clear Gb); refine (HI.out _).mono ?_; rintro e Wk2 ⟨rfl, Gb⟩; replace Ga := Ga.keep Gb))
   go_ret
   exact ⟨congrArg Ending.returned (by go_num), Ga⟩
  ·have hle := plN_le (n - GH n) (m - GH n) false
   rw [M5 h (by omega) hk]
   have HI := Gg (fun w => ih (n - GH n) (by omega) (m - GH n) false w (by omega) (by omega) (by omega))
   have e1 : (((m - GH n : Nat)) : Int) = (m : Int) - (GH n : Int) := by omega
   have e2 : (((n - GH n : Nat)) : Int) = (n : Int) - (GH n : Int) := by omega
   rw [e1, e2] at HI
   have hk' : ¬ (m : Int) ≤ (GH n : Int) := by omega
   clear ih h e1 e2
   generalize plN (n - GH n) (m - GH n) false = r at *
   generalize GH n = k at *
   go_enter Tryz.func129, Tryz.ntmps129
   go_wp2_with (first | (go_at_call 48; (try clear Gb); refine (HF.out _).mono ?_; rintro e Wk3 ⟨rfl, Gb⟩; replace Ga := Ga.keep Gb) | (go_at_call 129; (try clear Gb); refine (HI.out _).mono ?_; rintro e Wk4 ⟨rfl, Gb⟩; replace Ga := Ga.keep Gb))
   go_ret
   exact ⟨congrArg Ending.returned (by go_num), Ga⟩
theorem rproof_any : ∀ (n : Nat) (ls : List Dig) (A : Option Addr) (c m : Nat) (own : Bool) (w : World), SlR w A n c 32 (GP ls) → 1 ≤ m → m ≤ n → n ≤ 256 →
  Calls Tryz.prog 17 #[.slice A n c, .int .i64 (m : Int), .bool own] w fun e w' => ∃ O oc, e = .returned (.slice O (plN n m own) oc) ∧ St w w' [.row O (plN n m own) oc 32 32 (GP (gpN ls m own))] := by
 intro n
 induction n using Nat.strongRecOn with
 | ind n ih =>
 intro ls A c m own w hx hm1 hmn hn
 have Ga := St.refl w
 have hl : ls.length = n := by have := hx.1; rw [G8] at this; omega
 have hcap := hx.2.1
 by_cases h : m = n
 ·subst h
  rw [gpN_all ls own hl.symm, PP]
  clear ih
  cases own with
  | true =>
   go_enter Tryz.func17, Tryz.ntmps17
   go_wp2_with (fail)
   go_ret
   exact ⟨_, _, rfl, Ga.nilRow 32 32⟩
  | false =>
   have HR := Gg (fun w hs => Pu m ls A c w hs hn)
   have HB := Gg (show (G4 ls).arr.toList = GP [G4 ls] by rw [JH, Dig.toList])
   generalize G4 ls = r at *
   go_enter Tryz.func17, Tryz.ntmps17
   go_wp2_with (first | (go_at_call 41; (try clear Gb); refine (HR.out _ (Ga.old (by decide) hx)).mono ?_; rintro e Wk5 ⟨rfl, Gb⟩; replace Ga := Ga.keep Gb) | (refine Gq 21 rfl [_] (Kj (Gw rfl)) rfl uz44 Gv rfl (by (simp [Value.cells, Dig.size]; done)) (by decide) (by decide) ?_; (try clear Gb); intro g21 W21 Gb; replace Ga := Ga.tr1 Gb; simp only [List.flatMap_cons, List.flatMap_nil, List.append_nil, Value.cells, List.toList_toArray] at Ga))
   go_ret
   refine ⟨_, _, rfl, ?_⟩
   (try simp only [Bool.false_eq_true, if_false])
   rw [← HB.out]
   exact Ga.pick [0] (by decide)
 ·have hlt := Ju n (by omega)
  have hps := Jl n
  have h' : ((m : Int) == (n : Int)) = false := by rw [beq_eq_false_iff_ne]; omega
  have HF := Gg (fun w => NN n (by omega) (by omega) w)
  have H1 := Gg (show ((GP ls).drop (0 * 32)).take ((GH n - 0) * 32) = GP (ls.take (GH n)) by rw [J5]; rfl)
  have H2 := Gg (show ((GP ls).drop (GH n * 32)).take ((n - GH n) * 32) = GP (ls.drop (GH n)) by rw [J5, List.take_of_length_le (by rw [List.length_drop]; omega)])
  by_cases hk : m ≤ GH n
  ·have hle := plN_le (GH n) m own
   rw [NV h (by omega) hk]
   have HI := Gg (fun A c w hs => ih (GH n) hlt (ls.take (GH n)) A c m own w hs hm1 hk (by omega))
   have HB := Gg (show GP (gpN (ls.take (GH n)) m own) ++ (G4 (ls.drop (GH n))).arr.toList = GP (gpN ls m own) by
    rw [gpN_left (ls := ls) (by omega) (by omega) (by rw [hl]; exact hk), hl, Kt, JH, Dig.toList])
   have hk' : (m : Int) ≤ (GH n : Int) := by omega
   clear ih hl h
   generalize plN (GH n) m own = r at *
   generalize GH n = k at *
   go_enter Tryz.func17, Tryz.ntmps17
   go_upto_region 1 with (fail)
   go_upto_region 3 with ((refine JP (d := some 14) rfl rfl rfl (Gw rfl) GT ?_))
   go_upto_region 5 with (fail)
   go_upto_region 6 with ((go_at_call 48; (try clear Gb); refine (HF.out _).mono ?_; rintro e Wk6 ⟨rfl, Gb⟩; replace Ga := Ga.keep Gb))
   go_upto_region 7 with (fail)
   (try clear Gb)
   refine J3 [(0, 0), (1, 0), (2, 0), (3, 0), (4, 0), (6, 0), (7, 0), (8, 0), (5, 2), (9, 2), (10, 2), (11, 1), (12, 2)] (by kernel_rfl) (by kernel_rfl) ?_
   replace Ga := Ga.drew
   refine GG rfl rfl ?_; go_wp2_with fail
   refine GG rfl rfl ?_; go_wp2_with fail
   refine GG rfl rfl ?_; go_wp2_with ((refine Ku (d := some 30) rfl rfl rfl (by rfl) uz44 Gv (by decide) hx 0 k _ (Or.inl ⟨rfl, rfl⟩) (Or.inr ⟨_, _, rfl, by (exact Gw rfl)⟩) (Or.inl ⟨rfl, rfl⟩) (by omega) (by omega) (by omega) (by omega) ?_; intro A30 c30 hs30))
   refine GG rfl rfl ?_; go_wp2_with fail
   refine GG rfl rfl ?_; go_wp2_with fail
   refine GG rfl rfl ?_; go_wp2_with fail
   refine GG rfl rfl ?_; go_wp2_with fail
   refine GG rfl rfl ?_; go_wp2_with ((refine Ku (d := some 36) rfl rfl rfl (by rfl) uz44 Gv (by decide) hx k n _ (Or.inr ⟨_, _, rfl, by (exact Gw rfl)⟩) (Or.inl ⟨rfl, rfl, rfl⟩) (Or.inl ⟨rfl, rfl⟩) (by omega) (by omega) (by omega) (by omega) ?_; intro A36 c36 hs36))
   refine GA rfl ?_; go_wp2_with ((go_at_call 17; (try clear Gb); refine (HI.out A30 c30 _ (by rw [← H1.out]; exact Ga.old (by decide) hs30)).mono ?_; rintro e Wk7 ⟨O33, c33, rfl, Gb⟩; replace Ga := Ga.trans Gb; simp only [Gc, Gd] at Ga)); refine Gi Gb ?_
   refine GA rfl ?_; go_wp2_with ((go_at_call 41; (try clear Gb); refine (Pu (n - k) (ls.drop k) A36 c36 _ (by rw [← H2.out]; exact Ga.old (by decide) hs36) (by omega)).mono ?_; rintro e Wk8 ⟨rfl, Gb⟩; replace Ga := Ga.keep Gb)); refine Gi Gb ?_
   refine GA rfl ?_; go_wp2_with (refine Gq 38 rfl [_] (Kj (Gw rfl)) rfl uz44 Gv rfl (by (simp [Value.cells, Dig.size]; done)) (by decide) (by decide) ?_; (try clear Gb); intro g38 W38 Gb; replace Ga := Ga.tr1 Gb; simp only [List.flatMap_cons, List.flatMap_nil, List.append_nil, Value.cells, List.toList_toArray] at Ga); refine Gi Gb ?_
   refine J6 rfl ?_; go_wp2_with (refine GY (d := some 39) rfl rfl Ga rfl (by rfl) (by rfl) uz44 Gv rfl (by decide) (by decide) 1 rfl (by rfl) (Ga.sl 0 rfl) (GX) (by omega) ?_; clear Ga; intro A39 c39 W39 Ga; simp only [Ge, Gf, List.nil_append, Nat.zero_add] at Ga)
   refine GA rfl ?_; go_wp2_with fail; refine Gh ?_
   refine G5 ?_
   go_wp2_with fail
   go_ret
   refine ⟨_, _, rfl, ?_⟩
   rw [HB.out] at Ga
   (exact Ga.pick [1] (by decide))
  ·have hle := plN_le (n - GH n) (m - GH n) false
   rw [M5 h (by omega) hk]
   have HI := Gg (fun A c w hs => ih (n - GH n) (by omega) (ls.drop (GH n)) A c (m - GH n) false w hs (by omega) (by omega) (by omega))
   have HB := Gg (show GP (gpN (ls.drop (GH n)) (m - GH n) false) ++ (G4 (ls.take (GH n))).arr.toList = GP (gpN ls m own) by
    rw [gpN_right (ls := ls) (by omega) (by omega) (by rw [hl]; exact hk), hl, Kt, JH, Dig.toList])
   have e1 : (((m - GH n : Nat)) : Int) = (m : Int) - (GH n : Int) := by omega
   rw [e1] at HI
   have hk' : ¬ (m : Int) ≤ (GH n : Int) := by omega
   clear ih hl h e1
   generalize plN (n - GH n) (m - GH n) false = r at *
   generalize GH n = k at *
   go_enter Tryz.func17, Tryz.ntmps17
   go_upto_region 1 with (fail)
   go_upto_region 3 with ((refine JP (d := some 14) rfl rfl rfl (Gw rfl) GT ?_))
   go_upto_region 5 with (fail)
   go_upto_region 6 with ((go_at_call 48; (try clear Gb); refine (HF.out _).mono ?_; rintro e Wk9 ⟨rfl, Gb⟩; replace Ga := Ga.keep Gb))
   go_upto_region 8 with (fail)
   (try clear Gb)
   refine J3 [(0, 0), (1, 0), (2, 0), (3, 0), (4, 0), (5, 0), (7, 0), (8, 0), (9, 0), (6, 2), (10, 2), (11, 2), (12, 1), (13, 2)] (by kernel_rfl) (by kernel_rfl) ?_
   replace Ga := Ga.drew
   refine GG rfl rfl ?_; go_wp2_with fail
   refine GG rfl rfl ?_; go_wp2_with fail
   refine GG rfl rfl ?_; go_wp2_with ((refine Ku (d := some 42) rfl rfl rfl (by rfl) uz44 Gv (by decide) hx k n _ (Or.inr ⟨_, _, rfl, by (exact Gw rfl)⟩) (Or.inl ⟨rfl, rfl, rfl⟩) (Or.inl ⟨rfl, rfl⟩) (by omega) (by omega) (by omega) (by omega) ?_; intro A42 c42 hs42))
   refine GG rfl rfl ?_; go_wp2_with fail
   refine GG rfl rfl ?_; go_wp2_with fail
   refine GG rfl rfl ?_; go_wp2_with fail
   refine GG rfl rfl ?_; go_wp2_with fail
   refine GG rfl rfl ?_; go_wp2_with fail
   refine GG rfl rfl ?_; go_wp2_with ((refine Ku (d := some 49) rfl rfl rfl (by rfl) uz44 Gv (by decide) hx 0 k _ (Or.inl ⟨rfl, rfl⟩) (Or.inr ⟨_, _, rfl, by (exact Gw rfl)⟩) (Or.inl ⟨rfl, rfl⟩) (by omega) (by omega) (by omega) (by omega) ?_; intro A49 c49 hs49))
   refine GA rfl ?_; go_wp2_with ((go_at_call 17; (try clear Gb); refine (HI.out A42 c42 _ (by rw [← H2.out]; exact Ga.old (by decide) hs42)).mono ?_; rintro e Wk10 ⟨O46, c46, rfl, Gb⟩; replace Ga := Ga.trans Gb; simp only [Gc, Gd] at Ga)); refine Gi Gb ?_
   refine GA rfl ?_; go_wp2_with ((go_at_call 41; (try clear Gb); refine (Pu k (ls.take k) A49 c49 _ (by rw [← H1.out]; exact Ga.old (by decide) hs49) (by omega)).mono ?_; rintro e Wk11 ⟨rfl, Gb⟩; replace Ga := Ga.keep Gb)); refine Gi Gb ?_
   refine GA rfl ?_; go_wp2_with (refine Gq 51 rfl [_] (Kj (Gw rfl)) rfl uz44 Gv rfl (by (simp [Value.cells, Dig.size]; done)) (by decide) (by decide) ?_; (try clear Gb); intro g51 W51 Gb; replace Ga := Ga.tr1 Gb; simp only [List.flatMap_cons, List.flatMap_nil, List.append_nil, Value.cells, List.toList_toArray] at Ga); refine Gi Gb ?_
   refine J6 rfl ?_; go_wp2_with (refine GY (d := some 52) rfl rfl Ga rfl (by rfl) (by rfl) uz44 Gv rfl (by decide) (by decide) 1 rfl (by rfl) (Ga.sl 0 rfl) (GX) (by omega) ?_; clear Ga; intro A52 c52 W52 Ga; simp only [Ge, Gf, List.nil_append, Nat.zero_add] at Ga)
   refine GA rfl ?_; go_wp2_with fail; refine Gh ?_
   refine G5 ?_
   go_wp2_with fail
   go_ret
   refine ⟨_, _, rfl, ?_⟩
   rw [HB.out] at Ga
   (exact Ga.pick [1] (by decide))
theorem two_at (a b : Dig) : Hid (((GP [a, b]).drop ((0 : Int).toNat * 32)).take 32 = a.arr.toList) ∧ Hid (((GP [a, b]).drop ((1 : Int).toNat * 32)).take 32 = b.arr.toList) :=
 ⟨Gg (by rw [Dig.toList]; exact MQ [a, b] 0 (by decide : 0 < 2)), Gg (by rw [Dig.toList]; exact MQ [a, b] 1 (by decide : 1 < 2))⟩
theorem rroots_any : ∀ (n m : Nat) (own : Bool) (old : Dig) (p : List Dig) (A : Option Addr) (k c : Nat) (w : World), SlR w A k c 32 (GP p) → k = plN n m own → 1 ≤ m → m ≤ n → n ≤ 256 →
  Calls Tryz.prog 130 #[.int .i64 (m : Int), .int .i64 (n : Int), .bool own, old.v, .slice A k c] w fun e w' => ∃ O oc, e = .returned (.slice O 2 oc) ∧ St w w' [.row O 2 oc 32 32 (GP [(grN n m own old p).1, (grN n m own old p).2])] := by
 intro n
 induction n using Nat.strongRecOn with
 | ind n ih =>
 intro m own old p A k c w hx hk hm1 hmn hn
 have Ga := St.refl w
 have hl : p.length = k := by have := hx.1; rw [G8] at this; omega
 have hcap := hx.2.1
 have hmax := hx.2.2.1
 simp only [maxLen] at hmax
 by_cases h : m = n
 ·subst h
  clear ih
  rw [PP] at hk
  cases own with
  | true =>
   rw [grN_all]
   simp only [if_true]
   rw [digsL_two]
   go_enter Tryz.func130, Tryz.ntmps130
   go_upto_region 1 with (refine Gm 8 rfl (Gw rfl) ?_; (try clear Gb); intro g8 W8 Gb; replace Ga := Ga.tr1 Gb)
   go_upto_region 2 with ((refine Ka (d := some 21) rfl rfl rfl (Gw rfl) (Gw rfl) ?_))
   go_wp2_with (first | (refine Gl 22 rfl (by rfl) uz32 rfl Gv (Ga.get 0 rfl) (Dig.size _) ?_) | (refine Gl 23 rfl (by rfl) uz32 rfl Gv (Ga.get 0 rfl) (Dig.size _) ?_) | (refine Gq 24 rfl [_, _] (bs_2 (Gw rfl) (Gw rfl)) rfl uz44 Gv rfl (by (simp [Value.cells, Dig.size]; done)) (by decide) (by decide) ?_; (try clear Gb); intro g24 W24 Gb; replace Ga := Ga.tr1 Gb; simp only [List.flatMap_cons, List.flatMap_nil, List.append_nil, Value.cells, List.toList_toArray] at Ga))
   go_ret
   exact ⟨_, _, rfl, Ga.pick [0] (by decide)⟩
  | false =>
   simp only [Bool.false_eq_true, if_false] at hk
   subst hk
   obtain ⟨q, d, rfl, hq, hp, hc⟩ := Qd p 0 hl
   obtain rfl : q = [] := List.eq_nil_of_length_eq_zero hq
   rw [List.nil_append] at *
   have HP := Gg (show ((GP [d]).drop ((0 : Int).toNat * 32)).take 32 = d.arr.toList from hp)
   have HG := Gg (show grN m m false old [d] = (d, d) by rw [grN_all]; rfl)
   rw [HG.out, digsL_two]
   clear hp hc hq hl HG
   generalize GP [d] = lx at *
   go_enter Tryz.func130, Tryz.ntmps130
   go_upto_region 1 with (refine Gm 8 rfl (Gw rfl) ?_; (try clear Gb); intro g8 W8 Gb; replace Ga := Ga.tr1 Gb)
   go_upto_region 3 with ((refine Ka (d := some 21) rfl rfl rfl (Gw rfl) (Gw rfl) ?_))
   go_upto_region 4 with (first | (refine Gn 30 rfl (by rfl) uz32 rfl Gv (cs := d.arr) (by rw [← HP.out]; exact hr29) (Dig.size _) ?_) | (refine Gp 29 rfl (by rfl) (by rfl) uz44 Gv (Ga.old (by decide) hx) (by omega) (by omega) ?_; intro o29 p29 ha29 hr29; ((subst ha29))) | (refine Gk 11 rfl Gv ?_; (try clear Gb); intro g11 W11 Gb; replace Ga := Ga.tr1 Gb) | ((refine Gr 11 30 Ga rfl (by rfl) (Gw rfl) (Dig.one _) Gv (Dig.size _) 0 rfl (by rfl) ?_; clear Ga; intro WS7 Ga; simp only [Ge, Gf] at Ga)))
   go_upto_region 5 with ((refine Ku (d := some 35) rfl rfl rfl (by rfl) uz44 Gv (by decide) hx 0 0 _ (Or.inl ⟨rfl, rfl⟩) (Or.inr ⟨_, _, rfl, by (exact Gw rfl)⟩) (Or.inl ⟨rfl, rfl⟩) (by omega) (by omega) (by omega) (by omega) ?_; intro A35 c35 hs35))
   go_upto_region 6 with (fail)
   go_wp2_with (first | (refine Gl 39 rfl (by rfl) uz32 rfl Gv (Ga.get 0 rfl) (Dig.size _) ?_) | (refine Gl 40 rfl (by rfl) uz32 rfl Gv (Ga.get 0 rfl) (Dig.size _) ?_) | (refine Gq 41 rfl [_, _] (bs_2 (Gw rfl) (Gw rfl)) rfl uz44 Gv rfl (by (simp [Value.cells, Dig.size]; done)) (by decide) (by decide) ?_; (try clear Gb); intro g41 W41 Gb; replace Ga := Ga.tr1 Gb; simp only [List.flatMap_cons, List.flatMap_nil, List.append_nil, Value.cells, List.toList_toArray] at Ga))
   go_ret
   exact ⟨_, _, rfl, Ga.pick [0] (by decide)⟩
 ·have hlt := Ju n (by omega)
  have hps := Jl n
  have h' : ((m : Int) == (n : Int)) = false := by rw [beq_eq_false_iff_ne]; omega
  have HF := Gg (fun w => NN n (by omega) (by omega) w)
  by_cases hk2 : m ≤ GH n
  ·rw [NV h (by omega) hk2] at hk
   have hk' : (m : Int) ≤ (GH n : Int) := by omega
   obtain ⟨r, hr'⟩ : ∃ r, r = plN (GH n) m own := ⟨_, rfl⟩
   rw [← hr'] at hk
   subst hk
   obtain ⟨q, d, rfl, hq, hp, hc⟩ := Qd p r hl
   rw [grN_left h (by omega) hk2]
   have HP := Gg (show ((GP (q ++ [d])).drop ((r : Int).toNat * 32)).take 32 = d.arr.toList from hp)
   have HC := Gg hc
   have HI := Gg (fun A c w hs => ih (GH n) hlt m own old q A r c w hs hr' hm1 hk2 (by omega))
   have H2 := two_at (grN (GH n) m own old q).1 (grN (GH n) m own old q).2
   clear hp hc hq hl ih hr' h
   generalize (grN (GH n) m own old q).1 = x at *
   generalize (grN (GH n) m own old q).2 = y at *
   generalize GH n = hf at *
   obtain ⟨HX, HY⟩ := H2
   rw [digsL_two x (Mm y d)]
   generalize GP [x, y] = lxy at *
   generalize GP (q ++ [d]) = lx at *
   go_enter Tryz.func130, Tryz.ntmps130
   go_upto_region 1 with (refine Gm 8 rfl (Gw rfl) ?_; (try clear Gb); intro g8 W8 Gb; replace Ga := Ga.tr1 Gb)
   go_upto_region 3 with ((refine JP (d := some 21) rfl rfl rfl (Gw rfl) GT ?_))
   go_upto_region 4 with (first | (refine Gn 30 rfl (by rfl) uz32 rfl Gv (cs := d.arr) (by rw [← HP.out]; exact hr29) (Dig.size _) ?_) | (refine Gp 29 rfl (by rfl) (by rfl) uz44 Gv (Ga.old (by decide) hx) (by omega) (by omega) ?_; intro o29 p29 ha29 hr29; ((subst ha29))) | (refine Gk 11 rfl Gv ?_; (try clear Gb); intro g11 W11 Gb; replace Ga := Ga.tr1 Gb) | ((refine Gr 11 30 Ga rfl (by rfl) (Gw rfl) (Dig.one _) Gv (Dig.size _) 0 rfl (by rfl) ?_; clear Ga; intro WS7 Ga; simp only [Ge, Gf] at Ga)))
   go_upto_region 5 with ((refine Ku (d := some 35) rfl rfl rfl (by rfl) uz44 Gv (by decide) hx 0 r _ (Or.inl ⟨rfl, rfl⟩) (Or.inr ⟨_, _, rfl, by (exact Gw rfl)⟩) (Or.inl ⟨rfl, rfl⟩) (by omega) (by omega) (by omega) (by omega) ?_; intro A35 c35 hs35))
   go_upto_region 7 with (fail)
   go_upto_region 8 with ((go_at_call 48; (try clear Gb); refine (HF.out _).mono ?_; rintro e Wk12 ⟨rfl, Gb⟩; replace Ga := Ga.keep Gb))
   go_upto_region 9 with (fail)
   go_upto_region 10 with (first | (go_at_call 130; (try clear Gb); refine (HI.out A35 c35 _ (by rw [← HC.out]; exact Ga.old (by decide) hs35)).mono ?_; rintro e Wk13 ⟨O52, c52, rfl, Gb⟩; replace Ga := Ga.trans Gb; simp only [Gc, Gd] at Ga) | (refine Gl 50 rfl (by rfl) uz32 rfl Gv (Ga.get 1 rfl) (Dig.size _) ?_))
   (try clear Gb)
   refine GO [(0, 0), (1, 0), (2, 0), (3, 0), (4, 0), (5, 0), (6, 2), (7, 2), (8, 2), (9, 2)] (by kernel_rfl) (by kernel_rfl) ?_
   replace Ga := Ga.drew
   refine GG rfl rfl ?_; go_wp2_with fail
   refine GG rfl rfl ?_; go_wp2_with (refine Gp 54 rfl (by rfl) (by rfl) uz44 Gv (Ga.sl 0 rfl) (by omega) (by omega) ?_; intro o54 p54 ha54 hr54; ((subst ha54)))
   refine GG rfl rfl ?_; go_wp2_with (refine Gn 55 rfl (by rfl) uz32 rfl Gv (cs := x.arr) (by rw [← HX.out]; exact hr54) (Dig.size _) ?_)
   refine GG rfl rfl ?_; go_wp2_with fail
   refine GG rfl rfl ?_; go_wp2_with (refine Gp 57 rfl (by rfl) (by rfl) uz44 Gv (Ga.sl 0 rfl) (by omega) (by omega) ?_; intro o57 p57 ha57 hr57; ((obtain ⟨h1, h2⟩ := Jb ha57; subst h1; subst h2; clear ha57)))
   refine GG rfl rfl ?_; go_wp2_with (refine Gn 58 rfl (by rfl) uz32 rfl Gv (cs := y.arr) (by rw [← HY.out]; exact hr57) (Dig.size _) ?_)
   refine GA rfl ?_; go_wp2_with ((refine Gl 59 rfl (by rfl) uz32 rfl Gv (Ga.get 1 rfl) (Dig.size _) ?_)); refine Gh ?_
   refine GA rfl ?_; go_wp2_with ((go_at_call 86; (try clear Gb); with_reducible refine (Pt _ _ _).mono ?_; rintro e Wk14 ⟨rfl, Gb⟩; replace Ga := Ga.keep Gb)); refine Gi Gb ?_
   refine GA rfl ?_; go_wp2_with (refine Gq 61 rfl [_, _] (bs_2 (Gw rfl) (Gw rfl)) rfl uz44 Gv rfl (by (simp [Value.cells, Dig.size]; done)) (by decide) (by decide) ?_; (try clear Gb); intro g61 W61 Gb; replace Ga := Ga.tr1 Gb; simp only [List.flatMap_cons, List.flatMap_nil, List.append_nil, Value.cells, List.toList_toArray] at Ga); refine Gi Gb ?_
   refine GA rfl ?_; go_wp2_with fail; refine Gh ?_
   refine G5 ?_
   go_wp2_with fail
   go_ret
   exact ⟨_, _, rfl, Ga.pick [0] (by decide)⟩
  ·rw [M5 h (by omega) hk2] at hk
   have hk' : ¬ (m : Int) ≤ (GH n : Int) := by omega
   obtain ⟨r, hr'⟩ : ∃ r, r = plN (n - GH n) (m - GH n) false := ⟨_, rfl⟩
   rw [← hr'] at hk
   subst hk
   obtain ⟨q, d, rfl, hq, hp, hc⟩ := Qd p r hl
   rw [grN_right h (by omega) hk2]
   have HP := Gg (show ((GP (q ++ [d])).drop ((r : Int).toNat * 32)).take 32 = d.arr.toList from hp)
   have HC := Gg hc
   have HI := Gg (fun A c w hs => ih (n - GH n) (by omega) (m - GH n) false old q A r c w hs hr' (by omega) (by omega) (by omega))
   have e1 : (((m - GH n : Nat)) : Int) = (m : Int) - (GH n : Int) := by omega
   have e2 : (((n - GH n : Nat)) : Int) = (n : Int) - (GH n : Int) := by omega
   rw [e1, e2] at HI
   have H2 := two_at (grN (n - GH n) (m - GH n) false old q).1 (grN (n - GH n) (m - GH n) false old q).2
   clear hp hc hq hl ih hr' h e1 e2
   generalize (grN (n - GH n) (m - GH n) false old q).1 = x at *
   generalize (grN (n - GH n) (m - GH n) false old q).2 = y at *
   generalize GH n = hf at *
   obtain ⟨HX, HY⟩ := H2
   rw [digsL_two (Mm d x) (Mm d y)]
   generalize GP [x, y] = lxy at *
   generalize GP (q ++ [d]) = lx at *
   go_enter Tryz.func130, Tryz.ntmps130
   go_upto_region 1 with (refine Gm 8 rfl (Gw rfl) ?_; (try clear Gb); intro g8 W8 Gb; replace Ga := Ga.tr1 Gb)
   go_upto_region 3 with ((refine JP (d := some 21) rfl rfl rfl (Gw rfl) GT ?_))
   go_upto_region 4 with (first | (refine Gn 30 rfl (by rfl) uz32 rfl Gv (cs := d.arr) (by rw [← HP.out]; exact hr29) (Dig.size _) ?_) | (refine Gp 29 rfl (by rfl) (by rfl) uz44 Gv (Ga.old (by decide) hx) (by omega) (by omega) ?_; intro o29 p29 ha29 hr29; ((subst ha29))) | (refine Gk 11 rfl Gv ?_; (try clear Gb); intro g11 W11 Gb; replace Ga := Ga.tr1 Gb) | ((refine Gr 11 30 Ga rfl (by rfl) (Gw rfl) (Dig.one _) Gv (Dig.size _) 0 rfl (by rfl) ?_; clear Ga; intro WS7 Ga; simp only [Ge, Gf] at Ga)))
   go_upto_region 5 with ((refine Ku (d := some 35) rfl rfl rfl (by rfl) uz44 Gv (by decide) hx 0 r _ (Or.inl ⟨rfl, rfl⟩) (Or.inr ⟨_, _, rfl, by (exact Gw rfl)⟩) (Or.inl ⟨rfl, rfl⟩) (by omega) (by omega) (by omega) (by omega) ?_; intro A35 c35 hs35))
   go_upto_region 7 with (fail)
   go_upto_region 8 with ((go_at_call 48; (try clear Gb); refine (HF.out _).mono ?_; rintro e Wk15 ⟨rfl, Gb⟩; replace Ga := Ga.keep Gb))
   go_upto_region 11 with (fail)
   go_upto_region 12 with (first | (go_at_call 130; (try clear Gb); refine (HI.out A35 c35 _ (by rw [← HC.out]; exact Ga.old (by decide) hs35)).mono ?_; rintro e Wk16 ⟨O70, c70, rfl, Gb⟩; replace Ga := Ga.trans Gb; simp only [Gc, Gd] at Ga) | (refine Gl 68 rfl (by rfl) uz32 rfl Gv (Ga.get 1 rfl) (Dig.size _) ?_))
   (try clear Gb)
   refine GO [(0, 0), (1, 0), (2, 0), (3, 0), (5, 0), (6, 0), (7, 0), (8, 0), (4, 2), (9, 2), (10, 2), (11, 2)] (by kernel_rfl) (by kernel_rfl) ?_
   replace Ga := Ga.drew
   refine GG rfl rfl ?_; go_wp2_with ((refine Gl 71 rfl (by rfl) uz32 rfl Gv (Ga.get 1 rfl) (Dig.size _) ?_))
   refine GG rfl rfl ?_; go_wp2_with fail
   refine GG rfl rfl ?_; go_wp2_with (refine Gp 73 rfl (by rfl) (by rfl) uz44 Gv (Ga.sl 0 rfl) (by omega) (by omega) ?_; intro o73 p73 ha73 hr73; ((subst ha73)))
   refine GG rfl rfl ?_; go_wp2_with (refine Gn 74 rfl (by rfl) uz32 rfl Gv (cs := x.arr) (by rw [← HX.out]; exact hr73) (Dig.size _) ?_)
   refine GG rfl rfl ?_; go_wp2_with ((refine Gl 76 rfl (by rfl) uz32 rfl Gv (Ga.get 1 rfl) (Dig.size _) ?_))
   refine GG rfl rfl ?_; go_wp2_with fail
   refine GG rfl rfl ?_; go_wp2_with (refine Gp 78 rfl (by rfl) (by rfl) uz44 Gv (Ga.sl 0 rfl) (by omega) (by omega) ?_; intro o78 p78 ha78 hr78; ((obtain ⟨h1, h2⟩ := Jb ha78; subst h1; subst h2; clear ha78)))
   refine GG rfl rfl ?_; go_wp2_with (refine Gn 79 rfl (by rfl) uz32 rfl Gv (cs := y.arr) (by rw [← HY.out]; exact hr78) (Dig.size _) ?_)
   refine GA rfl ?_; go_wp2_with ((go_at_call 86; (try clear Gb); with_reducible refine (Pt _ _ _).mono ?_; rintro e Wk17 ⟨rfl, Gb⟩; replace Ga := Ga.keep Gb)); refine Gi Gb ?_
   refine GA rfl ?_; go_wp2_with ((go_at_call 86; (try clear Gb); with_reducible refine (Pt _ _ _).mono ?_; rintro e Wk17 ⟨rfl, Gb⟩; replace Ga := Ga.keep Gb)); refine Gi Gb ?_
   refine GA rfl ?_; go_wp2_with (refine Gq 81 rfl [_, _] (bs_2 (Gw rfl) (Gw rfl)) rfl uz44 Gv rfl (by (simp [Value.cells, Dig.size]; done)) (by decide) (by decide) ?_; (try clear Gb); intro g81 W81 Gb; replace Ga := Ga.tr1 Gb; simp only [List.flatMap_cons, List.flatMap_nil, List.append_nil, Value.cells, List.toList_toArray] at Ga); refine Gi Gb ?_
   refine GA rfl ?_; go_wp2_with fail; refine Gh ?_
   refine G5 ?_
   go_wp2_with fail
   go_ret
   exact ⟨_, _, rfl, Ga.pick [0] (by decide)⟩
end
section
open Go.RowKit
theorem Qg {m s : Int} {old now : Dig} {p : List Dig} (h : s < 1 ∨ 256 < s ∨ m < 1 ∨ s < m ∨ p.length ≠ plN s.toNat m.toNat true) : Mx m s old now p = false := by
 unfold Mx
 rw [decide_eq_false (by omega), Bool.false_and]
theorem growsB_nat {a b : Nat} {old now : Dig} {p : List Dig} (h1 : 1 ≤ a) (h2 : a ≤ b) (h3 : b ≤ 256) (h4 : p.length = plN b a true) : Mx (a : Int) (b : Int) old now p = (decide ((grN b a true old p).1 = old) && decide ((grN b a true old p).2 = now)) := by
 unfold Mx
 rw [Int.toNat_natCast, Int.toNat_natCast, decide_eq_true ⟨by omega, by omega, by omega, h4⟩, Bool.true_and]
theorem rgrows_any (m s : Int) (old now : Dig) (p : List Dig) (P : Option Addr) (k pc : Nat) (w : World) (hs : SlR w P k pc 32 (GP p)) :
  Calls Tryz.prog 104 #[.int .i64 m, .int .i64 s, old.v, now.v, .slice P k pc] w fun e w' => e = .returned (.bool (Mx m s old now p)) ∧ St w w' [] := by
 have Ga := St.refl w
 have hl : p.length = k := by have := hs.1; rw [G8] at this; omega
 by_cases c1 : s < 1
 ·rw [Qg (by omega)]
  clear hl
  go_enter Tryz.func104, Tryz.ntmps104
  go_upto_region 1 with (go_big_may; first | (refine Gm 7 rfl (Gw rfl) ?_; (try clear Gb); intro g7 W7 Gb; replace Ga := Ga.tr1 Gb) | (refine Gm 8 rfl (Gw rfl) ?_; (try clear Gb); intro g8 W8 Gb; replace Ga := Ga.tr1 Gb))
  go_upto_region 2 with (go_big_may; fail)
  go_wp2_with (fail)
  go_ret
  exact ⟨rfl, Ga.forget⟩
 by_cases c2 : 256 < s
 ·rw [Qg (by omega)]
  clear hl
  go_enter Tryz.func104, Tryz.ntmps104
  go_upto_region 1 with (go_big_may; first | (refine Gm 7 rfl (Gw rfl) ?_; (try clear Gb); intro g7 W7 Gb; replace Ga := Ga.tr1 Gb) | (refine Gm 8 rfl (Gw rfl) ?_; (try clear Gb); intro g8 W8 Gb; replace Ga := Ga.tr1 Gb))
  go_upto_region 2 with (go_big_may; fail)
  go_wp2_with (fail)
  go_ret
  exact ⟨rfl, Ga.forget⟩
 by_cases c3 : m < 1
 ·rw [Qg (by omega)]
  clear hl
  go_enter Tryz.func104, Tryz.ntmps104
  go_upto_region 1 with (go_big_may; first | (refine Gm 7 rfl (Gw rfl) ?_; (try clear Gb); intro g7 W7 Gb; replace Ga := Ga.tr1 Gb) | (refine Gm 8 rfl (Gw rfl) ?_; (try clear Gb); intro g8 W8 Gb; replace Ga := Ga.tr1 Gb))
  go_upto_region 2 with (go_big_may; fail)
  go_wp2_with (fail)
  go_ret
  exact ⟨rfl, Ga.forget⟩
 by_cases c4 : s < m
 ·rw [Qg (by omega)]
  clear hl
  go_enter Tryz.func104, Tryz.ntmps104
  go_upto_region 1 with (go_big_may; first | (refine Gm 7 rfl (Gw rfl) ?_; (try clear Gb); intro g7 W7 Gb; replace Ga := Ga.tr1 Gb) | (refine Gm 8 rfl (Gw rfl) ?_; (try clear Gb); intro g8 W8 Gb; replace Ga := Ga.tr1 Gb))
  go_upto_region 2 with (go_big_may; fail)
  go_wp2_with (fail)
  go_ret
  exact ⟨rfl, Ga.forget⟩
 obtain ⟨a, rfl⟩ : ∃ a : Nat, m = a := ⟨m.toNat, by omega⟩
 obtain ⟨b, rfl⟩ : ∃ b : Nat, s = b := ⟨s.toNat, by omega⟩
 have HPL := Gg (fun w => rplong_any b a true w (by omega) (by omega) (by omega))
 by_cases c5 : k = plN b a true
 ·rw [growsB_nat (by omega) (by omega) (by omega) (by omega)]
  have HRR := Gg (fun w hs => rroots_any b a true old p P k pc w hs c5 (by omega) (by omega) (by omega))
  rw [← c5] at HPL
  have H2 := two_at (grN b a true old p).1 (grN b a true old p).2
  generalize (grN b a true old p).1 = x at *
  generalize (grN b a true old p).2 = y at *
  obtain ⟨HX, HY⟩ := H2
  generalize GP [x, y] = lxy at *
  have e5 : ((k : Int) != (k : Int)) = false := by simp
  clear hl c5
  by_cases c6 : x = old
  ·rw [decide_eq_true c6, Bool.true_and]
   have HD := Gg (decide_eq_true c6)
   clear c6
   go_enter Tryz.func104, Tryz.ntmps104
   go_upto_region 1 with (go_big_may; first | (refine Gm 7 rfl (Gw rfl) ?_; (try clear Gb); intro g7 W7 Gb; replace Ga := Ga.tr1 Gb) | (refine Gm 8 rfl (Gw rfl) ?_; (try clear Gb); intro g8 W8 Gb; replace Ga := Ga.tr1 Gb))
   go_upto_region 3 with (go_big_may; (go_at_call 129; (try clear Gb); refine (HPL.out _).mono ?_; rintro e Wk1 ⟨rfl, Gb⟩; replace Ga := Ga.keep Gb))
   go_upto_region 4 with (go_big_may; first | (go_at_call 130; (try clear Gb); refine (HRR.out _ (Ga.old (by decide) hs)).mono ?_; rintro e Wk2 ⟨O52, c52, rfl, Gb⟩; replace Ga := Ga.trans Gb; simp only [Gc, Gd] at Ga) | (refine Gl 37 rfl (by rfl) uz32 rfl Gv (Ga.get 1 rfl) (Dig.size _) ?_))
   (try clear Gb)
   refine GO [(0, 0), (1, 0), (2, 0), (3, 2), (4, 2), (5, 2), (6, 0), (7, 0), (8, 0), (9, 2), (10, 2), (11, 2), (12, 2)] (by kernel_rfl) (by kernel_rfl) ?_
   replace Ga := Ga.drew
   refine GG rfl rfl ?_; go_wp2_with fail
   refine GG rfl rfl ?_; go_wp2_with (refine Gp 41 rfl (by rfl) (by rfl) uz44 Gv (Ga.sl 0 rfl) (by omega) (by omega) ?_; intro o41 p41 ha41 hr41; ((subst ha41)))
   refine GG rfl rfl ?_; go_wp2_with (refine Gn 42 rfl (by rfl) uz32 rfl Gv (cs := x.arr) (by rw [← HX.out]; exact hr41) (Dig.size _) ?_)
   refine GA rfl ?_; go_wp2_with ((refine Gl 43 rfl (by rfl) uz32 rfl Gv (Ga.get 2 rfl) (Dig.size _) ?_)); refine Gh ?_
   refine GA rfl ?_; go_wp2_with (refine MJ (d := some 44) rfl rfl rfl uz32 uz5 GF JG (Gw rfl) (Gw rfl) ?_; (try rw [HD.out])); refine Gh ?_
   refine GA rfl ?_; go_wp2_with fail; refine Gh ?_
   refine GG rfl rfl ?_; go_wp2_with (fail)
   refine GG rfl rfl ?_; go_wp2_with (refine Gp 47 rfl (by rfl) (by rfl) uz44 Gv (Ga.sl 0 rfl) (by omega) (by omega) ?_; intro o47 p47 ha47 hr47; ((obtain ⟨h1, h2⟩ := Jb ha47; subst h1; subst h2; clear ha47)))
   refine GG rfl rfl ?_; go_wp2_with (refine Gn 48 rfl (by rfl) uz32 rfl Gv (cs := y.arr) (by rw [← HY.out]; exact hr47) (Dig.size _) ?_)
   refine GA rfl ?_; go_wp2_with ((refine Gl 49 rfl (by rfl) uz32 rfl Gv (Ga.get 1 rfl) (Dig.size _) ?_)); refine Gh ?_
   refine GA rfl ?_; go_wp2_with (refine MJ (d := some 50) rfl rfl rfl uz32 uz5 GF JG (Gw rfl) (Gw rfl) ?_); refine Gh ?_
   refine GA rfl ?_; go_wp2_with fail; refine Gh ?_
   refine GA rfl ?_; go_wp2_with fail; refine Gh ?_
   refine G5 ?_
   go_wp2_with fail
   go_ret
   exact ⟨rfl, Ga.forget⟩
  ·rw [decide_eq_false c6, Bool.false_and]
   have HD := Gg (decide_eq_false c6)
   clear c6
   go_enter Tryz.func104, Tryz.ntmps104
   go_upto_region 1 with (go_big_may; first | (refine Gm 7 rfl (Gw rfl) ?_; (try clear Gb); intro g7 W7 Gb; replace Ga := Ga.tr1 Gb) | (refine Gm 8 rfl (Gw rfl) ?_; (try clear Gb); intro g8 W8 Gb; replace Ga := Ga.tr1 Gb))
   go_upto_region 3 with (go_big_may; (go_at_call 129; (try clear Gb); refine (HPL.out _).mono ?_; rintro e Wk3 ⟨rfl, Gb⟩; replace Ga := Ga.keep Gb))
   go_upto_region 4 with (go_big_may; first | (go_at_call 130; (try clear Gb); refine (HRR.out _ (Ga.old (by decide) hs)).mono ?_; rintro e Wk4 ⟨O52, c52, rfl, Gb⟩; replace Ga := Ga.trans Gb; simp only [Gc, Gd] at Ga) | (refine Gl 37 rfl (by rfl) uz32 rfl Gv (Ga.get 1 rfl) (Dig.size _) ?_))
   (try clear Gb)
   refine GO [(0, 0), (1, 0), (2, 0), (3, 2), (4, 2), (5, 2), (6, 0), (7, 0), (8, 0), (9, 2), (10, 2), (11, 2), (12, 2)] (by kernel_rfl) (by kernel_rfl) ?_
   replace Ga := Ga.drew
   refine GG rfl rfl ?_; go_wp2_with fail
   refine GG rfl rfl ?_; go_wp2_with (refine Gp 41 rfl (by rfl) (by rfl) uz44 Gv (Ga.sl 0 rfl) (by omega) (by omega) ?_; intro o41 p41 ha41 hr41; ((subst ha41)))
   refine GG rfl rfl ?_; go_wp2_with (refine Gn 42 rfl (by rfl) uz32 rfl Gv (cs := x.arr) (by rw [← HX.out]; exact hr41) (Dig.size _) ?_)
   refine GA rfl ?_; go_wp2_with ((refine Gl 43 rfl (by rfl) uz32 rfl Gv (Ga.get 2 rfl) (Dig.size _) ?_)); refine Gh ?_
   refine GA rfl ?_; go_wp2_with (refine MJ (d := some 44) rfl rfl rfl uz32 uz5 GF JG (Gw rfl) (Gw rfl) ?_; (try rw [HD.out])); refine Gh ?_
   refine GA rfl ?_; go_wp2_with fail; refine Gh ?_
   refine GG rfl rfl ?_; go_wp2_with (refine K0 (t := 46) rfl (by rfl) rfl ?_)
   refine GG rfl rfl ?_; go_wp2_with (refine K0 (t := 47) rfl (by rfl) rfl ?_)
   refine GG rfl rfl ?_; go_wp2_with (refine K0 (t := 48) rfl (by rfl) rfl ?_)
   refine GA rfl ?_; go_wp2_with (refine K0 (t := 49) rfl (by rfl) rfl ?_); refine Gh ?_
   refine GA rfl ?_; go_wp2_with (refine K0 (t := 50) rfl (by rfl) rfl ?_); refine Gh ?_
   refine GA rfl ?_; go_wp2_with fail; refine Gh ?_
   refine GA rfl ?_; go_wp2_with fail; refine Gh ?_
   refine G5 ?_
   go_wp2_with fail
   go_ret
   exact ⟨rfl, Ga.forget⟩
 ·rw [Qg (by simp only [Int.toNat_natCast]; omega)]
  generalize plN b a true = r at *
  have e5 : ((k : Int) != (r : Int)) = true := by simp; omega
  clear hl
  go_enter Tryz.func104, Tryz.ntmps104
  go_upto_region 1 with (go_big_may; first | (refine Gm 7 rfl (Gw rfl) ?_; (try clear Gb); intro g7 W7 Gb; replace Ga := Ga.tr1 Gb) | (refine Gm 8 rfl (Gw rfl) ?_; (try clear Gb); intro g8 W8 Gb; replace Ga := Ga.tr1 Gb))
  go_upto_region 2 with (go_big_may; (go_at_call 129; (try clear Gb); refine (HPL.out _).mono ?_; rintro e Wk5 ⟨rfl, Gb⟩; replace Ga := Ga.keep Gb))
  go_wp2_with (fail)
  go_ret
  exact ⟨rfl, Ga.forget⟩
end
section
open Go.RowKit
attribute [local simp] GR
theorem rtaken_any (key : List UInt8) (K : Option Addr) (m mc : Nat) (n0 : Int) (x0 y0 z0 : Dig) (n : Int) (x y z : Dig) (p : List Dig) (P : Option Addr) (k pc : Nat) (w : World) (hk : SlR w K m mc 1 (GK key)) (hm : m ≤ 140737488355000) (hp : SlR w P k pc 32 (GP p)) (h0 : 0 ≤ n0) :
  Calls Tryz.prog 68 #[.slice K m mc, .agg (H9 n0 x0 y0 z0), .agg (H9 n x y z), .slice P k pc] w fun e w' => e = .returned (.int .i64 (takeN key n0 x0 y0 n x y z p : Int)) ∧ St w w' [] := by
 have Ga := St.refl w
 have hl : p.length = k := by have := hp.1; rw [G8] at this; omega
 have HC := Gg (fun (w' : World) (h1 : SlR w' K m mc 1 (GK key)) => rtag_any key K m mc n x y z w' h1 hm)
 have HK := Gg (fun (w' : World) (hs : SlR w' P k pc 32 (GP p)) => rgrows_any n0 n x0 x p P k pc w' hs)
 clear hm
 obtain ⟨r, hr⟩ : ∃ r, r = takeN key n0 x0 y0 n x y z p := ⟨_, rfl⟩
 rw [← hr]
 unfold takeN at hr
 generalize tagN key n x y = tg at *
 have HR := Gg hr
 have hl0 := Gg hl
 have h00 := Gg h0
 clear hl h0 hr
 go_enter Tryz.func68, Tryz.ntmps68
 go_upto_region 1 with (go_big_may; first | (refine Gm 5 rfl (Gw rfl) ?_; (try clear Gb); intro g5 W5 Gb; replace Ga := Ga.tr1 Gb) | (refine Gm 6 rfl (Gw rfl) ?_; (try clear Gb); intro g6 W6 Gb; replace Ga := Ga.tr1 Gb))
 (try clear Gb)
 go_cut [15] (fun s15 wx => s15 = .bool (!decide (z = tg)) ∧ St w wx [.blk g6 41 (H9 n x y z), .blk g5 41 (H9 n0 x0 y0 z0)])
 case first =>
  refine Ht (.one 2 3 (.one 0 0 (.one 1 0 (.one 3 2 (.one 4 2 (.one 5 2 .nil)))))) (by kernel_rfl) (by kernel_rfl) ?_
  replace Ga := Ga.drew
  refine Jj rfl rfl ?_; go_wp2_with fail
  refine Pc rfl rfl (by kernel_rfl) ?_; go_wp2_with fail
  refine Kl rfl rfl ?_; go_wp2_with ((refine Gn 11 rfl (by rfl) uz32 rfl Gv (hdArr_tag (Ga.get 0 rfl)) (Dig.size _) ?_))
  refine G6 rfl ?_; go_wp2_with ((refine Gl 13 rfl (by rfl) uz41 rfl GS (Ga.get 0 rfl) (GR _ _ _ _) ?_)); refine Gh ?_
  refine G6 rfl ?_; go_wp2_with ((go_at_call 25; refine (HC.out _ (Ga.old (by decide) hk)).mono ?_; rintro e Wt ⟨rfl, Gb⟩; replace Ga := Ga.keep Gb)); refine Gi Gb ?_
  refine G6 rfl ?_; go_wp2_with (refine Ml (d := some 15) rfl rfl rfl uz32 uz5 GF JG (Gw rfl) (Gw rfl) ?_); refine Gh ?_
  refine H5 ?_
  go_wp2_with fail
  go_meet
  case rel => exact ⟨rfl, Ga⟩
 case rest =>
  clear Ga HC
  obtain ⟨rfl, Ga⟩ := hcut
  by_cases c1 : z = tg
  ·have hr := HR.out
   clear HR
   rw [if_pos c1] at hr
   have HR := Gg hr
   clear hr
   rw [decide_eq_true c1]
   clear c1
   by_cases c2 : n < 0
   ·have hr := HR.out
    clear HR
    rw [if_pos (Or.inl c2)] at hr
    have HR := Gg hr
    clear hr
    go_upto_region 4 with (first | (with_reducible refine GI (t := 20) rfl (by kernel_rfl) ?_) | (with_reducible refine GI (t := 21) rfl (by kernel_rfl) ?_) | (with_reducible refine GI (t := 22) rfl (by kernel_rfl) ?_) | (go_big_may; (refine Gj 17 rfl (by rfl) uz3 rfl (Gy (Ga.get 0 rfl) GQ) ?_)))
    go_wp2_with (fail)
    go_ret
    obtain rfl : r = 2 := HR.out
    exact ⟨rfl, Ga.forget⟩
   by_cases c3 : 256 < n
   ·have hr := HR.out
    clear HR
    rw [if_pos (Or.inr c3)] at hr
    have HR := Gg hr
    clear hr
    go_upto_region 4 with (go_big_may; first | (refine Gj 17 rfl (by rfl) uz3 rfl (Gy (Ga.get 0 rfl) GQ) ?_) | (refine Gj 21 rfl (by rfl) uz3 rfl (Gy (Ga.get 0 rfl) GQ) ?_))
    go_wp2_with (fail)
    go_ret
    obtain rfl : r = 2 := HR.out
    exact ⟨rfl, Ga.forget⟩
   have hr := HR.out
   clear HR
   rw [if_neg (not_or.2 ⟨c2, c3⟩)] at hr
   have HR := Gg hr
   clear hr
   by_cases c4 : n < n0
   ·have hr := HR.out
    clear HR
    rw [if_pos c4] at hr
    have HR := Gg hr
    clear hr
    go_upto_region 5 with (go_big_may; first | (refine Gj 17 rfl (by rfl) uz3 rfl (Gy (Ga.get 0 rfl) GQ) ?_) | (refine Gj 21 rfl (by rfl) uz3 rfl (Gy (Ga.get 0 rfl) GQ) ?_))
    go_upto_region 6 with (go_big_may; first | (refine Gj 25 rfl (by rfl) uz3 rfl (Gy (Ga.get 0 rfl) GQ) ?_) | (refine Gj 27 rfl (by rfl) uz3 rfl (Gy (Ga.get 1 rfl) GQ) ?_))
    go_wp2_with (fail)
    go_ret
    obtain rfl : r = 8 := HR.out
    exact ⟨rfl, Ga.forget⟩
   have hr := HR.out
   clear HR
   rw [if_neg c4] at hr
   have HR := Gg hr
   clear hr
   by_cases c5 : n = n0
   ·subst c5
    have hr := HR.out
    clear HR
    rw [if_pos rfl] at hr
    have HR := Gg hr
    clear hr
    by_cases c6 : x = x0
    ·have hx := dNe x0
     subst c6
     by_cases c7 : y = y0
     ·subst c7
      have hr := HR.out
      clear HR
      rw [if_pos ⟨rfl, rfl⟩] at hr
      have HR := Gg hr
      clear hr
      go_upto_region 5 with (go_big_may; first | (refine Gj 17 rfl (by rfl) uz3 rfl (Gy (Ga.get 0 rfl) GQ) ?_) | (refine Gj 21 rfl (by rfl) uz3 rfl (Gy (Ga.get 0 rfl) GQ) ?_))
      go_upto_region 7 with (go_big_may; first | (refine Gj 25 rfl (by rfl) uz3 rfl (Gy (Ga.get 0 rfl) GQ) ?_) | (refine Gj 27 rfl (by rfl) uz3 rfl (Gy (Ga.get 1 rfl) GQ) ?_))
      go_upto_region 8 with (go_big_may; first | (refine Gj 30 rfl (by rfl) uz3 rfl (Gy (Ga.get 0 rfl) GQ) ?_) | (refine Gj 32 rfl (by rfl) uz3 rfl (Gy (Ga.get 1 rfl) GQ) ?_))
      go_upto_region 10 with (go_big_may; first | (refine Gn 37 rfl (by rfl) uz32 rfl Gv (Hy (Ga.get 0 rfl)) (Dig.size _) ?_) | (refine Gn 39 rfl (by rfl) uz32 rfl Gv (Hy (Ga.get 1 rfl)) (Dig.size _) ?_) | (refine Ml (d := some 40) rfl rfl rfl uz32 uz5 GF JG (Gw rfl) (Gw rfl) ?_; (try rw [dNe _])) | (refine Gn 43 rfl (by rfl) uz32 rfl Gv (Jt (Ga.get 0 rfl)) (Dig.size _) ?_) | (refine Gn 45 rfl (by rfl) uz32 rfl Gv (Jt (Ga.get 1 rfl)) (Dig.size _) ?_) | (refine Ml (d := some 46) rfl rfl rfl uz32 uz5 GF JG (Gw rfl) (Gw rfl) ?_; (try rw [dNe _])))
      go_upto_region 12 with (first | (with_reducible refine GI (t := 52) rfl (by kernel_rfl) ?_) | (with_reducible refine GI (t := 53) rfl (by kernel_rfl) ?_) | (with_reducible refine GI (t := 54) rfl (by kernel_rfl) ?_) | (with_reducible refine GI (t := 57) rfl (by kernel_rfl) ?_) | (with_reducible refine GI (t := 58) rfl (by kernel_rfl) ?_) | (with_reducible refine GI (t := 59) rfl (by kernel_rfl) ?_))
      go_upto_region 14 with (first | (with_reducible refine GI (t := 64) rfl (by kernel_rfl) ?_) | (with_reducible refine GI (t := 65) rfl (by kernel_rfl) ?_) | (with_reducible refine GI (t := 66) rfl (by kernel_rfl) ?_) | (with_reducible refine GI (t := 69) rfl (by kernel_rfl) ?_) | (with_reducible refine GI (t := 70) rfl (by kernel_rfl) ?_) | (with_reducible refine GI (t := 71) rfl (by kernel_rfl) ?_) | (with_reducible refine GI (t := 72) rfl (by kernel_rfl) ?_) | (with_reducible refine GI (t := 73) rfl (by kernel_rfl) ?_) | (with_reducible refine GI (t := 74) rfl (by kernel_rfl) ?_) | (with_reducible refine GI (t := 75) rfl (by kernel_rfl) ?_) | (with_reducible refine GI (t := 76) rfl (by kernel_rfl) ?_) | (with_reducible refine GI (t := 77) rfl (by kernel_rfl) ?_) | (with_reducible refine GI (t := 78) rfl (by kernel_rfl) ?_) | (with_reducible refine GI (t := 79) rfl (by kernel_rfl) ?_))
      go_wp2_with (fail)
      go_ret
      obtain rfl : r = 0 := HR.out
      exact ⟨rfl, Ga.forget⟩
     ·have hr := HR.out
      clear HR
      rw [if_neg (fun h => c7 h.2)] at hr
      have HR := Gg hr
      clear hr
      go_upto_region 5 with (go_big_may; first | (refine Gj 17 rfl (by rfl) uz3 rfl (Gy (Ga.get 0 rfl) GQ) ?_) | (refine Gj 21 rfl (by rfl) uz3 rfl (Gy (Ga.get 0 rfl) GQ) ?_))
      go_upto_region 7 with (go_big_may; first | (refine Gj 25 rfl (by rfl) uz3 rfl (Gy (Ga.get 0 rfl) GQ) ?_) | (refine Gj 27 rfl (by rfl) uz3 rfl (Gy (Ga.get 1 rfl) GQ) ?_))
      go_upto_region 8 with (go_big_may; first | (refine Gj 30 rfl (by rfl) uz3 rfl (Gy (Ga.get 0 rfl) GQ) ?_) | (refine Gj 32 rfl (by rfl) uz3 rfl (Gy (Ga.get 1 rfl) GQ) ?_))
      go_upto_region 9 with (go_big_may; first | (refine Gn 37 rfl (by rfl) uz32 rfl Gv (Hy (Ga.get 0 rfl)) (Dig.size _) ?_) | (refine Gn 39 rfl (by rfl) uz32 rfl Gv (Hy (Ga.get 1 rfl)) (Dig.size _) ?_) | (refine Ml (d := some 40) rfl rfl rfl uz32 uz5 GF JG (Gw rfl) (Gw rfl) ?_; (try rw [dNe _])) | (refine Gn 43 rfl (by rfl) uz32 rfl Gv (Jt (Ga.get 0 rfl)) (Dig.size _) ?_) | (refine Gn 45 rfl (by rfl) uz32 rfl Gv (Jt (Ga.get 1 rfl)) (Dig.size _) ?_) | (refine Ml (d := some 46) rfl rfl rfl uz32 uz5 GF JG (Gw rfl) (Gw rfl) ?_; (try rw [dNe _])))
      go_wp2_with (fail)
      go_ret
      obtain rfl : r = 9 := HR.out
      exact ⟨rfl, Ga.forget⟩
    ·have hr := HR.out
     clear HR
     rw [if_neg (fun h => c6 h.1)] at hr
     have HR := Gg hr
     clear hr
     have hxx : (!decide (x = x0)) = true := by simp [c6]
     go_upto_region 5 with (go_big_may; first | (refine Gj 17 rfl (by rfl) uz3 rfl (Gy (Ga.get 0 rfl) GQ) ?_) | (refine Gj 21 rfl (by rfl) uz3 rfl (Gy (Ga.get 0 rfl) GQ) ?_))
     go_upto_region 7 with (go_big_may; first | (refine Gj 25 rfl (by rfl) uz3 rfl (Gy (Ga.get 0 rfl) GQ) ?_) | (refine Gj 27 rfl (by rfl) uz3 rfl (Gy (Ga.get 1 rfl) GQ) ?_))
     go_upto_region 8 with (go_big_may; first | (refine Gj 30 rfl (by rfl) uz3 rfl (Gy (Ga.get 0 rfl) GQ) ?_) | (refine Gj 32 rfl (by rfl) uz3 rfl (Gy (Ga.get 1 rfl) GQ) ?_))
     go_upto_region 9 with (first | (with_reducible refine GI (t := 42) rfl (by kernel_rfl) ?_) | (with_reducible refine GI (t := 43) rfl (by kernel_rfl) ?_) | (with_reducible refine GI (t := 44) rfl (by kernel_rfl) ?_) | (with_reducible refine GI (t := 45) rfl (by kernel_rfl) ?_) | (with_reducible refine GI (t := 46) rfl (by kernel_rfl) ?_) | (go_big_may; first | (refine Gn 37 rfl (by rfl) uz32 rfl Gv (Hy (Ga.get 0 rfl)) (Dig.size _) ?_) | (refine Gn 39 rfl (by rfl) uz32 rfl Gv (Hy (Ga.get 1 rfl)) (Dig.size _) ?_) | (refine Ml (d := some 40) rfl rfl rfl uz32 uz5 GF JG (Gw rfl) (Gw rfl) ?_; (try rw [hxx]))))
     go_wp2_with (fail)
     go_ret
     obtain rfl : r = 9 := HR.out
     exact ⟨rfl, Ga.forget⟩
   have hr := HR.out
   clear HR
   rw [if_neg c5] at hr
   have HR := Gg hr
   clear hr
   have c5' : (n == n0) = false := beq_eq_false_iff_ne.2 c5
   by_cases c6 : n0 = 0
   ·subst c6
    have hr := HR.out
    clear HR
    rw [if_pos rfl] at hr
    have HR := Gg hr
    clear hr
    have hl := hl0.out
    by_cases c7 : p = []
    ·subst c7
     obtain rfl : k = 0 := by simpa using hl.symm
     clear hl hl0
     have hr := HR.out
     clear HR
     rw [if_pos rfl] at hr
     have HR := Gg hr
     clear hr
     go_upto_region 5 with (go_big_may; first | (refine Gj 17 rfl (by rfl) uz3 rfl (Gy (Ga.get 0 rfl) GQ) ?_) | (refine Gj 21 rfl (by rfl) uz3 rfl (Gy (Ga.get 0 rfl) GQ) ?_))
     go_upto_region 7 with (go_big_may; first | (refine Gj 25 rfl (by rfl) uz3 rfl (Gy (Ga.get 0 rfl) GQ) ?_) | (refine Gj 27 rfl (by rfl) uz3 rfl (Gy (Ga.get 1 rfl) GQ) ?_))
     go_upto_region 8 with (go_big_may; first | (refine Gj 30 rfl (by rfl) uz3 rfl (Gy (Ga.get 0 rfl) GQ) ?_) | (refine Gj 32 rfl (by rfl) uz3 rfl (Gy (Ga.get 1 rfl) GQ) ?_))
     go_upto_region 10 with (first | (with_reducible refine GI (t := 36) rfl (by kernel_rfl) ?_) | (with_reducible refine GI (t := 37) rfl (by kernel_rfl) ?_) | (with_reducible refine GI (t := 38) rfl (by kernel_rfl) ?_) | (with_reducible refine GI (t := 39) rfl (by kernel_rfl) ?_) | (with_reducible refine GI (t := 40) rfl (by kernel_rfl) ?_) | (with_reducible refine GI (t := 41) rfl (by kernel_rfl) ?_) | (with_reducible refine GI (t := 42) rfl (by kernel_rfl) ?_) | (with_reducible refine GI (t := 43) rfl (by kernel_rfl) ?_) | (with_reducible refine GI (t := 44) rfl (by kernel_rfl) ?_) | (with_reducible refine GI (t := 45) rfl (by kernel_rfl) ?_) | (with_reducible refine GI (t := 46) rfl (by kernel_rfl) ?_) | (with_reducible refine GI (t := 47) rfl (by kernel_rfl) ?_))
     go_upto_region 12 with (go_big_may; (refine Gj 53 rfl (by rfl) uz3 rfl (Gy (Ga.get 1 rfl) GQ) ?_))
     go_upto_region 14 with (first | (with_reducible refine GI (t := 69) rfl (by kernel_rfl) ?_) | (with_reducible refine GI (t := 70) rfl (by kernel_rfl) ?_) | (with_reducible refine GI (t := 71) rfl (by kernel_rfl) ?_) | (with_reducible refine GI (t := 72) rfl (by kernel_rfl) ?_) | (with_reducible refine GI (t := 73) rfl (by kernel_rfl) ?_) | (with_reducible refine GI (t := 74) rfl (by kernel_rfl) ?_) | (with_reducible refine GI (t := 75) rfl (by kernel_rfl) ?_) | (with_reducible refine GI (t := 76) rfl (by kernel_rfl) ?_) | (with_reducible refine GI (t := 77) rfl (by kernel_rfl) ?_) | (with_reducible refine GI (t := 78) rfl (by kernel_rfl) ?_) | (with_reducible refine GI (t := 79) rfl (by kernel_rfl) ?_) | (go_big_may; (refine Gj 65 rfl (by rfl) uz3 rfl (Gy (Ga.get 1 rfl) GQ) ?_)))
     go_wp2_with (fail)
     go_ret
     obtain rfl : r = 0 := HR.out
     exact ⟨rfl, Ga.forget⟩
    ·have hk0 : (0 : Int) < (k : Int) := by
      have := List.length_pos_iff.2 c7
      omega
     clear hl hl0
     have hr := HR.out
     clear HR
     rw [if_neg c7] at hr
     have HR := Gg hr
     clear hr
     go_upto_region 5 with (go_big_may; first | (refine Gj 17 rfl (by rfl) uz3 rfl (Gy (Ga.get 0 rfl) GQ) ?_) | (refine Gj 21 rfl (by rfl) uz3 rfl (Gy (Ga.get 0 rfl) GQ) ?_))
     go_upto_region 7 with (go_big_may; first | (refine Gj 25 rfl (by rfl) uz3 rfl (Gy (Ga.get 0 rfl) GQ) ?_) | (refine Gj 27 rfl (by rfl) uz3 rfl (Gy (Ga.get 1 rfl) GQ) ?_))
     go_upto_region 8 with (go_big_may; first | (refine Gj 30 rfl (by rfl) uz3 rfl (Gy (Ga.get 0 rfl) GQ) ?_) | (refine Gj 32 rfl (by rfl) uz3 rfl (Gy (Ga.get 1 rfl) GQ) ?_))
     go_upto_region 10 with (first | (with_reducible refine GI (t := 36) rfl (by kernel_rfl) ?_) | (with_reducible refine GI (t := 37) rfl (by kernel_rfl) ?_) | (with_reducible refine GI (t := 38) rfl (by kernel_rfl) ?_) | (with_reducible refine GI (t := 39) rfl (by kernel_rfl) ?_) | (with_reducible refine GI (t := 40) rfl (by kernel_rfl) ?_) | (with_reducible refine GI (t := 41) rfl (by kernel_rfl) ?_) | (with_reducible refine GI (t := 42) rfl (by kernel_rfl) ?_) | (with_reducible refine GI (t := 43) rfl (by kernel_rfl) ?_) | (with_reducible refine GI (t := 44) rfl (by kernel_rfl) ?_) | (with_reducible refine GI (t := 45) rfl (by kernel_rfl) ?_) | (with_reducible refine GI (t := 46) rfl (by kernel_rfl) ?_) | (with_reducible refine GI (t := 47) rfl (by kernel_rfl) ?_))
     go_upto_region 11 with (go_big_may; (refine Gj 53 rfl (by rfl) uz3 rfl (Gy (Ga.get 1 rfl) GQ) ?_))
     go_wp2_with (fail)
     go_ret
     obtain rfl : r = 9 := HR.out
     exact ⟨rfl, Ga.forget⟩
   have hr := HR.out
   clear HR
   rw [if_neg c6] at hr
   have HR := Gg hr
   clear hr
   have c6' : (n0 == 0) = false := beq_eq_false_iff_ne.2 c6
   have c6'' : 0 < n0 := by have := h00.out; omega
   by_cases c7 : Mx n0 n x0 x p = true
   ·have hr := HR.out
    clear HR
    rw [if_pos c7] at hr
    have HR := Gg hr
    clear hr
    rw [c7] at HK
    go_upto_region 5 with (go_big_may; first | (refine Gj 17 rfl (by rfl) uz3 rfl (Gy (Ga.get 0 rfl) GQ) ?_) | (refine Gj 21 rfl (by rfl) uz3 rfl (Gy (Ga.get 0 rfl) GQ) ?_))
    go_upto_region 7 with (go_big_may; first | (refine Gj 25 rfl (by rfl) uz3 rfl (Gy (Ga.get 0 rfl) GQ) ?_) | (refine Gj 27 rfl (by rfl) uz3 rfl (Gy (Ga.get 1 rfl) GQ) ?_))
    go_upto_region 8 with (go_big_may; first | (refine Gj 30 rfl (by rfl) uz3 rfl (Gy (Ga.get 0 rfl) GQ) ?_) | (refine Gj 32 rfl (by rfl) uz3 rfl (Gy (Ga.get 1 rfl) GQ) ?_))
    go_upto_region 10 with (first | (with_reducible refine GI (t := 36) rfl (by kernel_rfl) ?_) | (with_reducible refine GI (t := 37) rfl (by kernel_rfl) ?_) | (with_reducible refine GI (t := 38) rfl (by kernel_rfl) ?_) | (with_reducible refine GI (t := 39) rfl (by kernel_rfl) ?_) | (with_reducible refine GI (t := 40) rfl (by kernel_rfl) ?_) | (with_reducible refine GI (t := 41) rfl (by kernel_rfl) ?_) | (with_reducible refine GI (t := 42) rfl (by kernel_rfl) ?_) | (with_reducible refine GI (t := 43) rfl (by kernel_rfl) ?_) | (with_reducible refine GI (t := 44) rfl (by kernel_rfl) ?_) | (with_reducible refine GI (t := 45) rfl (by kernel_rfl) ?_) | (with_reducible refine GI (t := 46) rfl (by kernel_rfl) ?_) | (with_reducible refine GI (t := 47) rfl (by kernel_rfl) ?_))
    go_upto_region 12 with (first | (with_reducible refine GI (t := 57) rfl (by kernel_rfl) ?_) | (with_reducible refine GI (t := 58) rfl (by kernel_rfl) ?_) | (with_reducible refine GI (t := 59) rfl (by kernel_rfl) ?_) | (go_big_may; (refine Gj 53 rfl (by rfl) uz3 rfl (Gy (Ga.get 1 rfl) GQ) ?_)))
    go_upto_region 14 with (go_big_may; first | (go_at_call 104; refine (HK.out _ (Ga.old (by decide) hp)).mono ?_; rintro e Wk ⟨rfl, Gb⟩; replace Ga := Ga.keep Gb) | (refine Gj 65 rfl (by rfl) uz3 rfl (Gy (Ga.get 1 rfl) GQ) ?_) | (refine Gj 70 rfl (by rfl) uz3 rfl (Gy (Ga.get 1 rfl) GQ) ?_) | (refine Gj 72 rfl (by rfl) uz3 rfl (Gy (Ga.get 0 rfl) GQ) ?_) | (refine Gn 74 rfl (by rfl) uz32 rfl Gv (Hy (Ga.get 1 rfl)) (Dig.size _) ?_) | (refine Gn 76 rfl (by rfl) uz32 rfl Gv (Hy (Ga.get 0 rfl)) (Dig.size _) ?_))
    go_wp2_with (fail)
    go_ret
    obtain rfl : r = 0 := HR.out
    exact ⟨rfl, Ga.forget⟩
   ·have hr := HR.out
    clear HR
    rw [if_neg c7] at hr
    have HR := Gg hr
    clear hr
    rw [Bool.eq_false_iff.2 c7] at HK
    go_upto_region 5 with (go_big_may; first | (refine Gj 17 rfl (by rfl) uz3 rfl (Gy (Ga.get 0 rfl) GQ) ?_) | (refine Gj 21 rfl (by rfl) uz3 rfl (Gy (Ga.get 0 rfl) GQ) ?_))
    go_upto_region 7 with (go_big_may; first | (refine Gj 25 rfl (by rfl) uz3 rfl (Gy (Ga.get 0 rfl) GQ) ?_) | (refine Gj 27 rfl (by rfl) uz3 rfl (Gy (Ga.get 1 rfl) GQ) ?_))
    go_upto_region 8 with (go_big_may; first | (refine Gj 30 rfl (by rfl) uz3 rfl (Gy (Ga.get 0 rfl) GQ) ?_) | (refine Gj 32 rfl (by rfl) uz3 rfl (Gy (Ga.get 1 rfl) GQ) ?_))
    go_upto_region 10 with (first | (with_reducible refine GI (t := 36) rfl (by kernel_rfl) ?_) | (with_reducible refine GI (t := 37) rfl (by kernel_rfl) ?_) | (with_reducible refine GI (t := 38) rfl (by kernel_rfl) ?_) | (with_reducible refine GI (t := 39) rfl (by kernel_rfl) ?_) | (with_reducible refine GI (t := 40) rfl (by kernel_rfl) ?_) | (with_reducible refine GI (t := 41) rfl (by kernel_rfl) ?_) | (with_reducible refine GI (t := 42) rfl (by kernel_rfl) ?_) | (with_reducible refine GI (t := 43) rfl (by kernel_rfl) ?_) | (with_reducible refine GI (t := 44) rfl (by kernel_rfl) ?_) | (with_reducible refine GI (t := 45) rfl (by kernel_rfl) ?_) | (with_reducible refine GI (t := 46) rfl (by kernel_rfl) ?_) | (with_reducible refine GI (t := 47) rfl (by kernel_rfl) ?_))
    go_upto_region 12 with (first | (with_reducible refine GI (t := 57) rfl (by kernel_rfl) ?_) | (with_reducible refine GI (t := 58) rfl (by kernel_rfl) ?_) | (with_reducible refine GI (t := 59) rfl (by kernel_rfl) ?_) | (go_big_may; (refine Gj 53 rfl (by rfl) uz3 rfl (Gy (Ga.get 1 rfl) GQ) ?_)))
    go_upto_region 13 with (go_big_may; first | (go_at_call 104; refine (HK.out _ (Ga.old (by decide) hp)).mono ?_; rintro e Wk ⟨rfl, Gb⟩; replace Ga := Ga.keep Gb) | (refine Gj 65 rfl (by rfl) uz3 rfl (Gy (Ga.get 1 rfl) GQ) ?_) | (refine Gj 70 rfl (by rfl) uz3 rfl (Gy (Ga.get 1 rfl) GQ) ?_) | (refine Gj 72 rfl (by rfl) uz3 rfl (Gy (Ga.get 0 rfl) GQ) ?_) | (refine Gn 74 rfl (by rfl) uz32 rfl Gv (Hy (Ga.get 1 rfl)) (Dig.size _) ?_) | (refine Gn 76 rfl (by rfl) uz32 rfl Gv (Hy (Ga.get 0 rfl)) (Dig.size _) ?_))
    go_wp2_with (fail)
    go_ret
    obtain rfl : r = 9 := HR.out
    exact ⟨rfl, Ga.forget⟩
  ·have hr := HR.out
   clear HR
   rw [if_neg c1] at hr
   have HR := Gg hr
   clear hr
   rw [decide_eq_false c1]
   go_wp2_with (fail)
   go_ret
   obtain rfl : r = 1 := HR.out
   exact ⟨rfl, Ga.forget⟩
end
end Go.Proofs.YtaebeemnipafbaaGreatDoor
