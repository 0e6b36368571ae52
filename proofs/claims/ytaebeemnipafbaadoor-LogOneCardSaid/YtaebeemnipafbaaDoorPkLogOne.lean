/-
  Proved here: LogOne: the law returns true for every input, and leaves its arguments as they were.
-/
import Derived.Test.YtaebeemnipafbaaDoorPkLookX
import Derived.Test.YtaebeemnipafbaaDoorSkip
import Derived.Test.YtaebeemnipafbaaDoorOpenB
import Derived.Test.YtaebeemnipafbaaDoorCards
import Derived.Test.YtaebeemnipafbaaDoorTie
import Derived.Deep.DeepHandedRow
import Derived.ProofKit
import Derived.OpenShut
import Derived.Test.YtaebeemnipafbaaDoorOpenH
set_option maxRecDepth 20000
set_option linter.unusedSimpArgs false
set_option linter.unusedVariables false
namespace Go.Proofs.YtaebeemnipafbaaDoor
open Go.RowKit
attribute [local simp] hdArr_size ntArr_size
def leafV (s : List UInt8) : Option NoteN → Dig × Dig
 | none => (zeroD, zeroD)
 | some n => (ntLeaf n, eLeaf (idxN s) (ntLeaf n))
theorem look_ok {n : Int} {x y : Dig} {s : List UInt8} {f : FoundN} {o : Option NoteN} (h : lookN n x y s f = (0, o)) : isNm s = true ∧ mapTold y s (leafV s o).2 f.mpath ∧ ∀ a, o = some a → noteOk a = true ∧ a.name = s := by
 unfold lookN at h
 by_cases hs : isNm s = true
 ·rw [if_pos hs] at h
  refine ⟨hs, ?_⟩
  by_cases h0 : f.note.name = []
  ·rw [if_pos h0] at h
   by_cases h1 : f.note.key = zeroD ∧ f.note.turn = 0 ∧ f.at_ = 0 ∧ f.path = [] ∧ mapTold y s zeroD f.mpath
   ·rw [if_pos h1] at h
    obtain rfl : none = o := (Prod.mk.inj h).2
    exact ⟨h1.2.2.2.2, fun a e => by cases e⟩
   ·rw [if_neg h1] at h; cases h
  ·rw [if_neg h0] at h
   by_cases h1 : noteOk f.note = true ∧ f.note.name = s
   ·rw [if_pos h1] at h
    by_cases h2 : mapTold y s (eLeaf (idxN s) (ntLeaf f.note)) f.mpath ∧ treeTold n x (ntLeaf f.note) f.at_ f.path
    ·rw [if_pos h2] at h
     obtain rfl : some f.note = o := (Prod.mk.inj h).2
     exact ⟨h2.1, fun a e => by cases e; exact h1⟩
    ·rw [if_neg h2] at h; cases h
   ·rw [if_neg h1] at h; cases h
 ·rw [if_neg hs] at h; cases h
theorem getD_cases (o : Option NoteN) : ∃ n1 n2 n3, o.getD zeroNt = ⟨n1, n2, n3⟩ := ⟨(o.getD zeroNt).name, (o.getD zeroNt).key, (o.getD zeroNt).turn, rfl⟩
theorem look_val (r : Nat × Option NoteN) : ∃ n1 n2 n3, r.2.getD zeroNt = ⟨n1, n2, n3⟩ ∧ lookV r = .tuple #[.agg (ntArr n1 n2 n3), .bool r.2.isSome, errO r.1] := by
 obtain ⟨n1, n2, n3, h⟩ := getD_cases r.2
 exact ⟨n1, n2, n3, h, by unfold lookV; rw [h]; rfl⟩
theorem lawLeaf_of {s : List UInt8} {o : Option NoteN} {n1 : List UInt8} {n2 : Dig} {n3 : Int} (hn : o.getD zeroNt = ⟨n1, n2, n3⟩) (ho : ∀ a, o = some a → noteOk a = true ∧ a.name = s) (w : World) :
  Calls Tryd.prog 19 #[.string (bsOf s), .agg (ntArr n1 n2 n3), .bool o.isSome] w fun e w' => e = .returned (.tuple #[(leafV s o).1.v, (leafV s o).2.v]) ∧ St w w' [] := by
 cases o with
 | none => exact lawLeaf_no s ⟨n1, n2, n3⟩ w
 | some a =>
  obtain ⟨h1, h2⟩ := ho a rfl
  obtain rfl : a = ⟨n1, n2, n3⟩ := hn
  subst h2
  exact lawLeaf_any ⟨n1, n2, n3⟩ w h1
set_option maxHeartbeats 40000000 in
set_option maxRecDepth 100000 in
theorem logOne_any (w : World) (hT : Tb w) (n : Int) (x y z : Dig) (s : List UInt8) (hsz : s.length ≤ 140737488351232) (f : FoundN) (A1 : Option Addr) (m1 c1 : Nat) (B1 : Option Addr) (p1 q1 : Nat) (hf1 : SlR w A1 m1 c1 32 (digsL f.path)) (hf2 : SlR w B1 p1 q1 32 (digsL f.mpath)) (hf3 : -9223372036854775808 ≤ f.note.turn) (hf4 : f.note.turn ≤ 9223372036854775807)
  (g : FoundN) (A2 : Option Addr) (m2 c2 : Nat) (B2 : Option Addr) (p2 q2 : Nat) (hg1 : SlR w A2 m2 c2 32 (digsL g.path)) (hg2 : SlR w B2 p2 q2 32 (digsL g.mpath)) (hg3 : -9223372036854775808 ≤ g.note.turn) (hg4 : g.note.turn ≤ 9223372036854775807) :
  Calls Tryd.prog 4 #[.agg (hdArr n x y z), .string (bsOf s), .agg (fdArr f.note.name f.note.key f.note.turn f.at_ A1 m1 c1 B1 p1 q1), .agg (fdArr g.note.name g.note.key g.note.turn g.at_ A2 m2 c2 B2 p2 q2)] w fun e w' => e = .returned (.bool true) ∧ St w w' [] := by
 have hst := St.refl w
 have HT := Lib.hid hT
 have HL1 := Lib.hid (fun (w' : World) (ht : Tb w') (h1 : SlR w' A1 m1 c1 32 (digsL f.path)) (h2 : SlR w' B1 p1 q1 32 (digsL f.mpath)) => look_any n x y z s f A1 m1 c1 B1 p1 q1 w' ht h1 h2 hf3 hf4)
 have HL2 := Lib.hid (fun (w' : World) (ht : Tb w') (h1 : SlR w' A2 m2 c2 32 (digsL g.path)) (h2 : SlR w' B2 p2 q2 32 (digsL g.mpath)) => look_any n x y z s g A2 m2 c2 B2 p2 q2 w' ht h1 h2 hg3 hg4)
 have HF1 := Lib.hid hf1
 have HF2 := Lib.hid hf2
 have HG1 := Lib.hid hg1
 have HG2 := Lib.hid hg2
 have ho1 := fun o h => look_ok (n := n) (x := x) (y := y) (s := s) (f := f) (o := o) h
 have ho2 := fun o h => look_ok (n := n) (x := x) (y := y) (s := s) (f := g) (o := o) h
 have hl1 : f.mpath.length = p1 := by have := hf2.1; rw [length_digsL] at this; omega
 have hl2 : g.mpath.length = p2 := by have := hg2.1; rw [length_digsL] at this; omega
 clear hT hf1 hf2 hf3 hf4 hg1 hg2 hg3 hg4 hsz
 generalize lookN n x y s f = r1 at *
 generalize lookN n x y s g = r2 at *
 obtain ⟨e1, o1⟩ := r1
 obtain ⟨e2, o2⟩ := r2
 obtain ⟨a1, a2, a3, ha, hav⟩ := look_val (e1, o1)
 obtain ⟨b1, b2, b3, hb, hbv⟩ := look_val (e2, o2)
 rw [hav] at HL1
 rw [hbv] at HL2
 simp only at ha hb HL1 HL2
 obtain ⟨⟨f1, f2, f3⟩, f4, f5, f6⟩ := f
 obtain ⟨⟨g1, g2, g3⟩, g4, g5, g6⟩ := g
 simp only at *
 clear hav hbv
 have hL1 := fun (h : e1 = 0) w' => lawLeaf_of (s := s) ha (by subst h; exact (ho1 o1 rfl).2.2) w'
 have hL2 := fun (h : e2 = 0) w' => lawLeaf_of (s := s) hb (by subst h; exact (ho2 o2 rfl).2.2) w'
 have hm1 := fun (h : e1 = 0) => by subst h; exact (ho1 o1 rfl).2.1
 have hm2 := fun (h : e2 = 0) => by subst h; exact (ho2 o2 rfl).2.1
 have hnm := fun (h : e1 = 0) => by subst h; exact (ho1 o1 rfl).1
 have hz1 : o1.isSome = false → a1 = [] ∧ a2 = zeroD ∧ a3 = 0 := fun h => by
  cases o1 with
  | some n => cases h
  | none => simp only [Option.getD_none, zeroNt, NoteN.mk.injEq] at ha; exact ⟨ha.1.symm, ha.2.1.symm, ha.2.2.symm⟩
 have hz2 : o2.isSome = false → b1 = [] ∧ b2 = zeroD ∧ b3 = 0 := fun h => by
  cases o2 with
  | some n => cases h
  | none => simp only [Option.getD_none, zeroNt, NoteN.mk.injEq] at hb; exact ⟨hb.1.symm, hb.2.1.symm, hb.2.2.symm⟩
 clear ha hb ho1 ho2
 obtain ⟨⟨x1, u1⟩, hv1⟩ : ∃ v, v = leafV s o1 := ⟨_, rfl⟩
 obtain ⟨⟨x2, u2⟩, hv2⟩ : ∃ v, v = leafV s o2 := ⟨_, rfl⟩
 rw [← hv1] at hL1 hm1
 rw [← hv2] at hL2 hm2
 generalize o1.isSome = is1 at *
 generalize o2.isSome = is2 at *
 clear hv1 hv2
 simp only at hL1 hL2 hm1 hm2
 by_cases c1 : e1 = 0
 case neg =>
  have hE : errO e1 = errV e1 := if_neg c1
  rw [hE] at HL1
  unfold errV at HL1
  clear hE c1 hL1 hL2 hm1 hm2 hnm hz1 hz2
  go_enter Tryd.func4, Tryd.ntmps4
  go_upto_region 1 with (go_big_may; first | (refine L_boxA (d := some 4) rfl rfl rfl (ev_tmp rfl) ?_; (try clear hnew); intro g4 W4 hnew; replace hst := hst.trans hnew; simp only [List.cons_append, List.nil_append] at hst) | (refine L_boxA (d := some 6) rfl rfl rfl (ev_tmp rfl) ?_; (try clear hnew); intro g6 W6 hnew; replace hst := hst.trans hnew; simp only [List.cons_append, List.nil_append] at hst) | (refine L_boxA (d := some 7) rfl rfl rfl (ev_tmp rfl) ?_; (try clear hnew); intro g7 W7 hnew; replace hst := hst.trans hnew; simp only [List.cons_append, List.nil_append] at hst))
  go_upto_region 2 with (go_big_may; (go_at_call 11; refine (added_any _ (HT.out.of hst)).mono ?_; rintro e Wd ⟨rfl, hnew⟩; replace hst := hst.keep hnew; clear hnew))
  go_upto_region 4 with (go_big_may; fail)
  go_upto_region 5 with (go_big_may; first | (go_at_call 18; (try clear hnew); refine (HL1.out _ (HT.out.of hst) (hst.old (by decide) HF1.out) (hst.old (by decide) HF2.out)).mono ?_; rintro e Wk1 ⟨rfl, hnew⟩; replace hst := hst.keep hnew) | ((refine L_loadA (d := some 25) rfl rfl rfl (by rfl) Tryd.underlying32 rfl el_api_Head (by (exact hst.get 2 rfl)) (by (exact hdArr_size _ _ _ _)) ?_)) | ((refine L_loadA (d := some 27) rfl rfl rfl (by rfl) Tryd.underlying44 rfl el_api_Found (by (exact hst.get 1 rfl)) (by (exact fdArr_size _ _ _ _ _ _ _ _ _ _)) ?_)) | (refine L_allocA (d := some 10) rfl rfl rfl el_api_Note ?_; (try clear hnew); intro g10 W10 hnew; replace hst := hst.trans hnew; simp only [List.cons_append, List.nil_append] at hst) | (refine wpl_at (.store 35 (.tmp 10) (.tmp 29)) rfl ?_; (refine L_storeA rfl rfl hst rfl (by rfl) (ev_tmp rfl) (by (exact ntArr_all _ _ _)) el_api_Note (by (exact ntArr_size _ _ _)) 0 rfl (by (rfl)) ?_; clear hst; intro WS9 hst; simp only [List.set_cons_zero, List.set_cons_succ] at hst)))
  go_upto_region 6 with (go_big_may; first | (go_at_call 18; (try clear hnew); refine (HL2.out _ (HT.out.of hst) (hst.old (by decide) HG1.out) (hst.old (by decide) HG2.out)).mono ?_; rintro e Wk2 ⟨rfl, hnew⟩; replace hst := hst.keep hnew) | ((refine L_loadA (d := some 33) rfl rfl rfl (by rfl) Tryd.underlying32 rfl el_api_Head (by (exact hst.get 3 rfl)) (by (exact hdArr_size _ _ _ _)) ?_)) | ((refine L_loadA (d := some 35) rfl rfl rfl (by rfl) Tryd.underlying44 rfl el_api_Found (by (exact hst.get 1 rfl)) (by (exact fdArr_size _ _ _ _ _ _ _ _ _ _)) ?_)) | (refine L_allocA (d := some 13) rfl rfl rfl el_api_Note ?_; (try clear hnew); intro g13 W13 hnew; replace hst := hst.trans hnew; simp only [List.cons_append, List.nil_append] at hst) | (refine wpl_at (.store 35 (.tmp 13) (.tmp 37)) rfl ?_; (refine L_storeA rfl rfl hst rfl (by rfl) (ev_tmp rfl) (by (exact ntArr_all _ _ _)) el_api_Note (by (exact ntArr_size _ _ _)) 0 rfl (by (rfl)) ?_; clear hst; intro WS9 hst; simp only [List.set_cons_zero, List.set_cons_succ] at hst)))
  go_upto_region 7 with (first | (with_reducible refine L_pass (t := 43) rfl (by kernel_rfl) ?_) | (with_reducible refine L_pass (t := 44) rfl (by kernel_rfl) ?_) | (with_reducible refine L_pass (t := 47) rfl (by kernel_rfl) ?_) | (with_reducible refine L_pass (t := 48) rfl (by kernel_rfl) ?_) | (with_reducible refine L_pass (t := 49) rfl (by kernel_rfl) ?_) | (with_reducible refine L_pass (t := 50) rfl (by kernel_rfl) ?_) | (with_reducible refine L_pass (t := 51) rfl (by kernel_rfl) ?_) | (with_reducible refine L_pass (t := 52) rfl (by kernel_rfl) ?_) | (with_reducible refine L_pass (t := 53) rfl (by kernel_rfl) ?_) | (with_reducible refine L_pass (t := 54) rfl (by kernel_rfl) ?_))
  go_wp2_with (fail)
  go_ret
  exact ⟨rfl, hst.forget⟩
 have hE : errO e1 = .nilIface := by rw [c1]; rfl
 rw [hE] at HL1
 clear hE
 by_cases c2 : e2 = 0
 case neg =>
  have hE : errO e2 = errV e2 := if_neg c2
  rw [hE] at HL2
  unfold errV at HL2
  clear hE c1 c2 hL1 hL2 hm1 hm2 hnm hz1 hz2
  go_enter Tryd.func4, Tryd.ntmps4
  go_upto_region 1 with (go_big_may; first | (refine L_boxA (d := some 4) rfl rfl rfl (ev_tmp rfl) ?_; (try clear hnew); intro g4 W4 hnew; replace hst := hst.trans hnew; simp only [List.cons_append, List.nil_append] at hst) | (refine L_boxA (d := some 6) rfl rfl rfl (ev_tmp rfl) ?_; (try clear hnew); intro g6 W6 hnew; replace hst := hst.trans hnew; simp only [List.cons_append, List.nil_append] at hst) | (refine L_boxA (d := some 7) rfl rfl rfl (ev_tmp rfl) ?_; (try clear hnew); intro g7 W7 hnew; replace hst := hst.trans hnew; simp only [List.cons_append, List.nil_append] at hst))
  go_upto_region 2 with (go_big_may; (go_at_call 11; refine (added_any _ (HT.out.of hst)).mono ?_; rintro e Wd ⟨rfl, hnew⟩; replace hst := hst.keep hnew; clear hnew))
  go_upto_region 4 with (go_big_may; fail)
  go_upto_region 5 with (go_big_may; first | (go_at_call 18; (try clear hnew); refine (HL1.out _ (HT.out.of hst) (hst.old (by decide) HF1.out) (hst.old (by decide) HF2.out)).mono ?_; rintro e Wk3 ⟨rfl, hnew⟩; replace hst := hst.keep hnew) | ((refine L_loadA (d := some 25) rfl rfl rfl (by rfl) Tryd.underlying32 rfl el_api_Head (by (exact hst.get 2 rfl)) (by (exact hdArr_size _ _ _ _)) ?_)) | ((refine L_loadA (d := some 27) rfl rfl rfl (by rfl) Tryd.underlying44 rfl el_api_Found (by (exact hst.get 1 rfl)) (by (exact fdArr_size _ _ _ _ _ _ _ _ _ _)) ?_)) | (refine L_allocA (d := some 10) rfl rfl rfl el_api_Note ?_; (try clear hnew); intro g10 W10 hnew; replace hst := hst.trans hnew; simp only [List.cons_append, List.nil_append] at hst) | (refine wpl_at (.store 35 (.tmp 10) (.tmp 29)) rfl ?_; (refine L_storeA rfl rfl hst rfl (by rfl) (ev_tmp rfl) (by (exact ntArr_all _ _ _)) el_api_Note (by (exact ntArr_size _ _ _)) 0 rfl (by (rfl)) ?_; clear hst; intro WS9 hst; simp only [List.set_cons_zero, List.set_cons_succ] at hst)))
  go_upto_region 6 with (go_big_may; first | (go_at_call 18; (try clear hnew); refine (HL2.out _ (HT.out.of hst) (hst.old (by decide) HG1.out) (hst.old (by decide) HG2.out)).mono ?_; rintro e Wk4 ⟨rfl, hnew⟩; replace hst := hst.keep hnew) | ((refine L_loadA (d := some 33) rfl rfl rfl (by rfl) Tryd.underlying32 rfl el_api_Head (by (exact hst.get 3 rfl)) (by (exact hdArr_size _ _ _ _)) ?_)) | ((refine L_loadA (d := some 35) rfl rfl rfl (by rfl) Tryd.underlying44 rfl el_api_Found (by (exact hst.get 1 rfl)) (by (exact fdArr_size _ _ _ _ _ _ _ _ _ _)) ?_)) | (refine L_allocA (d := some 13) rfl rfl rfl el_api_Note ?_; (try clear hnew); intro g13 W13 hnew; replace hst := hst.trans hnew; simp only [List.cons_append, List.nil_append] at hst) | (refine wpl_at (.store 35 (.tmp 13) (.tmp 37)) rfl ?_; (refine L_storeA rfl rfl hst rfl (by rfl) (ev_tmp rfl) (by (exact ntArr_all _ _ _)) el_api_Note (by (exact ntArr_size _ _ _)) 0 rfl (by (rfl)) ?_; clear hst; intro WS9 hst; simp only [List.set_cons_zero, List.set_cons_succ] at hst)))
  go_upto_region 7 with (first | (with_reducible refine L_pass (t := 47) rfl (by kernel_rfl) ?_) | (with_reducible refine L_pass (t := 48) rfl (by kernel_rfl) ?_) | (with_reducible refine L_pass (t := 49) rfl (by kernel_rfl) ?_) | (with_reducible refine L_pass (t := 50) rfl (by kernel_rfl) ?_) | (with_reducible refine L_pass (t := 51) rfl (by kernel_rfl) ?_) | (with_reducible refine L_pass (t := 52) rfl (by kernel_rfl) ?_) | (with_reducible refine L_pass (t := 53) rfl (by kernel_rfl) ?_) | (with_reducible refine L_pass (t := 54) rfl (by kernel_rfl) ?_))
  go_wp2_with (fail)
  go_ret
  exact ⟨rfl, hst.forget⟩
 have hE : errO e2 = .nilIface := by rw [c2]; rfl
 rw [hE] at HL2
 clear hE
 have hs30 := (isNm_len (hnm c1)).2
 have HI := Lib.hid (fun w' => rindex_any s w' (by omega))
 have HLa := Lib.hid (hL1 c1)
 have HLb := Lib.hid (hL2 c2)
 have hq1 := hm1 c1
 have hq2 := hm2 c2
 obtain rfl : p1 = 32 := by rw [← hl1]; exact hq1.1
 obtain rfl : p2 = 32 := by rw [← hl2]; exact hq2.1
 have HMc := Lib.hid (fun (hne : u1 ≠ u2) (w' : World) (h1 : SlR w' B1 32 q1 32 (digsL f6)) (h2 : SlR w' B2 32 q2 32 (digsL g6)) => mclash_any (idxN s) u1 u2 f6 g6 B1 q1 B2 q2 w' h1 h2 (idxN_lt s) (mClash_of f6 g6 (idxN s) u1 u2 hne (by omega) (hq1.2.trans hq2.2.symm)))
 clear hL1 hL2 hm1 hm2 hnm hs30 hq1 hq2 hl1 hl2
 generalize idxN s = ix at *
 clear c1 c2
 have HEq := Lib.hid (fun w => eqNote a1 b1 a2 b2 a3 b3 w)
 cases is1 with
 | false =>
  obtain ⟨rfl, rfl, rfl⟩ := hz1 rfl
  cases is2 with
  | false =>
   obtain ⟨rfl, rfl, rfl⟩ := hz2 rfl
   have HEq2 := Lib.hid (fun w => show (Op.equalIn 10000 35 (.agg (ntArr [] zeroD 0)) (.agg (ntArr [] zeroD 0))).run Tryd.prog w = .ok true w by rw [eqNote]; simp)
   clear hz1 hz2 HEq
   go_enter Tryd.func4, Tryd.ntmps4
   go_upto_region 1 with (go_big_may; first | (refine L_boxA (d := some 4) rfl rfl rfl (ev_tmp rfl) ?_; (try clear hnew); intro g4 W4 hnew; replace hst := hst.trans hnew; simp only [List.cons_append, List.nil_append] at hst) | (refine L_boxA (d := some 6) rfl rfl rfl (ev_tmp rfl) ?_; (try clear hnew); intro g6 W6 hnew; replace hst := hst.trans hnew; simp only [List.cons_append, List.nil_append] at hst) | (refine L_boxA (d := some 7) rfl rfl rfl (ev_tmp rfl) ?_; (try clear hnew); intro g7 W7 hnew; replace hst := hst.trans hnew; simp only [List.cons_append, List.nil_append] at hst))
   go_upto_region 2 with (go_big_may; (go_at_call 11; refine (added_any _ (HT.out.of hst)).mono ?_; rintro e Wd ⟨rfl, hnew⟩; replace hst := hst.keep hnew; clear hnew))
   go_upto_region 4 with (go_big_may; fail)
   go_upto_region 5 with (go_big_may; first | (go_at_call 18; (try clear hnew); refine (HL1.out _ (HT.out.of hst) (hst.old (by decide) HF1.out) (hst.old (by decide) HF2.out)).mono ?_; rintro e Wk5 ⟨rfl, hnew⟩; replace hst := hst.keep hnew) | ((refine L_loadA (d := some 25) rfl rfl rfl (by rfl) Tryd.underlying32 rfl el_api_Head (by (exact hst.get 2 rfl)) (by (exact hdArr_size _ _ _ _)) ?_)) | ((refine L_loadA (d := some 27) rfl rfl rfl (by rfl) Tryd.underlying44 rfl el_api_Found (by (exact hst.get 1 rfl)) (by (exact fdArr_size _ _ _ _ _ _ _ _ _ _)) ?_)) | (refine L_allocA (d := some 10) rfl rfl rfl el_api_Note ?_; (try clear hnew); intro g10 W10 hnew; replace hst := hst.trans hnew; simp only [List.cons_append, List.nil_append] at hst) | (refine wpl_at (.store 35 (.tmp 10) (.tmp 29)) rfl ?_; (refine L_storeA rfl rfl hst rfl (by rfl) (ev_tmp rfl) (by (exact ntArr_all _ _ _)) el_api_Note (by (rfl)) 0 rfl (by (rfl)) ?_; clear hst; intro WS9 hst; simp only [List.set_cons_zero, List.set_cons_succ] at hst)))
   go_upto_region 6 with (go_big_may; first | (go_at_call 18; (try clear hnew); refine (HL2.out _ (HT.out.of hst) (hst.old (by decide) HG1.out) (hst.old (by decide) HG2.out)).mono ?_; rintro e Wk6 ⟨rfl, hnew⟩; replace hst := hst.keep hnew) | ((refine L_loadA (d := some 33) rfl rfl rfl (by rfl) Tryd.underlying32 rfl el_api_Head (by (exact hst.get 3 rfl)) (by (exact hdArr_size _ _ _ _)) ?_)) | ((refine L_loadA (d := some 35) rfl rfl rfl (by rfl) Tryd.underlying44 rfl el_api_Found (by (exact hst.get 1 rfl)) (by (exact fdArr_size _ _ _ _ _ _ _ _ _ _)) ?_)) | (refine L_allocA (d := some 13) rfl rfl rfl el_api_Note ?_; (try clear hnew); intro g13 W13 hnew; replace hst := hst.trans hnew; simp only [List.cons_append, List.nil_append] at hst) | (refine wpl_at (.store 35 (.tmp 13) (.tmp 37)) rfl ?_; (refine L_storeA rfl rfl hst rfl (by rfl) (ev_tmp rfl) (by (exact ntArr_all _ _ _)) el_api_Note (by (rfl)) 0 rfl (by (rfl)) ?_; clear hst; intro WS9 hst; simp only [List.set_cons_zero, List.set_cons_succ] at hst)))
   go_upto_region 7 with (go_big_may; first | (refine L_eqA (d := some 53) rfl rfl rfl eqG_Note (ev_tmp rfl) (ev_tmp rfl) (HEq2.out _) ?_) | ((refine L_loadA (d := some 51) rfl rfl rfl (by rfl) Tryd.underlying35 rfl el_api_Note (by (exact hst.get 1 rfl)) (by (exact ntArr_size _ _ _)) ?_)) | ((refine L_loadA (d := some 52) rfl rfl rfl (by rfl) Tryd.underlying35 rfl el_api_Note (by (exact hst.get 0 rfl)) (by (exact ntArr_size _ _ _)) ?_)))
   go_wp2_with (fail)
   go_ret
   exact ⟨rfl, hst.forget⟩
  | true =>
   clear hz1 hz2 HEq
   go_enter Tryd.func4, Tryd.ntmps4
   go_upto_region 1 with (go_big_may; first | (refine L_boxA (d := some 4) rfl rfl rfl (ev_tmp rfl) ?_; (try clear hnew); intro g4 W4 hnew; replace hst := hst.trans hnew; simp only [List.cons_append, List.nil_append] at hst) | (refine L_boxA (d := some 6) rfl rfl rfl (ev_tmp rfl) ?_; (try clear hnew); intro g6 W6 hnew; replace hst := hst.trans hnew; simp only [List.cons_append, List.nil_append] at hst) | (refine L_boxA (d := some 7) rfl rfl rfl (ev_tmp rfl) ?_; (try clear hnew); intro g7 W7 hnew; replace hst := hst.trans hnew; simp only [List.cons_append, List.nil_append] at hst))
   go_upto_region 2 with (go_big_may; (go_at_call 11; refine (added_any _ (HT.out.of hst)).mono ?_; rintro e Wd ⟨rfl, hnew⟩; replace hst := hst.keep hnew; clear hnew))
   go_upto_region 4 with (go_big_may; fail)
   go_upto_region 5 with (go_big_may; first | (go_at_call 18; (try clear hnew); refine (HL1.out _ (HT.out.of hst) (hst.old (by decide) HF1.out) (hst.old (by decide) HF2.out)).mono ?_; rintro e Wk7 ⟨rfl, hnew⟩; replace hst := hst.keep hnew) | ((refine L_loadA (d := some 25) rfl rfl rfl (by rfl) Tryd.underlying32 rfl el_api_Head (by (exact hst.get 2 rfl)) (by (exact hdArr_size _ _ _ _)) ?_)) | ((refine L_loadA (d := some 27) rfl rfl rfl (by rfl) Tryd.underlying44 rfl el_api_Found (by (exact hst.get 1 rfl)) (by (exact fdArr_size _ _ _ _ _ _ _ _ _ _)) ?_)) | (refine L_allocA (d := some 10) rfl rfl rfl el_api_Note ?_; (try clear hnew); intro g10 W10 hnew; replace hst := hst.trans hnew; simp only [List.cons_append, List.nil_append] at hst) | (refine wpl_at (.store 35 (.tmp 10) (.tmp 29)) rfl ?_; (refine L_storeA rfl rfl hst rfl (by rfl) (ev_tmp rfl) (by (exact ntArr_all _ _ _)) el_api_Note (by (rfl)) 0 rfl (by (rfl)) ?_; clear hst; intro WS9 hst; simp only [List.set_cons_zero, List.set_cons_succ] at hst)))
   go_upto_region 6 with (go_big_may; first | (go_at_call 18; (try clear hnew); refine (HL2.out _ (HT.out.of hst) (hst.old (by decide) HG1.out) (hst.old (by decide) HG2.out)).mono ?_; rintro e Wk8 ⟨rfl, hnew⟩; replace hst := hst.keep hnew) | ((refine L_loadA (d := some 33) rfl rfl rfl (by rfl) Tryd.underlying32 rfl el_api_Head (by (exact hst.get 3 rfl)) (by (exact hdArr_size _ _ _ _)) ?_)) | ((refine L_loadA (d := some 35) rfl rfl rfl (by rfl) Tryd.underlying44 rfl el_api_Found (by (exact hst.get 1 rfl)) (by (exact fdArr_size _ _ _ _ _ _ _ _ _ _)) ?_)) | (refine L_allocA (d := some 13) rfl rfl rfl el_api_Note ?_; (try clear hnew); intro g13 W13 hnew; replace hst := hst.trans hnew; simp only [List.cons_append, List.nil_append] at hst) | (refine wpl_at (.store 35 (.tmp 13) (.tmp 37)) rfl ?_; (refine L_storeA rfl rfl hst rfl (by rfl) (ev_tmp rfl) (by (exact ntArr_all _ _ _)) el_api_Note (by (exact ntArr_size _ _ _)) 0 rfl (by (rfl)) ?_; clear hst; intro WS9 hst; simp only [List.set_cons_zero, List.set_cons_succ] at hst)))
   go_upto_region 8 with (first | (with_reducible refine L_pass (t := 51) rfl (by kernel_rfl) ?_) | (with_reducible refine L_pass (t := 52) rfl (by kernel_rfl) ?_) | (with_reducible refine L_pass (t := 53) rfl (by kernel_rfl) ?_))
   by_cases hab : u1 = u2
   ·have HAB := Lib.hid (show decide (u1 = u2) = true from decide_eq_true hab)
    clear hab
    go_upto_region 9 with (go_big_may; first | (go_at_call 19; (try clear hnew); refine (HLa.out _).mono ?_; rintro e Wk9 ⟨rfl, hnew⟩; replace hst := hst.keep hnew) | ((refine L_loadA (d := some 58) rfl rfl rfl (by rfl) Tryd.underlying35 rfl el_api_Note (by (exact hst.get 1 rfl)) (by (exact ntArr_size _ _ _)) ?_)) | (refine L_allocA (d := some 16) rfl rfl rfl el_api_Digest ?_; (try clear hnew); intro g16 W16 hnew; replace hst := hst.trans hnew; simp only [List.cons_append, List.nil_append] at hst) | (refine L_allocA (d := some 17) rfl rfl rfl el_api_Digest ?_; (try clear hnew); intro g17 W17 hnew; replace hst := hst.trans hnew; simp only [List.cons_append, List.nil_append] at hst) | (refine wpl_at (.store 30 (.tmp 16) (.tmp 61)) rfl ?_; (refine L_storeA rfl rfl hst rfl (by rfl) (ev_tmp rfl) (by (exact Dig.one _)) el_api_Digest (by (exact Dig.size _)) 1 rfl (by (rfl)) ?_; clear hst; intro WS9 hst; simp only [List.set_cons_zero, List.set_cons_succ] at hst)) | (refine wpl_at (.store 30 (.tmp 17) (.tmp 62)) rfl ?_; (refine L_storeA rfl rfl hst rfl (by rfl) (ev_tmp rfl) (by (exact Dig.one _)) el_api_Digest (by (exact Dig.size _)) 0 rfl (by (rfl)) ?_; clear hst; intro WS10 hst; simp only [List.set_cons_zero, List.set_cons_succ] at hst)))
    go_upto_region 10 with (go_big_may; first | (go_at_call 19; (try clear hnew); refine (HLb.out _).mono ?_; rintro e Wk10 ⟨rfl, hnew⟩; replace hst := hst.keep hnew) | ((refine L_loadA (d := some 65) rfl rfl rfl (by rfl) Tryd.underlying35 rfl el_api_Note (by (exact hst.get 2 rfl)) (by (exact ntArr_size _ _ _)) ?_)) | (refine L_allocA (d := some 18) rfl rfl rfl el_api_Digest ?_; (try clear hnew); intro g18 W18 hnew; replace hst := hst.trans hnew; simp only [List.cons_append, List.nil_append] at hst) | (refine L_allocA (d := some 19) rfl rfl rfl el_api_Digest ?_; (try clear hnew); intro g19 W19 hnew; replace hst := hst.trans hnew; simp only [List.cons_append, List.nil_append] at hst) | (refine wpl_at (.store 30 (.tmp 18) (.tmp 68)) rfl ?_; (refine L_storeA rfl rfl hst rfl (by rfl) (ev_tmp rfl) (by (exact Dig.one _)) el_api_Digest (by (exact Dig.size _)) 1 rfl (by (rfl)) ?_; clear hst; intro WS9 hst; simp only [List.set_cons_zero, List.set_cons_succ] at hst)) | (refine wpl_at (.store 30 (.tmp 19) (.tmp 69)) rfl ?_; (refine L_storeA rfl rfl hst rfl (by rfl) (ev_tmp rfl) (by (exact Dig.one _)) el_api_Digest (by (exact Dig.size _)) 0 rfl (by (rfl)) ?_; clear hst; intro WS10 hst; simp only [List.set_cons_zero, List.set_cons_succ] at hst)))
    go_upto_region 11 with (first | (with_reducible refine L_pass (t := 75) rfl (by kernel_rfl) ?_) | (with_reducible refine L_pass (t := 76) rfl (by kernel_rfl) ?_) | (with_reducible refine L_pass (t := 77) rfl (by kernel_rfl) ?_) | (go_big_may; first | ((refine L_loadA (d := some 80) rfl rfl rfl (by rfl) Tryd.underlying30 rfl el_api_Digest (by (exact hst.get 2 rfl)) (by (exact Dig.size _)) ?_)) | ((refine L_loadA (d := some 81) rfl rfl rfl (by rfl) Tryd.underlying30 rfl el_api_Digest (by (exact hst.get 0 rfl)) (by (exact Dig.size _)) ?_)) | (refine L_eqD (d := some 82) rfl rfl rfl Tryd.underlying30 Tryd.underlying5 el_uint8 eqG_D (ev_tmp rfl) (ev_tmp rfl) ?_; (try rw [HAB.out]))))
    go_wp2_with (fail)
    go_ret
    exact ⟨rfl, hst.forget⟩
   have HAB := Lib.hid (show decide (u1 = u2) = false from decide_eq_false hab)
   go_upto_region 9 with (go_big_may; first | (go_at_call 19; (try clear hnew); refine (HLa.out _).mono ?_; rintro e Wk11 ⟨rfl, hnew⟩; replace hst := hst.keep hnew) | ((refine L_loadA (d := some 58) rfl rfl rfl (by rfl) Tryd.underlying35 rfl el_api_Note (by (exact hst.get 1 rfl)) (by (exact ntArr_size _ _ _)) ?_)) | (refine L_allocA (d := some 16) rfl rfl rfl el_api_Digest ?_; (try clear hnew); intro g16 W16 hnew; replace hst := hst.trans hnew; simp only [List.cons_append, List.nil_append] at hst) | (refine L_allocA (d := some 17) rfl rfl rfl el_api_Digest ?_; (try clear hnew); intro g17 W17 hnew; replace hst := hst.trans hnew; simp only [List.cons_append, List.nil_append] at hst) | (refine wpl_at (.store 30 (.tmp 16) (.tmp 61)) rfl ?_; (refine L_storeA rfl rfl hst rfl (by rfl) (ev_tmp rfl) (by (exact Dig.one _)) el_api_Digest (by (exact Dig.size _)) 1 rfl (by (rfl)) ?_; clear hst; intro WS9 hst; simp only [List.set_cons_zero, List.set_cons_succ] at hst)) | (refine wpl_at (.store 30 (.tmp 17) (.tmp 62)) rfl ?_; (refine L_storeA rfl rfl hst rfl (by rfl) (ev_tmp rfl) (by (exact Dig.one _)) el_api_Digest (by (exact Dig.size _)) 0 rfl (by (rfl)) ?_; clear hst; intro WS10 hst; simp only [List.set_cons_zero, List.set_cons_succ] at hst)))
   go_upto_region 10 with (go_big_may; first | (go_at_call 19; (try clear hnew); refine (HLb.out _).mono ?_; rintro e Wk12 ⟨rfl, hnew⟩; replace hst := hst.keep hnew) | ((refine L_loadA (d := some 65) rfl rfl rfl (by rfl) Tryd.underlying35 rfl el_api_Note (by (exact hst.get 2 rfl)) (by (exact ntArr_size _ _ _)) ?_)) | (refine L_allocA (d := some 18) rfl rfl rfl el_api_Digest ?_; (try clear hnew); intro g18 W18 hnew; replace hst := hst.trans hnew; simp only [List.cons_append, List.nil_append] at hst) | (refine L_allocA (d := some 19) rfl rfl rfl el_api_Digest ?_; (try clear hnew); intro g19 W19 hnew; replace hst := hst.trans hnew; simp only [List.cons_append, List.nil_append] at hst) | (refine wpl_at (.store 30 (.tmp 18) (.tmp 68)) rfl ?_; (refine L_storeA rfl rfl hst rfl (by rfl) (ev_tmp rfl) (by (exact Dig.one _)) el_api_Digest (by (exact Dig.size _)) 1 rfl (by (rfl)) ?_; clear hst; intro WS9 hst; simp only [List.set_cons_zero, List.set_cons_succ] at hst)) | (refine wpl_at (.store 30 (.tmp 19) (.tmp 69)) rfl ?_; (refine L_storeA rfl rfl hst rfl (by rfl) (ev_tmp rfl) (by (exact Dig.one _)) el_api_Digest (by (exact Dig.size _)) 0 rfl (by (rfl)) ?_; clear hst; intro WS10 hst; simp only [List.set_cons_zero, List.set_cons_succ] at hst)))
   go_upto_region 12 with (first | (with_reducible refine L_pass (t := 75) rfl (by kernel_rfl) ?_) | (with_reducible refine L_pass (t := 76) rfl (by kernel_rfl) ?_) | (with_reducible refine L_pass (t := 77) rfl (by kernel_rfl) ?_) | (go_big_may; first | ((refine L_loadA (d := some 80) rfl rfl rfl (by rfl) Tryd.underlying30 rfl el_api_Digest (by (exact hst.get 2 rfl)) (by (exact Dig.size _)) ?_)) | ((refine L_loadA (d := some 81) rfl rfl rfl (by rfl) Tryd.underlying30 rfl el_api_Digest (by (exact hst.get 0 rfl)) (by (exact Dig.size _)) ?_)) | (refine L_eqD (d := some 82) rfl rfl rfl Tryd.underlying30 Tryd.underlying5 el_uint8 eqG_D (ev_tmp rfl) (ev_tmp rfl) ?_; (try rw [HAB.out]))))
   clear hnew
   refine wp_region_idx [(0, 0), (2, 0), (3, 0), (4, 0), (5, 0), (6, 0), (7, 0), (1, 2), (8, 2), (9, 2)] (by kernel_rfl) (by kernel_rfl) ?_
   replace hst := hst.drew
   refine idx_q rfl rfl ?_; go_wp2_with fail
   refine idx_q rfl rfl ?_; go_wp2_with (((refine L_loadA (d := some 86) rfl rfl rfl (by rfl) Tryd.underlying30 rfl el_api_Digest (by (exact hst.get 2 rfl)) (by (exact Dig.size _)) ?_)))
   refine idx_qf rfl rfl (by kernel_rfl) ?_; go_wp2_with fail
   refine idx_q rfl rfl ?_; go_wp2_with ((refine L_load1 (d := some 88) rfl rfl rfl (by rfl) Tryd.underlying36 rfl (by (exact cell_of (hst.get 7 rfl) fdArr_36)) ?_))
   refine idx_q rfl rfl ?_; go_wp2_with (((refine L_loadA (d := some 89) rfl rfl rfl (by rfl) Tryd.underlying30 rfl el_api_Digest (by (exact hst.get 0 rfl)) (by (exact Dig.size _)) ?_)))
   refine idx_qf rfl rfl (by kernel_rfl) ?_; go_wp2_with fail
   refine idx_q rfl rfl ?_; go_wp2_with ((refine L_load1 (d := some 91) rfl rfl rfl (by rfl) Tryd.underlying36 rfl (by (exact cell_of (hst.get 6 rfl) fdArr_36)) ?_))
   refine idx_g rfl ?_; go_wp2_with ((go_at_call 21; (try clear hnew); refine (HI.out _).mono ?_; rintro e Wk13 ⟨rfl, hnew⟩; replace hst := hst.keep hnew)); refine ⟨by (exact hnew.below), ?_⟩
   refine idx_g rfl ?_; go_wp2_with ((go_at_call 20; (try clear hnew); refine (HMc.out hab _ (hst.old (by decide) HF2.out) (hst.old (by decide) HG2.out)).mono ?_; rintro e Wk14 ⟨rfl, hnew⟩; replace hst := hst.keep hnew)); refine ⟨by (exact hnew.below), ?_⟩
   refine idx_g rfl ?_; go_wp2_with fail; refine ⟨by (exact Below.refl _ _), ?_⟩
   refine idx_nil ?_
   go_wp2_with fail
   go_ret
   exact ⟨rfl, hst.forget⟩
 | true =>
  cases is2 with
  | false =>
   clear hz1 hz2 HEq
   go_enter Tryd.func4, Tryd.ntmps4
   go_upto_region 1 with (go_big_may; first | (refine L_boxA (d := some 4) rfl rfl rfl (ev_tmp rfl) ?_; (try clear hnew); intro g4 W4 hnew; replace hst := hst.trans hnew; simp only [List.cons_append, List.nil_append] at hst) | (refine L_boxA (d := some 6) rfl rfl rfl (ev_tmp rfl) ?_; (try clear hnew); intro g6 W6 hnew; replace hst := hst.trans hnew; simp only [List.cons_append, List.nil_append] at hst) | (refine L_boxA (d := some 7) rfl rfl rfl (ev_tmp rfl) ?_; (try clear hnew); intro g7 W7 hnew; replace hst := hst.trans hnew; simp only [List.cons_append, List.nil_append] at hst))
   go_upto_region 2 with (go_big_may; (go_at_call 11; refine (added_any _ (HT.out.of hst)).mono ?_; rintro e Wd ⟨rfl, hnew⟩; replace hst := hst.keep hnew; clear hnew))
   go_upto_region 4 with (go_big_may; fail)
   go_upto_region 5 with (go_big_may; first | (go_at_call 18; (try clear hnew); refine (HL1.out _ (HT.out.of hst) (hst.old (by decide) HF1.out) (hst.old (by decide) HF2.out)).mono ?_; rintro e Wk15 ⟨rfl, hnew⟩; replace hst := hst.keep hnew) | ((refine L_loadA (d := some 25) rfl rfl rfl (by rfl) Tryd.underlying32 rfl el_api_Head (by (exact hst.get 2 rfl)) (by (exact hdArr_size _ _ _ _)) ?_)) | ((refine L_loadA (d := some 27) rfl rfl rfl (by rfl) Tryd.underlying44 rfl el_api_Found (by (exact hst.get 1 rfl)) (by (exact fdArr_size _ _ _ _ _ _ _ _ _ _)) ?_)) | (refine L_allocA (d := some 10) rfl rfl rfl el_api_Note ?_; (try clear hnew); intro g10 W10 hnew; replace hst := hst.trans hnew; simp only [List.cons_append, List.nil_append] at hst) | (refine wpl_at (.store 35 (.tmp 10) (.tmp 29)) rfl ?_; (refine L_storeA rfl rfl hst rfl (by rfl) (ev_tmp rfl) (by (exact ntArr_all _ _ _)) el_api_Note (by (exact ntArr_size _ _ _)) 0 rfl (by (rfl)) ?_; clear hst; intro WS9 hst; simp only [List.set_cons_zero, List.set_cons_succ] at hst)))
   go_upto_region 6 with (go_big_may; first | (go_at_call 18; (try clear hnew); refine (HL2.out _ (HT.out.of hst) (hst.old (by decide) HG1.out) (hst.old (by decide) HG2.out)).mono ?_; rintro e Wk16 ⟨rfl, hnew⟩; replace hst := hst.keep hnew) | ((refine L_loadA (d := some 33) rfl rfl rfl (by rfl) Tryd.underlying32 rfl el_api_Head (by (exact hst.get 3 rfl)) (by (exact hdArr_size _ _ _ _)) ?_)) | ((refine L_loadA (d := some 35) rfl rfl rfl (by rfl) Tryd.underlying44 rfl el_api_Found (by (exact hst.get 1 rfl)) (by (exact fdArr_size _ _ _ _ _ _ _ _ _ _)) ?_)) | (refine L_allocA (d := some 13) rfl rfl rfl el_api_Note ?_; (try clear hnew); intro g13 W13 hnew; replace hst := hst.trans hnew; simp only [List.cons_append, List.nil_append] at hst) | (refine wpl_at (.store 35 (.tmp 13) (.tmp 37)) rfl ?_; (refine L_storeA rfl rfl hst rfl (by rfl) (ev_tmp rfl) (by (exact ntArr_all _ _ _)) el_api_Note (by (exact ntArr_size _ _ _)) 0 rfl (by (rfl)) ?_; clear hst; intro WS9 hst; simp only [List.set_cons_zero, List.set_cons_succ] at hst)))
   go_upto_region 8 with (first | (with_reducible refine L_pass (t := 51) rfl (by kernel_rfl) ?_) | (with_reducible refine L_pass (t := 52) rfl (by kernel_rfl) ?_) | (with_reducible refine L_pass (t := 53) rfl (by kernel_rfl) ?_))
   by_cases hab : u1 = u2
   ·have HAB := Lib.hid (show decide (u1 = u2) = true from decide_eq_true hab)
    clear hab
    go_upto_region 9 with (go_big_may; first | (go_at_call 19; (try clear hnew); refine (HLa.out _).mono ?_; rintro e Wk17 ⟨rfl, hnew⟩; replace hst := hst.keep hnew) | ((refine L_loadA (d := some 58) rfl rfl rfl (by rfl) Tryd.underlying35 rfl el_api_Note (by (exact hst.get 1 rfl)) (by (exact ntArr_size _ _ _)) ?_)) | (refine L_allocA (d := some 16) rfl rfl rfl el_api_Digest ?_; (try clear hnew); intro g16 W16 hnew; replace hst := hst.trans hnew; simp only [List.cons_append, List.nil_append] at hst) | (refine L_allocA (d := some 17) rfl rfl rfl el_api_Digest ?_; (try clear hnew); intro g17 W17 hnew; replace hst := hst.trans hnew; simp only [List.cons_append, List.nil_append] at hst) | (refine wpl_at (.store 30 (.tmp 16) (.tmp 61)) rfl ?_; (refine L_storeA rfl rfl hst rfl (by rfl) (ev_tmp rfl) (by (exact Dig.one _)) el_api_Digest (by (exact Dig.size _)) 1 rfl (by (rfl)) ?_; clear hst; intro WS9 hst; simp only [List.set_cons_zero, List.set_cons_succ] at hst)) | (refine wpl_at (.store 30 (.tmp 17) (.tmp 62)) rfl ?_; (refine L_storeA rfl rfl hst rfl (by rfl) (ev_tmp rfl) (by (exact Dig.one _)) el_api_Digest (by (exact Dig.size _)) 0 rfl (by (rfl)) ?_; clear hst; intro WS10 hst; simp only [List.set_cons_zero, List.set_cons_succ] at hst)))
    go_upto_region 10 with (go_big_may; first | (go_at_call 19; (try clear hnew); refine (HLb.out _).mono ?_; rintro e Wk18 ⟨rfl, hnew⟩; replace hst := hst.keep hnew) | ((refine L_loadA (d := some 65) rfl rfl rfl (by rfl) Tryd.underlying35 rfl el_api_Note (by (exact hst.get 2 rfl)) (by (exact ntArr_size _ _ _)) ?_)) | (refine L_allocA (d := some 18) rfl rfl rfl el_api_Digest ?_; (try clear hnew); intro g18 W18 hnew; replace hst := hst.trans hnew; simp only [List.cons_append, List.nil_append] at hst) | (refine L_allocA (d := some 19) rfl rfl rfl el_api_Digest ?_; (try clear hnew); intro g19 W19 hnew; replace hst := hst.trans hnew; simp only [List.cons_append, List.nil_append] at hst) | (refine wpl_at (.store 30 (.tmp 18) (.tmp 68)) rfl ?_; (refine L_storeA rfl rfl hst rfl (by rfl) (ev_tmp rfl) (by (exact Dig.one _)) el_api_Digest (by (exact Dig.size _)) 1 rfl (by (rfl)) ?_; clear hst; intro WS9 hst; simp only [List.set_cons_zero, List.set_cons_succ] at hst)) | (refine wpl_at (.store 30 (.tmp 19) (.tmp 69)) rfl ?_; (refine L_storeA rfl rfl hst rfl (by rfl) (ev_tmp rfl) (by (exact Dig.one _)) el_api_Digest (by (exact Dig.size _)) 0 rfl (by (rfl)) ?_; clear hst; intro WS10 hst; simp only [List.set_cons_zero, List.set_cons_succ] at hst)))
    go_upto_region 11 with (first | (with_reducible refine L_pass (t := 75) rfl (by kernel_rfl) ?_) | (with_reducible refine L_pass (t := 76) rfl (by kernel_rfl) ?_) | (with_reducible refine L_pass (t := 77) rfl (by kernel_rfl) ?_) | (go_big_may; first | ((refine L_loadA (d := some 80) rfl rfl rfl (by rfl) Tryd.underlying30 rfl el_api_Digest (by (exact hst.get 2 rfl)) (by (exact Dig.size _)) ?_)) | ((refine L_loadA (d := some 81) rfl rfl rfl (by rfl) Tryd.underlying30 rfl el_api_Digest (by (exact hst.get 0 rfl)) (by (exact Dig.size _)) ?_)) | (refine L_eqD (d := some 82) rfl rfl rfl Tryd.underlying30 Tryd.underlying5 el_uint8 eqG_D (ev_tmp rfl) (ev_tmp rfl) ?_; (try rw [HAB.out]))))
    go_wp2_with (fail)
    go_ret
    exact ⟨rfl, hst.forget⟩
   have HAB := Lib.hid (show decide (u1 = u2) = false from decide_eq_false hab)
   go_upto_region 9 with (go_big_may; first | (go_at_call 19; (try clear hnew); refine (HLa.out _).mono ?_; rintro e Wk19 ⟨rfl, hnew⟩; replace hst := hst.keep hnew) | ((refine L_loadA (d := some 58) rfl rfl rfl (by rfl) Tryd.underlying35 rfl el_api_Note (by (exact hst.get 1 rfl)) (by (exact ntArr_size _ _ _)) ?_)) | (refine L_allocA (d := some 16) rfl rfl rfl el_api_Digest ?_; (try clear hnew); intro g16 W16 hnew; replace hst := hst.trans hnew; simp only [List.cons_append, List.nil_append] at hst) | (refine L_allocA (d := some 17) rfl rfl rfl el_api_Digest ?_; (try clear hnew); intro g17 W17 hnew; replace hst := hst.trans hnew; simp only [List.cons_append, List.nil_append] at hst) | (refine wpl_at (.store 30 (.tmp 16) (.tmp 61)) rfl ?_; (refine L_storeA rfl rfl hst rfl (by rfl) (ev_tmp rfl) (by (exact Dig.one _)) el_api_Digest (by (exact Dig.size _)) 1 rfl (by (rfl)) ?_; clear hst; intro WS9 hst; simp only [List.set_cons_zero, List.set_cons_succ] at hst)) | (refine wpl_at (.store 30 (.tmp 17) (.tmp 62)) rfl ?_; (refine L_storeA rfl rfl hst rfl (by rfl) (ev_tmp rfl) (by (exact Dig.one _)) el_api_Digest (by (exact Dig.size _)) 0 rfl (by (rfl)) ?_; clear hst; intro WS10 hst; simp only [List.set_cons_zero, List.set_cons_succ] at hst)))
   go_upto_region 10 with (go_big_may; first | (go_at_call 19; (try clear hnew); refine (HLb.out _).mono ?_; rintro e Wk20 ⟨rfl, hnew⟩; replace hst := hst.keep hnew) | ((refine L_loadA (d := some 65) rfl rfl rfl (by rfl) Tryd.underlying35 rfl el_api_Note (by (exact hst.get 2 rfl)) (by (exact ntArr_size _ _ _)) ?_)) | (refine L_allocA (d := some 18) rfl rfl rfl el_api_Digest ?_; (try clear hnew); intro g18 W18 hnew; replace hst := hst.trans hnew; simp only [List.cons_append, List.nil_append] at hst) | (refine L_allocA (d := some 19) rfl rfl rfl el_api_Digest ?_; (try clear hnew); intro g19 W19 hnew; replace hst := hst.trans hnew; simp only [List.cons_append, List.nil_append] at hst) | (refine wpl_at (.store 30 (.tmp 18) (.tmp 68)) rfl ?_; (refine L_storeA rfl rfl hst rfl (by rfl) (ev_tmp rfl) (by (exact Dig.one _)) el_api_Digest (by (exact Dig.size _)) 1 rfl (by (rfl)) ?_; clear hst; intro WS9 hst; simp only [List.set_cons_zero, List.set_cons_succ] at hst)) | (refine wpl_at (.store 30 (.tmp 19) (.tmp 69)) rfl ?_; (refine L_storeA rfl rfl hst rfl (by rfl) (ev_tmp rfl) (by (exact Dig.one _)) el_api_Digest (by (exact Dig.size _)) 0 rfl (by (rfl)) ?_; clear hst; intro WS10 hst; simp only [List.set_cons_zero, List.set_cons_succ] at hst)))
   go_upto_region 12 with (first | (with_reducible refine L_pass (t := 75) rfl (by kernel_rfl) ?_) | (with_reducible refine L_pass (t := 76) rfl (by kernel_rfl) ?_) | (with_reducible refine L_pass (t := 77) rfl (by kernel_rfl) ?_) | (go_big_may; first | ((refine L_loadA (d := some 80) rfl rfl rfl (by rfl) Tryd.underlying30 rfl el_api_Digest (by (exact hst.get 2 rfl)) (by (exact Dig.size _)) ?_)) | ((refine L_loadA (d := some 81) rfl rfl rfl (by rfl) Tryd.underlying30 rfl el_api_Digest (by (exact hst.get 0 rfl)) (by (exact Dig.size _)) ?_)) | (refine L_eqD (d := some 82) rfl rfl rfl Tryd.underlying30 Tryd.underlying5 el_uint8 eqG_D (ev_tmp rfl) (ev_tmp rfl) ?_; (try rw [HAB.out]))))
   clear hnew
   refine wp_region_idx [(0, 0), (2, 0), (3, 0), (4, 0), (5, 0), (6, 0), (7, 0), (1, 2), (8, 2), (9, 2)] (by kernel_rfl) (by kernel_rfl) ?_
   replace hst := hst.drew
   refine idx_q rfl rfl ?_; go_wp2_with fail
   refine idx_q rfl rfl ?_; go_wp2_with (((refine L_loadA (d := some 86) rfl rfl rfl (by rfl) Tryd.underlying30 rfl el_api_Digest (by (exact hst.get 2 rfl)) (by (exact Dig.size _)) ?_)))
   refine idx_qf rfl rfl (by kernel_rfl) ?_; go_wp2_with fail
   refine idx_q rfl rfl ?_; go_wp2_with ((refine L_load1 (d := some 88) rfl rfl rfl (by rfl) Tryd.underlying36 rfl (by (exact cell_of (hst.get 7 rfl) fdArr_36)) ?_))
   refine idx_q rfl rfl ?_; go_wp2_with (((refine L_loadA (d := some 89) rfl rfl rfl (by rfl) Tryd.underlying30 rfl el_api_Digest (by (exact hst.get 0 rfl)) (by (exact Dig.size _)) ?_)))
   refine idx_qf rfl rfl (by kernel_rfl) ?_; go_wp2_with fail
   refine idx_q rfl rfl ?_; go_wp2_with ((refine L_load1 (d := some 91) rfl rfl rfl (by rfl) Tryd.underlying36 rfl (by (exact cell_of (hst.get 6 rfl) fdArr_36)) ?_))
   refine idx_g rfl ?_; go_wp2_with ((go_at_call 21; (try clear hnew); refine (HI.out _).mono ?_; rintro e Wk21 ⟨rfl, hnew⟩; replace hst := hst.keep hnew)); refine ⟨by (exact hnew.below), ?_⟩
   refine idx_g rfl ?_; go_wp2_with ((go_at_call 20; (try clear hnew); refine (HMc.out hab _ (hst.old (by decide) HF2.out) (hst.old (by decide) HG2.out)).mono ?_; rintro e Wk22 ⟨rfl, hnew⟩; replace hst := hst.keep hnew)); refine ⟨by (exact hnew.below), ?_⟩
   refine idx_g rfl ?_; go_wp2_with fail; refine ⟨by (exact Below.refl _ _), ?_⟩
   refine idx_nil ?_
   go_wp2_with fail
   go_ret
   exact ⟨rfl, hst.forget⟩
  | true =>
   clear hz1 hz2
   by_cases hn : a1 = b1 ∧ a2 = b2 ∧ a3 = b3
   ·have HEq2 := Lib.hid (fun w => by have := HEq.out w; rw [decide_eq_true hn] at this; exact this)
    clear HEq hn
    go_enter Tryd.func4, Tryd.ntmps4
    go_upto_region 1 with (go_big_may; first | (refine L_boxA (d := some 4) rfl rfl rfl (ev_tmp rfl) ?_; (try clear hnew); intro g4 W4 hnew; replace hst := hst.trans hnew; simp only [List.cons_append, List.nil_append] at hst) | (refine L_boxA (d := some 6) rfl rfl rfl (ev_tmp rfl) ?_; (try clear hnew); intro g6 W6 hnew; replace hst := hst.trans hnew; simp only [List.cons_append, List.nil_append] at hst) | (refine L_boxA (d := some 7) rfl rfl rfl (ev_tmp rfl) ?_; (try clear hnew); intro g7 W7 hnew; replace hst := hst.trans hnew; simp only [List.cons_append, List.nil_append] at hst))
    go_upto_region 2 with (go_big_may; (go_at_call 11; refine (added_any _ (HT.out.of hst)).mono ?_; rintro e Wd ⟨rfl, hnew⟩; replace hst := hst.keep hnew; clear hnew))
    go_upto_region 4 with (go_big_may; fail)
    go_upto_region 5 with (go_big_may; first | (go_at_call 18; (try clear hnew); refine (HL1.out _ (HT.out.of hst) (hst.old (by decide) HF1.out) (hst.old (by decide) HF2.out)).mono ?_; rintro e Wk23 ⟨rfl, hnew⟩; replace hst := hst.keep hnew) | ((refine L_loadA (d := some 25) rfl rfl rfl (by rfl) Tryd.underlying32 rfl el_api_Head (by (exact hst.get 2 rfl)) (by (exact hdArr_size _ _ _ _)) ?_)) | ((refine L_loadA (d := some 27) rfl rfl rfl (by rfl) Tryd.underlying44 rfl el_api_Found (by (exact hst.get 1 rfl)) (by (exact fdArr_size _ _ _ _ _ _ _ _ _ _)) ?_)) | (refine L_allocA (d := some 10) rfl rfl rfl el_api_Note ?_; (try clear hnew); intro g10 W10 hnew; replace hst := hst.trans hnew; simp only [List.cons_append, List.nil_append] at hst) | (refine wpl_at (.store 35 (.tmp 10) (.tmp 29)) rfl ?_; (refine L_storeA rfl rfl hst rfl (by rfl) (ev_tmp rfl) (by (exact ntArr_all _ _ _)) el_api_Note (by (exact ntArr_size _ _ _)) 0 rfl (by (rfl)) ?_; clear hst; intro WS9 hst; simp only [List.set_cons_zero, List.set_cons_succ] at hst)))
    go_upto_region 6 with (go_big_may; first | (go_at_call 18; (try clear hnew); refine (HL2.out _ (HT.out.of hst) (hst.old (by decide) HG1.out) (hst.old (by decide) HG2.out)).mono ?_; rintro e Wk24 ⟨rfl, hnew⟩; replace hst := hst.keep hnew) | ((refine L_loadA (d := some 33) rfl rfl rfl (by rfl) Tryd.underlying32 rfl el_api_Head (by (exact hst.get 3 rfl)) (by (exact hdArr_size _ _ _ _)) ?_)) | ((refine L_loadA (d := some 35) rfl rfl rfl (by rfl) Tryd.underlying44 rfl el_api_Found (by (exact hst.get 1 rfl)) (by (exact fdArr_size _ _ _ _ _ _ _ _ _ _)) ?_)) | (refine L_allocA (d := some 13) rfl rfl rfl el_api_Note ?_; (try clear hnew); intro g13 W13 hnew; replace hst := hst.trans hnew; simp only [List.cons_append, List.nil_append] at hst) | (refine wpl_at (.store 35 (.tmp 13) (.tmp 37)) rfl ?_; (refine L_storeA rfl rfl hst rfl (by rfl) (ev_tmp rfl) (by (exact ntArr_all _ _ _)) el_api_Note (by (exact ntArr_size _ _ _)) 0 rfl (by (rfl)) ?_; clear hst; intro WS9 hst; simp only [List.set_cons_zero, List.set_cons_succ] at hst)))
    go_upto_region 7 with (go_big_may; first | (refine L_eqA (d := some 53) rfl rfl rfl eqG_Note (ev_tmp rfl) (ev_tmp rfl) (HEq2.out _) ?_) | ((refine L_loadA (d := some 51) rfl rfl rfl (by rfl) Tryd.underlying35 rfl el_api_Note (by (exact hst.get 1 rfl)) (by (exact ntArr_size _ _ _)) ?_)) | ((refine L_loadA (d := some 52) rfl rfl rfl (by rfl) Tryd.underlying35 rfl el_api_Note (by (exact hst.get 0 rfl)) (by (exact ntArr_size _ _ _)) ?_)))
    go_wp2_with (fail)
    go_ret
    exact ⟨rfl, hst.forget⟩
   ·have HEq2 := Lib.hid (fun w => by have := HEq.out w; rw [decide_eq_false hn] at this; exact this)
    clear HEq hn
    go_enter Tryd.func4, Tryd.ntmps4
    go_upto_region 1 with (go_big_may; first | (refine L_boxA (d := some 4) rfl rfl rfl (ev_tmp rfl) ?_; (try clear hnew); intro g4 W4 hnew; replace hst := hst.trans hnew; simp only [List.cons_append, List.nil_append] at hst) | (refine L_boxA (d := some 6) rfl rfl rfl (ev_tmp rfl) ?_; (try clear hnew); intro g6 W6 hnew; replace hst := hst.trans hnew; simp only [List.cons_append, List.nil_append] at hst) | (refine L_boxA (d := some 7) rfl rfl rfl (ev_tmp rfl) ?_; (try clear hnew); intro g7 W7 hnew; replace hst := hst.trans hnew; simp only [List.cons_append, List.nil_append] at hst))
    go_upto_region 2 with (go_big_may; (go_at_call 11; refine (added_any _ (HT.out.of hst)).mono ?_; rintro e Wd ⟨rfl, hnew⟩; replace hst := hst.keep hnew; clear hnew))
    go_upto_region 4 with (go_big_may; fail)
    go_upto_region 5 with (go_big_may; first | (go_at_call 18; (try clear hnew); refine (HL1.out _ (HT.out.of hst) (hst.old (by decide) HF1.out) (hst.old (by decide) HF2.out)).mono ?_; rintro e Wk25 ⟨rfl, hnew⟩; replace hst := hst.keep hnew) | ((refine L_loadA (d := some 25) rfl rfl rfl (by rfl) Tryd.underlying32 rfl el_api_Head (by (exact hst.get 2 rfl)) (by (exact hdArr_size _ _ _ _)) ?_)) | ((refine L_loadA (d := some 27) rfl rfl rfl (by rfl) Tryd.underlying44 rfl el_api_Found (by (exact hst.get 1 rfl)) (by (exact fdArr_size _ _ _ _ _ _ _ _ _ _)) ?_)) | (refine L_allocA (d := some 10) rfl rfl rfl el_api_Note ?_; (try clear hnew); intro g10 W10 hnew; replace hst := hst.trans hnew; simp only [List.cons_append, List.nil_append] at hst) | (refine wpl_at (.store 35 (.tmp 10) (.tmp 29)) rfl ?_; (refine L_storeA rfl rfl hst rfl (by rfl) (ev_tmp rfl) (by (exact ntArr_all _ _ _)) el_api_Note (by (exact ntArr_size _ _ _)) 0 rfl (by (rfl)) ?_; clear hst; intro WS9 hst; simp only [List.set_cons_zero, List.set_cons_succ] at hst)))
    go_upto_region 6 with (go_big_may; first | (go_at_call 18; (try clear hnew); refine (HL2.out _ (HT.out.of hst) (hst.old (by decide) HG1.out) (hst.old (by decide) HG2.out)).mono ?_; rintro e Wk26 ⟨rfl, hnew⟩; replace hst := hst.keep hnew) | ((refine L_loadA (d := some 33) rfl rfl rfl (by rfl) Tryd.underlying32 rfl el_api_Head (by (exact hst.get 3 rfl)) (by (exact hdArr_size _ _ _ _)) ?_)) | ((refine L_loadA (d := some 35) rfl rfl rfl (by rfl) Tryd.underlying44 rfl el_api_Found (by (exact hst.get 1 rfl)) (by (exact fdArr_size _ _ _ _ _ _ _ _ _ _)) ?_)) | (refine L_allocA (d := some 13) rfl rfl rfl el_api_Note ?_; (try clear hnew); intro g13 W13 hnew; replace hst := hst.trans hnew; simp only [List.cons_append, List.nil_append] at hst) | (refine wpl_at (.store 35 (.tmp 13) (.tmp 37)) rfl ?_; (refine L_storeA rfl rfl hst rfl (by rfl) (ev_tmp rfl) (by (exact ntArr_all _ _ _)) el_api_Note (by (exact ntArr_size _ _ _)) 0 rfl (by (rfl)) ?_; clear hst; intro WS9 hst; simp only [List.set_cons_zero, List.set_cons_succ] at hst)))
    go_upto_region 8 with (go_big_may; first | (refine L_eqA (d := some 53) rfl rfl rfl eqG_Note (ev_tmp rfl) (ev_tmp rfl) (HEq2.out _) ?_) | ((refine L_loadA (d := some 51) rfl rfl rfl (by rfl) Tryd.underlying35 rfl el_api_Note (by (exact hst.get 1 rfl)) (by (exact ntArr_size _ _ _)) ?_)) | ((refine L_loadA (d := some 52) rfl rfl rfl (by rfl) Tryd.underlying35 rfl el_api_Note (by (exact hst.get 0 rfl)) (by (exact ntArr_size _ _ _)) ?_)))
    by_cases hxy : x1 = x2
    ·have HX := Lib.hid (show decide (x1 = x2) = true from decide_eq_true hxy)
     clear hxy
     go_upto_region 9 with (go_big_may; first | (go_at_call 19; (try clear hnew); refine (HLa.out _).mono ?_; rintro e Wk27 ⟨rfl, hnew⟩; replace hst := hst.keep hnew) | ((refine L_loadA (d := some 58) rfl rfl rfl (by rfl) Tryd.underlying35 rfl el_api_Note (by (exact hst.get 1 rfl)) (by (exact ntArr_size _ _ _)) ?_)) | (refine L_allocA (d := some 16) rfl rfl rfl el_api_Digest ?_; (try clear hnew); intro g16 W16 hnew; replace hst := hst.trans hnew; simp only [List.cons_append, List.nil_append] at hst) | (refine L_allocA (d := some 17) rfl rfl rfl el_api_Digest ?_; (try clear hnew); intro g17 W17 hnew; replace hst := hst.trans hnew; simp only [List.cons_append, List.nil_append] at hst) | (refine wpl_at (.store 30 (.tmp 16) (.tmp 61)) rfl ?_; (refine L_storeA rfl rfl hst rfl (by rfl) (ev_tmp rfl) (by (exact Dig.one _)) el_api_Digest (by (exact Dig.size _)) 1 rfl (by (rfl)) ?_; clear hst; intro WS9 hst; simp only [List.set_cons_zero, List.set_cons_succ] at hst)) | (refine wpl_at (.store 30 (.tmp 17) (.tmp 62)) rfl ?_; (refine L_storeA rfl rfl hst rfl (by rfl) (ev_tmp rfl) (by (exact Dig.one _)) el_api_Digest (by (exact Dig.size _)) 0 rfl (by (rfl)) ?_; clear hst; intro WS10 hst; simp only [List.set_cons_zero, List.set_cons_succ] at hst)))
     go_upto_region 10 with (go_big_may; first | (go_at_call 19; (try clear hnew); refine (HLb.out _).mono ?_; rintro e Wk28 ⟨rfl, hnew⟩; replace hst := hst.keep hnew) | ((refine L_loadA (d := some 65) rfl rfl rfl (by rfl) Tryd.underlying35 rfl el_api_Note (by (exact hst.get 2 rfl)) (by (exact ntArr_size _ _ _)) ?_)) | (refine L_allocA (d := some 18) rfl rfl rfl el_api_Digest ?_; (try clear hnew); intro g18 W18 hnew; replace hst := hst.trans hnew; simp only [List.cons_append, List.nil_append] at hst) | (refine L_allocA (d := some 19) rfl rfl rfl el_api_Digest ?_; (try clear hnew); intro g19 W19 hnew; replace hst := hst.trans hnew; simp only [List.cons_append, List.nil_append] at hst) | (refine wpl_at (.store 30 (.tmp 18) (.tmp 68)) rfl ?_; (refine L_storeA rfl rfl hst rfl (by rfl) (ev_tmp rfl) (by (exact Dig.one _)) el_api_Digest (by (exact Dig.size _)) 1 rfl (by (rfl)) ?_; clear hst; intro WS9 hst; simp only [List.set_cons_zero, List.set_cons_succ] at hst)) | (refine wpl_at (.store 30 (.tmp 19) (.tmp 69)) rfl ?_; (refine L_storeA rfl rfl hst rfl (by rfl) (ev_tmp rfl) (by (exact Dig.one _)) el_api_Digest (by (exact Dig.size _)) 0 rfl (by (rfl)) ?_; clear hst; intro WS10 hst; simp only [List.set_cons_zero, List.set_cons_succ] at hst)))
     go_upto_region 11 with (first | (with_reducible refine L_pass (t := 80) rfl (by kernel_rfl) ?_) | (with_reducible refine L_pass (t := 81) rfl (by kernel_rfl) ?_) | (with_reducible refine L_pass (t := 82) rfl (by kernel_rfl) ?_) | (go_big_may; first | ((refine L_loadA (d := some 75) rfl rfl rfl (by rfl) Tryd.underlying30 rfl el_api_Digest (by (exact hst.get 3 rfl)) (by (exact Dig.size _)) ?_)) | ((refine L_loadA (d := some 76) rfl rfl rfl (by rfl) Tryd.underlying30 rfl el_api_Digest (by (exact hst.get 1 rfl)) (by (exact Dig.size _)) ?_)) | (refine L_eqD (d := some 77) rfl rfl rfl Tryd.underlying30 Tryd.underlying5 el_uint8 eqG_D (ev_tmp rfl) (ev_tmp rfl) ?_; (try rw [HX.out]))))
     go_wp2_with (fail)
     go_ret
     exact ⟨rfl, hst.forget⟩
    have HX := Lib.hid (show decide (x1 = x2) = false from decide_eq_false hxy)
    clear hxy
    by_cases hab : u1 = u2
    ·have HAB := Lib.hid (show decide (u1 = u2) = true from decide_eq_true hab)
     clear hab
     go_upto_region 9 with (go_big_may; first | (go_at_call 19; (try clear hnew); refine (HLa.out _).mono ?_; rintro e Wk29 ⟨rfl, hnew⟩; replace hst := hst.keep hnew) | ((refine L_loadA (d := some 58) rfl rfl rfl (by rfl) Tryd.underlying35 rfl el_api_Note (by (exact hst.get 1 rfl)) (by (exact ntArr_size _ _ _)) ?_)) | (refine L_allocA (d := some 16) rfl rfl rfl el_api_Digest ?_; (try clear hnew); intro g16 W16 hnew; replace hst := hst.trans hnew; simp only [List.cons_append, List.nil_append] at hst) | (refine L_allocA (d := some 17) rfl rfl rfl el_api_Digest ?_; (try clear hnew); intro g17 W17 hnew; replace hst := hst.trans hnew; simp only [List.cons_append, List.nil_append] at hst) | (refine wpl_at (.store 30 (.tmp 16) (.tmp 61)) rfl ?_; (refine L_storeA rfl rfl hst rfl (by rfl) (ev_tmp rfl) (by (exact Dig.one _)) el_api_Digest (by (exact Dig.size _)) 1 rfl (by (rfl)) ?_; clear hst; intro WS9 hst; simp only [List.set_cons_zero, List.set_cons_succ] at hst)) | (refine wpl_at (.store 30 (.tmp 17) (.tmp 62)) rfl ?_; (refine L_storeA rfl rfl hst rfl (by rfl) (ev_tmp rfl) (by (exact Dig.one _)) el_api_Digest (by (exact Dig.size _)) 0 rfl (by (rfl)) ?_; clear hst; intro WS10 hst; simp only [List.set_cons_zero, List.set_cons_succ] at hst)))
     go_upto_region 10 with (go_big_may; first | (go_at_call 19; (try clear hnew); refine (HLb.out _).mono ?_; rintro e Wk30 ⟨rfl, hnew⟩; replace hst := hst.keep hnew) | ((refine L_loadA (d := some 65) rfl rfl rfl (by rfl) Tryd.underlying35 rfl el_api_Note (by (exact hst.get 2 rfl)) (by (exact ntArr_size _ _ _)) ?_)) | (refine L_allocA (d := some 18) rfl rfl rfl el_api_Digest ?_; (try clear hnew); intro g18 W18 hnew; replace hst := hst.trans hnew; simp only [List.cons_append, List.nil_append] at hst) | (refine L_allocA (d := some 19) rfl rfl rfl el_api_Digest ?_; (try clear hnew); intro g19 W19 hnew; replace hst := hst.trans hnew; simp only [List.cons_append, List.nil_append] at hst) | (refine wpl_at (.store 30 (.tmp 18) (.tmp 68)) rfl ?_; (refine L_storeA rfl rfl hst rfl (by rfl) (ev_tmp rfl) (by (exact Dig.one _)) el_api_Digest (by (exact Dig.size _)) 1 rfl (by (rfl)) ?_; clear hst; intro WS9 hst; simp only [List.set_cons_zero, List.set_cons_succ] at hst)) | (refine wpl_at (.store 30 (.tmp 19) (.tmp 69)) rfl ?_; (refine L_storeA rfl rfl hst rfl (by rfl) (ev_tmp rfl) (by (exact Dig.one _)) el_api_Digest (by (exact Dig.size _)) 0 rfl (by (rfl)) ?_; clear hst; intro WS10 hst; simp only [List.set_cons_zero, List.set_cons_succ] at hst)))
     go_upto_region 11 with (go_big_may; first | ((refine L_loadA (d := some 75) rfl rfl rfl (by rfl) Tryd.underlying30 rfl el_api_Digest (by (exact hst.get 3 rfl)) (by (exact Dig.size _)) ?_)) | ((refine L_loadA (d := some 76) rfl rfl rfl (by rfl) Tryd.underlying30 rfl el_api_Digest (by (exact hst.get 1 rfl)) (by (exact Dig.size _)) ?_)) | (refine L_eqD (d := some 77) rfl rfl rfl Tryd.underlying30 Tryd.underlying5 el_uint8 eqG_D (ev_tmp rfl) (ev_tmp rfl) ?_; (try rw [HX.out])) | ((refine L_loadA (d := some 80) rfl rfl rfl (by rfl) Tryd.underlying30 rfl el_api_Digest (by (exact hst.get 2 rfl)) (by (exact Dig.size _)) ?_)) | ((refine L_loadA (d := some 81) rfl rfl rfl (by rfl) Tryd.underlying30 rfl el_api_Digest (by (exact hst.get 0 rfl)) (by (exact Dig.size _)) ?_)) | (refine L_eqD (d := some 82) rfl rfl rfl Tryd.underlying30 Tryd.underlying5 el_uint8 eqG_D (ev_tmp rfl) (ev_tmp rfl) ?_; (try rw [HAB.out])))
     go_wp2_with (fail)
     go_ret
     exact ⟨rfl, hst.forget⟩
    have HAB := Lib.hid (show decide (u1 = u2) = false from decide_eq_false hab)
    go_upto_region 9 with (go_big_may; first | (go_at_call 19; (try clear hnew); refine (HLa.out _).mono ?_; rintro e Wk31 ⟨rfl, hnew⟩; replace hst := hst.keep hnew) | ((refine L_loadA (d := some 58) rfl rfl rfl (by rfl) Tryd.underlying35 rfl el_api_Note (by (exact hst.get 1 rfl)) (by (exact ntArr_size _ _ _)) ?_)) | (refine L_allocA (d := some 16) rfl rfl rfl el_api_Digest ?_; (try clear hnew); intro g16 W16 hnew; replace hst := hst.trans hnew; simp only [List.cons_append, List.nil_append] at hst) | (refine L_allocA (d := some 17) rfl rfl rfl el_api_Digest ?_; (try clear hnew); intro g17 W17 hnew; replace hst := hst.trans hnew; simp only [List.cons_append, List.nil_append] at hst) | (refine wpl_at (.store 30 (.tmp 16) (.tmp 61)) rfl ?_; (refine L_storeA rfl rfl hst rfl (by rfl) (ev_tmp rfl) (by (exact Dig.one _)) el_api_Digest (by (exact Dig.size _)) 1 rfl (by (rfl)) ?_; clear hst; intro WS9 hst; simp only [List.set_cons_zero, List.set_cons_succ] at hst)) | (refine wpl_at (.store 30 (.tmp 17) (.tmp 62)) rfl ?_; (refine L_storeA rfl rfl hst rfl (by rfl) (ev_tmp rfl) (by (exact Dig.one _)) el_api_Digest (by (exact Dig.size _)) 0 rfl (by (rfl)) ?_; clear hst; intro WS10 hst; simp only [List.set_cons_zero, List.set_cons_succ] at hst)))
    go_upto_region 10 with (go_big_may; first | (go_at_call 19; (try clear hnew); refine (HLb.out _).mono ?_; rintro e Wk32 ⟨rfl, hnew⟩; replace hst := hst.keep hnew) | ((refine L_loadA (d := some 65) rfl rfl rfl (by rfl) Tryd.underlying35 rfl el_api_Note (by (exact hst.get 2 rfl)) (by (exact ntArr_size _ _ _)) ?_)) | (refine L_allocA (d := some 18) rfl rfl rfl el_api_Digest ?_; (try clear hnew); intro g18 W18 hnew; replace hst := hst.trans hnew; simp only [List.cons_append, List.nil_append] at hst) | (refine L_allocA (d := some 19) rfl rfl rfl el_api_Digest ?_; (try clear hnew); intro g19 W19 hnew; replace hst := hst.trans hnew; simp only [List.cons_append, List.nil_append] at hst) | (refine wpl_at (.store 30 (.tmp 18) (.tmp 68)) rfl ?_; (refine L_storeA rfl rfl hst rfl (by rfl) (ev_tmp rfl) (by (exact Dig.one _)) el_api_Digest (by (exact Dig.size _)) 1 rfl (by (rfl)) ?_; clear hst; intro WS9 hst; simp only [List.set_cons_zero, List.set_cons_succ] at hst)) | (refine wpl_at (.store 30 (.tmp 19) (.tmp 69)) rfl ?_; (refine L_storeA rfl rfl hst rfl (by rfl) (ev_tmp rfl) (by (exact Dig.one _)) el_api_Digest (by (exact Dig.size _)) 0 rfl (by (rfl)) ?_; clear hst; intro WS10 hst; simp only [List.set_cons_zero, List.set_cons_succ] at hst)))
    go_upto_region 12 with (go_big_may; first | ((refine L_loadA (d := some 75) rfl rfl rfl (by rfl) Tryd.underlying30 rfl el_api_Digest (by (exact hst.get 3 rfl)) (by (exact Dig.size _)) ?_)) | ((refine L_loadA (d := some 76) rfl rfl rfl (by rfl) Tryd.underlying30 rfl el_api_Digest (by (exact hst.get 1 rfl)) (by (exact Dig.size _)) ?_)) | (refine L_eqD (d := some 77) rfl rfl rfl Tryd.underlying30 Tryd.underlying5 el_uint8 eqG_D (ev_tmp rfl) (ev_tmp rfl) ?_; (try rw [HX.out])) | ((refine L_loadA (d := some 80) rfl rfl rfl (by rfl) Tryd.underlying30 rfl el_api_Digest (by (exact hst.get 2 rfl)) (by (exact Dig.size _)) ?_)) | ((refine L_loadA (d := some 81) rfl rfl rfl (by rfl) Tryd.underlying30 rfl el_api_Digest (by (exact hst.get 0 rfl)) (by (exact Dig.size _)) ?_)) | (refine L_eqD (d := some 82) rfl rfl rfl Tryd.underlying30 Tryd.underlying5 el_uint8 eqG_D (ev_tmp rfl) (ev_tmp rfl) ?_; (try rw [HAB.out])))
    clear hnew
    refine wp_region_idx [(0, 0), (2, 0), (3, 0), (4, 0), (5, 0), (6, 0), (7, 0), (1, 2), (8, 2), (9, 2)] (by kernel_rfl) (by kernel_rfl) ?_
    replace hst := hst.drew
    refine idx_q rfl rfl ?_; go_wp2_with fail
    refine idx_q rfl rfl ?_; go_wp2_with (((refine L_loadA (d := some 86) rfl rfl rfl (by rfl) Tryd.underlying30 rfl el_api_Digest (by (exact hst.get 2 rfl)) (by (exact Dig.size _)) ?_)))
    refine idx_qf rfl rfl (by kernel_rfl) ?_; go_wp2_with fail
    refine idx_q rfl rfl ?_; go_wp2_with ((refine L_load1 (d := some 88) rfl rfl rfl (by rfl) Tryd.underlying36 rfl (by (exact cell_of (hst.get 7 rfl) fdArr_36)) ?_))
    refine idx_q rfl rfl ?_; go_wp2_with (((refine L_loadA (d := some 89) rfl rfl rfl (by rfl) Tryd.underlying30 rfl el_api_Digest (by (exact hst.get 0 rfl)) (by (exact Dig.size _)) ?_)))
    refine idx_qf rfl rfl (by kernel_rfl) ?_; go_wp2_with fail
    refine idx_q rfl rfl ?_; go_wp2_with ((refine L_load1 (d := some 91) rfl rfl rfl (by rfl) Tryd.underlying36 rfl (by (exact cell_of (hst.get 6 rfl) fdArr_36)) ?_))
    refine idx_g rfl ?_; go_wp2_with ((go_at_call 21; (try clear hnew); refine (HI.out _).mono ?_; rintro e Wk33 ⟨rfl, hnew⟩; replace hst := hst.keep hnew)); refine ⟨by (exact hnew.below), ?_⟩
    refine idx_g rfl ?_; go_wp2_with ((go_at_call 20; (try clear hnew); refine (HMc.out hab _ (hst.old (by decide) HF2.out) (hst.old (by decide) HG2.out)).mono ?_; rintro e Wk34 ⟨rfl, hnew⟩; replace hst := hst.keep hnew)); refine ⟨by (exact hnew.below), ?_⟩
    refine idx_g rfl ?_; go_wp2_with fail; refine ⟨by (exact Below.refl _ _), ?_⟩
    refine idx_nil ?_
    go_wp2_with fail
    go_ret
    exact ⟨rfl, hst.forget⟩
end Go.Proofs.YtaebeemnipafbaaDoor

namespace Go.Proofs.YtaebeemnipafbaaDoor.logOne
open Go.ChangeShapes Go.WideShapes Go.ChangeAt Go.RowKit
theorem own : ownKnob Tryd.prog.godebug = none := by kernel_rfl
theorem laidOut : laidOutB Tryd.prog = true := by kernel_rfl
theorem cellsD : Tryd.prog.cellsOf 30 = 32 := by kernel_rfl
theorem cells8 : Tryd.prog.cellsOf 5 = 1 := by kernel_rfl
set_option maxRecDepth 100000 in
theorem contract (H : Type) (enc : TypeId × Value → H) (W : World) (base : Nat) (args : Array Value) (ds gs : List (DataW H)) (before : List MemPlace)
  (hval : ∀ (j : Nat) t v, Tryd.f4.params[j]? = some t → args[j]? = some v → Value.okWide Tryd.prog W .any base t v)
  (hW : DataW.Whole enc Tryd.prog Tryd.f4.params.toList Rows.logOneSpec.vars false W args.toList ds gs before) (hT : Tb W)
  (hz : (DataW.weightsEach Tryd.prog (Tryd.f4.params.toList ++ (OpenSpec.ofChange Rows.logOneSpec).bare.plain.varTypes Tryd.prog) (ds ++ gs)).all (· ≤ reachBytes) = true) :
  Calls Tryd.prog 4 args W fun e W' => ∃ v, e = .returned v ∧ Rows.logOneSpec.post enc Tryd.prog Tryd.f4 false true false false W args v W' := by
 have hW' := hW
 obtain ⟨p, q, hA0, hV, rfl, hfz, hnd⟩ := hW
 have hA : DataW.TrodAll enc Tryd.prog W 0 (fun _ => true) true Tryd.f4.params.toList args.toList ds p := hA0
 rw [Tryd.params4] at hA hval hz
 obtain ⟨v0, vs0, d0, ds0, p0, q0, hargs, rfl, rfl, h0, r0⟩ := trodAll_cons hA
 obtain ⟨v1, vs1, d1, ds1, p1, q1, rfl, rfl, rfl, h1, r1⟩ := trodAll_cons r0
 obtain ⟨v2, vs2, d2, ds2, p2, q2, rfl, rfl, rfl, h2, r2⟩ := trodAll_cons r1
 obtain ⟨v3, vs3, d3, ds3, p3, q3, rfl, rfl, rfl, h3, r3⟩ := trodAll_cons r2
 obtain ⟨rfl, rfl, rfl⟩ := trodAll_nil r3
 obtain rfl : args = #[v0, v1, v2, v3] := by cases args; simp_all
 obtain ⟨rfl, rfl⟩ := trodVars_none hV
 obtain ⟨n0, x0, y0, z0, rfl, wa0⟩ := open_head Tryd.underlying32 Tryd.underlying3 rfl rfl rfl Tryd.underlying30 Tryd.underlying5 cells8 cellsD rfl rfl rfl rfl (by kernel_rfl) (by kernel_rfl) (hval 0 _ v0 rfl rfl) h0
 obtain ⟨b1, rfl, rfl, rfl, ws1⟩ := Go.ChangeMaps.open_string Tryd.underlying9 (hval 1 _ v1 rfl rfl) h1
 obtain ⟨a1, ha1⟩ : ∃ a, b1 = bsOf a := ⟨_, bsOf_eta b1⟩
 subst ha1
 have hn1 : a1.length ≤ 140737488351232 := by
  have h := sized_string hz (j := 1) rfl rfl
  rw [bsOf_list] at h
  have := reach_le (n := a1.length) (b := 1) (by rw [Nat.mul_one]; exact h)
  omega
 obtain ⟨a2, A2, m2, c2, B2, e2, g2, rfl, hs2, ht2, hw2, ha2⟩ := open_found Tryd.underlying44 rfl Tryd.underlying35 Tryd.underlying9 rfl Tryd.underlying3 Tryd.underlying3 rfl rfl Tryd.underlying36 Tryd.underlying30 Tryd.underlying5 cells8 cellsD rfl rfl rfl rfl rfl rfl rfl (by kernel_rfl) (by kernel_rfl) (by kernel_rfl) (by kernel_rfl) (by kernel_rfl) (by kernel_rfl) (hval 2 _ v2 rfl rfl) h2
 obtain ⟨a3, A3, m3, c3, B3, e3, g3, rfl, hs3, ht3, hw3, ha3⟩ := open_found Tryd.underlying44 rfl Tryd.underlying35 Tryd.underlying9 rfl Tryd.underlying3 Tryd.underlying3 rfl rfl Tryd.underlying36 Tryd.underlying30 Tryd.underlying5 cells8 cellsD rfl rfl rfl rfl rfl rfl rfl (by kernel_rfl) (by kernel_rfl) (by kernel_rfl) (by kernel_rfl) (by kernel_rfl) (by kernel_rfl) (hval 3 _ v3 rfl rfl) h3
 have lt0 : ∀ x ∈ p0, x.block < W.heap.size := by obtain ⟨m, hm⟩ := h0; exact DataW.trod_lt m _ _ _ hm
 have lt2 : ∀ x ∈ p2, x.block < W.heap.size := by obtain ⟨m, hm⟩ := h2; exact DataW.trod_lt m _ _ _ hm
 have lt3 : ∀ x ∈ p3, x.block < W.heap.size := by obtain ⟨m, hm⟩ := h3; exact DataW.trod_lt m _ _ _ hm
 clear hA0
 refine (logOne_any W hT n0 x0 y0 z0 a1 hn1 a2 A2 m2 c2 B2 e2 g2 hs2 ht2 (wf64 hw2).1 (wf64 hw2).2 a3 A3 m3 c3 B3 e3 g3 hs3 ht3 (wf64 hw3).1 (wf64 hw3).2).mono fun e W' ⟨he, hst⟩ => ?_
 have bel := hst.below
 subst he
 exact ⟨_, rfl, _, _, _, [], _, [], hW', trodAll_mk1 (shut_bool Tryd.underlying4 _),
  (trodAll_cons_mk (Below.trod laidOut (by kernel_rfl) (of_decide_eq_true (by kernel_rfl)) h0 bel lt0) (trodAll_cons_mk (Go.ChangeMaps.shut_string Tryd.underlying9 ws1) (trodAll_cons_mk (Below.trod laidOut (by kernel_rfl) (of_decide_eq_true (by kernel_rfl)) h2 bel lt2) (trodAll_cons_mk (Below.trod laidOut (by kernel_rfl) (of_decide_eq_true (by kernel_rfl)) h3 bel lt3) trodAll_mk0)))), rfl, bel.frame _, fun h => by cases h⟩
noncomputable def laidWorld (os : Os) : World :=
 { World.holding Tryd.prog os ⟨#[], #[], []⟩ with heap := (World.holding Tryd.prog os ⟨#[], #[], []⟩).heap.modify 1 fun
   | .cells _ t frozen => .cells tblArr t frozen
   | o => o }
theorem laid_met (os : Os) : laidMet Tryd.prog Rows.logOneRow.laid ((laidWorld os).forCall (fun _ _ => 0) ⟨#[], #[.agg (hdCells 0 zeroD zeroD zeroD).toArray, .string ⟨#[]⟩, .agg (fdArr [] zeroD 0 0 none 0 0 none 0 0), .agg (fdArr [] zeroD 0 0 none 0 0 none 0 0)], []⟩).memory :=
 laidMet_of_run' 8 (by kernel_rfl) (by kernel_rfl)
theorem reads (os : Os) {H : Type} (enc : TypeId × Value → H) : ∃ places, DataW.whole enc Tryd.prog ((laidWorld os).forCall (fun _ _ => 0) ⟨#[], #[.agg (hdCells 0 zeroD zeroD zeroD).toArray, .string ⟨#[]⟩, .agg (fdArr [] zeroD 0 0 none 0 0 none 0 0), .agg (fdArr [] zeroD 0 0 none 0 0 none 0 0)], []⟩).memory Tryd.f4.params.toList Rows.logOneSpec.vars false (#[.agg (hdCells 0 zeroD zeroD zeroD).toArray, .string ⟨#[]⟩, .agg (fdArr [] zeroD 0 0 none 0 0 none 0 0), .agg (fdArr [] zeroD 0 0 none 0 0 none 0 0)] : Array Value).toList 8 = some ([.agg [.lit (.int .i64 0), .agg (List.replicate 32 (.lit (.int .u8 0))), .agg (List.replicate 32 (.lit (.int .u8 0))), .agg (List.replicate 32 (.lit (.int .u8 0)))], .lit (.string []), .agg [.agg [.lit (.string []), .agg (List.replicate 32 (.lit (.int .u8 0))), .lit (.int .i64 0)], .lit (.int .i64 0), .nil, .nil], .agg [.agg [.lit (.string []), .agg (List.replicate 32 (.lit (.int .u8 0))), .lit (.int .i64 0)], .lit (.int .i64 0), .nil, .nil]], [], places) :=
 ⟨[], by kernel_rfl⟩
set_option maxRecDepth 100000 in
theorem lifted (os : Os) (started : os.Started) (H : Type) (enc : TypeId × Value → H) (F : Stop.Interp) :
  ReturnsInHanded {} Tryd.checked os 4 .any ((OpenSpec.ofChange Rows.logOneSpec).preRow enc Tryd.prog Tryd.f4 Rows.logOneRow.domain false Rows.logOneRow.laid) (((OpenSpec.ofChange Rows.logOneSpec).at F).post enc Tryd.prog Tryd.f4 false true false false) := by
 obtain ⟨places, hx⟩ := reads os enc
 refine returnsInHanded_of_row (C := Tryd.checked) (s := (OpenSpec.ofChange Rows.logOneSpec)) own started (by kernel_rfl) Tryd.func4
  (witness_row_at (enc := enc) (C := Tryd.checked) false (laidWorld os) #[.agg (hdCells 0 zeroD zeroD zeroD).toArray, .string ⟨#[]⟩, .agg (fdArr [] zeroD 0 0 none 0 0 none 0 0), .agg (fdArr [] zeroD 0 0 none 0 0 none 0 0)] rfl (by kernel_rfl) (by kernel_rfl) (by kernel_rfl)
   (OpenSpec.preRow_of_cond 8 hx (by kernel_rfl) (fun k hk => by cases hk) (by kernel_rfl) (laid_met os))) ?_
 intro W base args ds gs before hval hW _ _ hz hL _ _
 exact contract H enc W base args ds gs before hval hW (tb_of hL) hz
theorem said : Rows.LogOneSaid :=
 OpenClaim.holds_of_cond 4 Tryd.f4 rfl rfl rfl rfl rfl rfl rfl ⟨rfl, rfl, rfl, rfl, rfl⟩ rfl rfl rfl rfl rfl (by kernel_rfl) Tryd.func4 (by kernel_rfl)
  (of_decide_eq_true (by kernel_rfl)) (by unfold Func.isWrapper; first | (rw [if_pos (by decide +kernel)]; kernel_rfl) | (rw [if_neg (by decide +kernel)]; exact ⟨rfl, rfl⟩))
  (fun os started H enc _ F => by rw [OpenClaim.pre_eq_preRow]; exact lifted os started H enc F)
theorem plain (f : FuncId) (fn : Func) (hf : Tryd.pinned.checked.prog.funcNamed "oathbook/oathbooklaw3.LogOne" = some f) (hfn : Tryd.pinned.checked.prog.funcs[f]? = some fn) :
  true = Tryd.pinned.checked.prog.looks [] ∧ ∀ (j : Nat) t, fn.params[j]? = some t → Tryd.pinned.checked.prog.wantsStandIn t = false := by
 obtain rfl : f = 4 := Option.some.inj ((show Tryd.prog.funcNamed "oathbook/oathbooklaw3.LogOne" = some 4 by kernel_rfl).symm.trans hf) |>.symm
 obtain rfl : fn = Tryd.f4 := (Option.some.inj (Tryd.func4.symm.trans hfn)).symm
 refine ⟨by kernel_rfl, fun j t ht => ?_⟩
 rw [Tryd.params4] at ht
 have hm := Array.mem_of_getElem? ht
 have ha : ∀ t ∈ #[32, 9, 44, 44], Tryd.prog.wantsStandIn t = false := by
  intro t ht
  simp only [List.mem_toArray, List.mem_cons, List.not_mem_nil, or_false] at ht
  rcases ht with rfl | rfl | rfl | rfl <;> kernel_rfl
 exact ha t hm
theorem proved : Rows.LogOneCardSaid :=
 Claim7.holds_tied_plain_at .later [] _ _ _ _ said (fun _ h => by cases h) (by kernel_rfl) (fun _ h => by cases h) logOne_row_tie rfl ⟨rfl, rfl⟩ (by kernel_rfl) rfl plain (by kernel_rfl)
#print axioms proved
end Go.Proofs.YtaebeemnipafbaaDoor.logOne
