/-
  Proved here, ahead of the law: DeskAnswers: the law returns true for every input, and leaves its arguments as they were.
-/
import Derived.Test.YtaebeemnipafbaaGreatDoorPkDeskAnswersC
import Derived.Test.YtaebeemnipafbaaGreatDoorSq
import Derived.Test.YtaebeemnipafbaaGreatDoorPkDeskAnswersB
import Derived.Test.YtaebeemnipafbaaGreatDoorPkDeskAnswersA
import Derived.Test.YtaebeemnipafbaaGreatDoorOpenB
import Derived.Test.YtaebeemnipafbaaGreatDoorRows
import Derived.LaidLaws
import Derived.Lib.LaidTab
import Derived.Lib.TrailingZeros
import Derived.ChangeVars
import Derived.JoinedOf
import Derived.RowKit
import Derived.Stop.Joined
import Derived.Stop.LaidErr
set_option linter.unusedSimpArgs false
set_option linter.unusedVariables false
set_option maxRecDepth 100000
set_option maxHeartbeats 200000000
namespace Go.Proofs.YtaebeemnipafbaaGreatDoor
section
open Go.RowKit
attribute [local simp] GN
theorem Mi : GW Tryz.prog 23 (.slice none 0 0) 1 24 := by unfold GW; kernel_rfl
theorem nt_ones (ns : List NoteN) : ∀ u ∈ H6 ns, u.oneCell' = true := by
 intro u hu
 obtain ⟨n, -, hn⟩ := List.mem_flatMap.1 hu
 exact Mh _ _ _ u hn
section
variable {P : Program} {a : Act} {W : World}
theorem NO {fn : Func} {R : Ending → World → Prop} {p q q' : Tmp} {ty : TypeId} (hr : fn.results = #[.cell p ty, .tmp q, .tmp q']) (hd : a.defers = []) {g : Nat} (hp : a.tmps.toList[p]? = some (.pointer (some ⟨g, 0, none⟩))) {v v' : Value} (hq : a.tmps.toList[q]? = some v) (hq2 : a.tmps.toList[q']? = some v') {t : TypeId} {cs : Array Value} {fr : Nat × Nat} (hg : W.heap[g]? = some (.cells cs t fr))
  {td : TypeDesc} (hu : P.underlying ty = some td) (hrow : td.isRow = true) {z : Value} {s b : Nat} (he : GW P ty z s b) (hs : cs.size = s) (hR : R (.returned (.tuple #[.agg cs, v, v'])) W) : bodyPost P fn R .ret a W := by
 have hp' : a.tmps[p]?.getD undef = .pointer (some ⟨g, 0, none⟩) := by
  have : a.tmps[p]? = some (.pointer (some ⟨g, 0, none⟩)) := by simpa using hp
  simp [this]
 have hq' : a.tmps[q]?.getD undef = v := by
  have : a.tmps[q]? = some v := by simpa using hq
  simp [this]
 have hq3 : a.tmps[q']?.getD undef = v' := by
  have : a.tmps[q']? = some v' := by simpa using hq2
  simp [this]
 refine bodyPost_ret ?_ hd hR
 simp [results, hr, hp', hq', hq3, asAddr, run_loadVar_row W g t ty cs fr td hg hu (by cases td <;> simp_all [TypeDesc.isRow]) (by rw [he.size, hs])]
end
theorem addE_1 {ns : List NoteN} {s : List UInt8} (h : JM s = false) : Kk ns s = 1 := by unfold Kk; rw [if_neg (by rw [h]; decide)]
theorem addE_4 {ns : List NoteN} {s : List UInt8} (h : JM s = true) (hf : 256 ≤ ns.length ∨ Ho ns s = none ∧ 64 ≤ Kg ns) : Kk ns s = 4 := by unfold Kk; rw [if_pos h, if_pos hf]
theorem addE_7 {ns : List NoteN} {s : List UInt8} (h : JM s = true) (hf : ¬ (256 ≤ ns.length ∨ Ho ns s = none ∧ 64 ≤ Kg ns)) (ht : MM ns s = true) : Kk ns s = 7 := by unfold Kk; rw [if_pos h, if_neg hf, if_pos ht]
theorem addE_0 {ns : List NoteN} {s : List UInt8} (h : JM s = true) (hf : ¬ (256 ≤ ns.length ∨ Ho ns s = none ∧ 64 ≤ Kg ns)) (ht : MM ns s = false) : Kk ns s = 0 := by unfold Kk; rw [if_pos h, if_neg hf, if_neg (by rw [ht]; decide)]
theorem takenN_s {ns : List NoteN} {i : Nat} (h : i < ns.length) (s : List UInt8) : MM (ns.take (i + 1)) s = (MM (ns.take i) s || decide (ns[i].name ≠ s ∧ Jf ns[i].name = Jf s)) := by
 unfold MM
 rw [List.take_succ_eq_append_getElem h, List.any_append]
 simp
theorem radded_gen (K : Option Addr) (m mc : Nat) (ns : List NoteN) (s : List UInt8) (k : Dig) (A : Option Addr) (n c : Nat) (w : World) (hx : SlR w A n c 34 (H6 ns)) (hg : Logged ns) (hs0 : s.length ≤ 9223372036854775807) (Q : Ending → World → Prop)
  (hok : Kk ns s = 0 → ∀ (w' : World) (O : Option Addr) (oc : Nat), St w w' [.row O (n + 1) oc 34 34 (H6 (ns ++ [M0 ns s k]))] → Q (.returned (.tuple #[.agg (Jw K m mc O (n + 1) oc), .int .i64 (n : Int), .int .i64 0])) w')
  (hno : ∀ r : Nat, Kk ns s = r → r ≠ 0 → ∀ w' : World, St w w' [] → Q (.returned (.tuple #[.agg (Jw K m mc A n c), .int .i64 0, .int .i64 (r : Int)])) w') :
  Calls Tryz.prog 9 #[.agg (Jw K m mc A n c), .string (GZ s), k.v] w Q := by
 have Ga := St.refl w
 have hl : ns.length = n := by have := hx.1; rw [JB] at this; omega
 have hn : n ≤ 256 := by have := hg.len; omega
 have HL := Gg hl
 have HX := Gg hx
 have HOk := Gg hok
 have HNo := Gg hno
 have HIs0 := Gg (fun (h : JM s = true) w' => MA s w' (by have := (J0 h).2; omega))
 have HNm := Gg (fun w' => Kx s w' (by omega))
 have HLs := Gg (fun (w' : World) (u : List UInt8) h => rlast_any K m mc ns u A n c w' h (by omega))
 have htl := hg.turn_le s
 have HNN := Gg (show M0 ns s k = ⟨s, k, Ni ns s⟩ from rfl)
 have HU := Gg (fun x (h : x ∈ ns) => (J0 (hg.nm x h)).2)
 clear hl hx hg hok hno
 go_enter Tryz.func9, Tryz.ntmps9
 by_cases hnm : JM s = true
 case neg =>
  have hnm' : JM s = false := by simpa using hnm
  have HR := Gg (HNo.out 1 (addE_1 hnm') (by decide))
  rw [hnm'] at HNm
  clear hnm hnm' HOk HNo HLs HIs0 HU HNN htl hs0
  go_upto_region 1 with (go_big_may; first | (refine Gm 3 rfl (Gw rfl) ?_; (try clear Gb); intro g3 W3 Gb; replace Ga := Ga.tr1 Gb) | (refine Gm 5 rfl (Gw rfl) ?_; (try clear Gb); intro g5 W5 Gb; replace Ga := Ga.tr1 Gb) | (refine Gk 6 rfl GL ?_; (try clear Gb); intro g6 W6 Gb; replace Ga := Ga.tr1 Gb))
  go_upto_region 2 with (go_big_may; (go_at_call 31; refine (HNm.out _).mono ?_; rintro e Wn ⟨rfl, Gb⟩; replace Ga := Ga.keep Gb; clear Gb))
  go_wp2_with (first | (refine Gl 19 rfl (by rfl) uz27 rfl GL (Ga.get 2 rfl) (Hk _ _ _ _ _ _) ?_) | ((refine Gr 6 19 Ga rfl (by rfl) (Gw rfl) (Kn _ _ _ _ _ _) GL (by rfl) 0 rfl (by rfl) ?_; clear Ga; intro WS1 Ga; simp only [Ge, Gf] at Ga)))
  refine NO rfl rfl rfl rfl rfl (Ga.get 0 rfl) uz27 rfl GL (Hk _ _ _ _ _ _) ?_
  exact HR.out _ Ga.forget
 have HNm1 := Gg hnm
 have HIs := Gg (HIs0.out hnm)
 clear HIs0
 rw [hnm] at HNm
 clear hnm
 go_upto_region 1 with (go_big_may; first | (refine Gm 3 rfl (Gw rfl) ?_; (try clear Gb); intro g3 W3 Gb; replace Ga := Ga.tr1 Gb) | (refine Gm 5 rfl (Gw rfl) ?_; (try clear Gb); intro g5 W5 Gb; replace Ga := Ga.tr1 Gb) | (refine Gk 6 rfl GL ?_; (try clear Gb); intro g6 W6 Gb; replace Ga := Ga.tr1 Gb))
 go_upto_region 3 with (go_big_may; (go_at_call 31; refine (HNm.out _).mono ?_; rintro e Wn ⟨rfl, Gb⟩; replace Ga := Ga.keep Gb; clear Gb))
 go_upto_region 4 with (go_big_may; first | (go_at_call 32; refine (HLs.out _ s (Ga.old (by decide) HX.out)).mono ?_; rintro e Wn ⟨rfl, Gb⟩; replace Ga := Ga.keep Gb; clear Gb) | (refine Gl 20 rfl (by rfl) uz27 rfl GL (Ga.get 2 rfl) (Hk _ _ _ _ _ _) ?_))
 go_upto_region 5 with (go_big_may; fail)
 go_upto_region 6 with (go_big_may; fail)
 go_wp2_with (fail)
 generalize hz : M9 ns s = z
 have HZ := Gg hz
 clear hz
 go_loopg [10, 11, 12] n (fun gk s10 s11 s12 wr => ∃ (i : Nat) (t : Bool), Hid (gk + i = n) ∧ Hid (t = MM (ns.take i) s) ∧ s10 = .int .i64 (cN ns i : Int) ∧ s11 = .bool t ∧ s12 = .int .i64 (i : Int) ∧ St w wr [.blk g6 27 (Jw none 0 0 none 0 0), .blk g5 32 k.arr, .blk g3 27 (Jw K m mc A n c)])
 case atStart => exact ⟨0, false, Lib.hid rfl, Lib.hid rfl, rfl, rfl, rfl, Ga⟩
 case round =>
  clear Ga
  obtain ⟨i, t, HI, HTk, rfl, rfl, rfl, Ga⟩ := hrel
  have hi := HI.out
  by_cases hin : i < n
  ·obtain ⟨g, rfl⟩ : ∃ g, gk = g + 1 := ⟨gk - 1, by omega⟩
   have hil : i < ns.length := by rw [HL.out]; exact hin
   have HC := Gg (fun (W : World) (g off : Nat) h => note_name (W := W) (g := g) (off := off) (i := i) (ns := ns) h hil)
   have hcs := cN_s hil
   have hcl := cN_le ns i
   have hul : ns[i].name.length ≤ 67 := by have := HU.out ns[i] (List.getElem_mem hil); omega
   have hts := takenN_s hil s
   rw [← HTk.out] at hts
   generalize ns[i].name = u at HC hcs hul hts
   have HLu := Gg (fun (w' : World) h => HLs.out w' u h)
   have HIu := Gg (fun w' => MA u w' (by omega))
   generalize M9 ns u = zu at hcs HLu
   generalize Jf u = iu at hts HIu
   generalize hgc : cN ns (i + 1) = c1 at hcs
   generalize cN ns i = c0 at hcs hcl
   generalize hgi : Jf s = is at hts
   have HIs' := Gg (fun w' => by have := HIs.out w'; rw [hgi] at this; exact this)
   have HTS := Gg hts
   have HCS := Gg hcs
   have HGC := Gg hgc
   clear hil hul hgi hts hcs hgc HTk
   go_upto_region 9 with (go_big_may; (refine Gj 25 rfl (by rfl) uz23 rfl (Gy (Ga.get 2 rfl) JT) ?_))
   go_upto_region 10 with (go_big_may; first | (refine Gj 35 rfl (by rfl) uz9 rfl (HC.out _ _ _ hr33) ?_) | (refine Gj 31 rfl (by rfl) uz23 rfl (Gy (Ga.get 2 rfl) JT) ?_) | (refine Gp 33 rfl (by rfl) (by rfl) uz23 GD (Ga.old (by decide) HX.out) (by omega) (by omega) ?_; intro o33 p33 ha33 hr33; ((subst ha33))))
   go_upto_if 40 with (go_big_may; first | (go_at_call 32; refine (HLu.out _ (Ga.old (by decide) HX.out)).mono ?_; rintro e Wn ⟨rfl, Gb⟩; replace Ga := Ga.keep Gb; clear Gb) | (refine Gl 36 rfl (by rfl) uz27 rfl GL (Ga.get 2 rfl) (by rfl) ?_))
   go_cut [10] (fun s10 wx => s10 = .int .i64 (c1 : Int) ∧ St w wx [.blk g6 27 (Jw none 0 0 none 0 0), .blk g5 32 k.arr, .blk g3 27 (Jw K m mc (some ⟨o33, p33, none⟩) n c)])
   case first =>
    by_cases hzu : zu = (i : Int)
    ·have hx1 : (zu == (i : Int)) = true := by simp [hzu]
     have hcs := HCS.out
     rw [if_pos hzu] at hcs
     clear hzu
     go_wp2_with (go_big_may; fail)
     go_meet
     case rel => exact ⟨by rw [hcs]; go_num, Ga⟩
    ·have hx1 : (zu == (i : Int)) = false := by simp [hzu]
     have hcs := HCS.out
     rw [if_neg hzu] at hcs
     clear hzu
     go_wp2_with fail
     go_meet
     case rel => exact ⟨by rw [hcs], Ga⟩
   case rest =>
    obtain ⟨rfl, Ga⟩ := hcut
    clear HCS HLu
    by_cases hus : u = s
    ·have HS := Gg (show (!decide (u = s)) = false by simp [hus])
     have HT2 := Gg (show t = MM (ns.take (i + 1)) s by rw [HTS.out]; simp [hus])
     clear hus
     go_upto_region 8 with (first | (with_reducible refine GI (t := 47) rfl (by kernel_rfl) ?_) | (with_reducible refine GI (t := 48) rfl (by kernel_rfl) ?_) | (with_reducible refine GI (t := 49) rfl (by kernel_rfl) ?_) | (with_reducible refine GI (t := 50) rfl (by kernel_rfl) ?_) | (with_reducible refine GI (t := 51) rfl (by kernel_rfl) ?_) | (go_big_may; (refine MW (d := some 45) rfl rfl rfl MD uz9 (Gw rfl) (Gw rfl) ?_; (try rw [HS.out]))))
     go_wp2_with (fail)
     go_roundg g
     case measure => omega
     case rel => exact ⟨i + 1, t, Gg (by have := HI.out; omega), HT2, by rw [HGC.out], rfl, by go_num, Ga⟩
    ·have HS := Gg (show (!decide (u = s)) = true by simp [hus])
     by_cases hii : iu = is
     ·have hx2 : ((iu : Int) == (is : Int)) = true := by simp [hii]
      have HT2 := Gg (show true = MM (ns.take (i + 1)) s by rw [HTS.out]; simp [hus, hii])
      clear hus hii
      go_upto_region 13 with (go_big_may; first | (go_at_call_of 33 (Value.string (GZ u)); refine (HIu.out _).mono ?_; rintro e Wn ⟨rfl, Gb⟩; replace Ga := Ga.keep Gb; clear Gb) | (go_at_call_of 33 (Value.string (GZ s)); refine (HIs'.out _).mono ?_; rintro e Wn ⟨rfl, Gb⟩; replace Ga := Ga.keep Gb; clear Gb) | (refine MW (d := some 45) rfl rfl rfl MD uz9 (Gw rfl) (Gw rfl) ?_; (try rw [HS.out])))
      go_upto_region 8 with (go_big_may; fail)
      go_wp2_with (fail)
      go_roundg g
      case measure => omega
      case rel => exact ⟨i + 1, true, Gg (by have := HI.out; omega), HT2, by rw [HGC.out], rfl, by go_num, Ga⟩
     ·have hx2 : ((iu : Int) == (is : Int)) = false := beq_eq_false_iff_ne.2 (fun e => hii (by omega))
      have HT2 := Gg (show t = MM (ns.take (i + 1)) s by rw [HTS.out]; simp [hii])
      clear hus hii
      go_upto_region 8 with (go_big_may; first | (go_at_call_of 33 (Value.string (GZ u)); refine (HIu.out _).mono ?_; rintro e Wn ⟨rfl, Gb⟩; replace Ga := Ga.keep Gb; clear Gb) | (go_at_call_of 33 (Value.string (GZ s)); refine (HIs'.out _).mono ?_; rintro e Wn ⟨rfl, Gb⟩; replace Ga := Ga.keep Gb; clear Gb) | (refine MW (d := some 45) rfl rfl rfl MD uz9 (Gw rfl) (Gw rfl) ?_; (try rw [HS.out])))
      go_wp2_with (fail)
      go_roundg g
      case measure => omega
      case rel => exact ⟨i + 1, t, Gg (by have := HI.out; omega), HT2, by rw [HGC.out], rfl, by go_num, Ga⟩
  ·obtain rfl : gk = 0 := by omega
   obtain rfl : i = n := by omega
   have HTA := Gg (show t = MM ns s by have := HTk.out; rwa [← HL.out, List.take_length] at this)
   have HCA := Gg (show cN ns i = Kg ns by rw [← HL.out]; exact cN_all ns)
   clear hi hin HI HTk HLs HIs HNm HU
   go_upto_region 14 with (go_big_may; (refine Gj 25 rfl (by rfl) uz23 rfl (Gy (Ga.get 2 rfl) JT) ?_))
   go_simp
   go_cut [64] (fun s64 wx => ∃ fB : Bool, Hid (fB = decide (256 ≤ ns.length ∨ Ho ns s = none ∧ 64 ≤ Kg ns)) ∧ s64 = .bool fB ∧ St w wx [.blk g6 27 (Jw none 0 0 none 0 0), .blk g5 32 k.arr, .blk g3 27 (Jw K m mc A i c)])
   case first =>
    by_cases hz256 : (256 : Int) ≤ (i : Int)
    ·have HB := Gg (show true = decide (256 ≤ ns.length ∨ Ho ns s = none ∧ 64 ≤ Kg ns) from (decide_eq_true (.inl (by rw [HL.out]; omega))).symm)
     clear hn hs0 htl
     generalize cN ns i = c0 at *
     go_wp2_with (refine Gj 54 rfl (by rfl) uz23 rfl (Gy (Ga.get 2 rfl) JT) ?_)
     go_meet
     case rel => exact ⟨true, HB, rfl, Ga⟩
    cases hla : Ho ns s with
    | none =>
     obtain rfl : z = -1 := by rw [← HZ.out]; unfold M9; rw [hla]
     have HB := Gg (show decide ((64 : Int) ≤ (cN ns i : Int)) = decide (256 ≤ ns.length ∨ Ho ns s = none ∧ 64 ≤ Kg ns) by
      rw [hla, ← HCA.out, HL.out]
      by_cases hc : 64 ≤ cN ns i
      ·rw [decide_eq_true (by omega), decide_eq_true (.inr ⟨rfl, hc⟩)]
      ·rw [decide_eq_false (by omega), decide_eq_false]
       rintro (h | h)
       ·omega
       ·exact hc h.2)
     generalize cN ns i = c0 at *
     clear hla hn hs0 htl
     go_wp2_with (refine Gj 54 rfl (by rfl) uz23 rfl (Gy (Ga.get 2 rfl) JT) ?_)
     go_meet
     case rel => exact ⟨_, HB, rfl, Ga⟩
    | some j =>
     obtain rfl : z = (j : Int) := by rw [← HZ.out]; unfold M9; rw [hla]
     have HB := Gg (show false = decide (256 ≤ ns.length ∨ Ho ns s = none ∧ 64 ≤ Kg ns) from (decide_eq_false (by
      rintro (h | h)
      ·rw [HL.out] at h; omega
      ·rw [hla] at h; cases h.1)).symm)
     have hj0 : ¬ (j : Int) < 0 := by omega
     generalize cN ns i = c0 at *
     clear hla hn hs0 htl
     go_wp2_with (refine Gj 54 rfl (by rfl) uz23 rfl (Gy (Ga.get 2 rfl) JT) ?_)
     go_meet
     case rel => exact ⟨false, HB, rfl, Ga⟩
   case rest =>
    obtain ⟨fB, HB, rfl, Ga⟩ := hcut
    clear HCA
    generalize cN ns i = c0 at *
    cases fB with
    | true =>
     have HR := Gg (HNo.out 4 (addE_4 HNm1.out (of_decide_eq_true HB.out.symm)) (by decide))
     clear HOk HNo HNN htl hs0 hn HB
     go_wp2_with (first | (refine Gl 65 rfl (by rfl) uz27 rfl GL (Ga.get 2 rfl) (Hk _ _ _ _ _ _) ?_) | ((refine Gr 6 65 Ga rfl (by rfl) (Gw rfl) (Kn _ _ _ _ _ _) GL (by rfl) 0 rfl (by rfl) ?_; clear Ga; intro WS1 Ga; simp only [Ge, Gf] at Ga)))
     refine NO rfl rfl rfl rfl rfl (Ga.get 0 rfl) uz27 rfl GL (Hk _ _ _ _ _ _) ?_
     exact HR.out _ Ga.forget
    | false =>
     have hnf := of_decide_eq_false HB.out.symm
     cases t with
     | true =>
      have HR := Gg (HNo.out 7 (addE_7 HNm1.out hnf HTA.out.symm) (by decide))
      clear HOk HNo HNN htl hs0 hn HB hnf HTA
      go_upto_region 17 with (go_big_may; fail)
      go_wp2_with (first | (refine Gl 67 rfl (by rfl) uz27 rfl GL (Ga.get 2 rfl) (Hk _ _ _ _ _ _) ?_) | ((refine Gr 6 67 Ga rfl (by rfl) (Gw rfl) (Kn _ _ _ _ _ _) GL (by rfl) 0 rfl (by rfl) ?_; clear Ga; intro WS1 Ga; simp only [Ge, Gf] at Ga)))
      refine NO rfl rfl rfl rfl rfl (Ga.get 0 rfl) uz27 rfl GL (Hk _ _ _ _ _ _) ?_
      exact HR.out _ Ga.forget
     | false =>
      have hle := Nat.lt_of_not_le (fun h => hnf (.inl h))
      rewrite [HL.out] at hle
      obtain ⟨tt, htt⟩ : ∃ tt, tt = Ni ns s := ⟨_, rfl⟩
      rewrite [← htt] at HNN htl
      have HTT := Gg htt
      have HNL := Gg (show H6 ns ++ (Ha s k tt).toList = H6 (ns ++ [M0 ns s k]) by rw [HNN.out, H6, H6, List.flatMap_append]; simp [NoteN.arr])
      have hE0 := addE_0 HNm1.out hnf HTA.out.symm
      have HOk1 := Gg (fun w' O oc hs => HOk.out hE0 w' O oc hs)
      generalize hgl : H6 (ns ++ [M0 ns s k]) = NL at HNL HOk1
      have ht1 : 0 ≤ tt := htl.1
      have ht2 : tt ≤ 256 := by have := htl.2; rw [HL.out] at this; omega
      clear HNo HOk HNN htl hs0 HB hnf HTA hgl hE0 htt
      go_upto_region 18 with (go_big_may; fail)
      go_upto_region 19 with (go_big_may; first | (refine L_buildN (d := some 70) rfl rfl rfl (Gw rfl) (Gw rfl) ?_) | (refine Gl 69 rfl (by rfl) uz32 rfl Gv (Ga.get 1 rfl) (Dig.size _) ?_) | (refine Gk 14 rfl GD ?_; (try clear Gb); intro g14 W14 Gb; replace Ga := Ga.tr1 Gb) | ((refine Gr 14 70 Ga rfl (by rfl) (Gw rfl) (Hg _ _ _) GD (GN _ _ _) 0 rfl (by rfl) ?_; clear Ga; intro WS4 Ga; simp only [Ge, Gf] at Ga)))
      go_upto_if 72 with (go_big_may; fail)
      (try clear Gb)
      go_simp
      go_cut [] (fun wx => St w wx [.blk g14 34 (Ha s k tt), .blk g6 27 (Jw none 0 0 none 0 0), .blk g5 32 k.arr, .blk g3 27 (Jw K m mc A i c)])
      case first =>
       cases hla : Ho ns s with
       | none =>
        obtain rfl : z = -1 := by rw [← HZ.out]; unfold M9; rw [hla]
        have HT0 := Gg (show Ha s k tt = Ha s k 0 by rw [HTT.out]; unfold Ni lastN?; rw [hla]; rfl)
        clear hla HTT HNL HOk1
        go_wp2_with fail
        go_meet
        case rel => rw [HT0.out]; exact Ga
       | some j =>
        obtain rfl : z = (j : Int) := by rw [← HZ.out]; unfold M9; rw [hla]
        have hjl := PC hla
        have hji : j < i := by rw [← HL.out]; exact hjl
        have HTe := Gg (show tt = ns[j].turn + 1 by rw [HTT.out]; unfold Ni lastN?; rw [hla]; simp only [Option.bind_some, List.getElem?_eq_getElem hjl])
        have HCt := Gg (fun (W : World) (g off : Nat) h => show W.cell? ⟨g, off + (j : Int).toNat * 34 + 33, none⟩ = some (.int .i64 ns[j].turn) from note_cells (W := W) (g := g) (off := off) (i := j) (ns := ns) h hjl 33 _ (by unfold NoteN.arr; rw [Array.getElem?_toList]; exact KN))
        generalize ns[j].turn = t0 at HCt HTe
        have hj1 : (0 : Int) ≤ (j : Int) := by omega
        have hb1 : -1 ≤ t0 := by have := HTe.out; omega
        have hb2 : t0 ≤ 255 := by have := HTe.out; omega
        clear hla HTT HNL HOk1 hjl ht1 ht2
        go_wp2_with (first | (refine Gj 78 rfl (by rfl) uz3 rfl (HCt.out _ _ _ hr76) ?_) | (refine Gj 74 rfl (by rfl) uz23 rfl (Gy (Ga.get 3 rfl) JT) ?_) | (refine Gp 76 rfl (by rfl) (by rfl) uz23 GD (Ga.old (by decide) HX.out) (by omega) (by omega) ?_; intro o76 p76 ha76 hr76; ((subst ha76))) | ((refine Gt 80 79 Ga rfl (by rfl) (Gw rfl) rfl Jo 0 rfl (by (rw [GN _ _ _]; decide)) ?_; clear Ga; intro WS8 Ga; simp only [Ge, Gf, ntArr_turn _ _ _ _] at Ga)))
        go_meet
        case rel => rw [HTe.out]; exact Ga
      case rest =>
       have Ga := hcut
       clear hcut HTT HZ
       go_upto_region 22 with (go_big_may; first | (refine L_buildQ0 (d := some 83) rfl rfl rfl (Gw rfl) ?_) | (refine Gj 82 rfl (by rfl) uz22 rfl (Gy (Ga.get 3 rfl) qlArr_0) ?_) | (refine Gk 15 rfl GL ?_; (try clear Gb); intro g15 W15 Gb; replace Ga := Ga.tr1 Gb) | ((refine Gr 15 83 Ga rfl (by rfl) (Gw rfl) (Kn _ _ _ _ _ _) GL (by rfl) 0 rfl (by rfl) ?_; clear Ga; intro WS4 Ga; simp only [Ge, Gf] at Ga)))
       go_simp
       go_cut [] (fun wx => ∃ (O : Option Addr) (oc : Nat), St w wx [.blk g15 27 (Jw K m mc O (i + 1) oc), .blk g6 27 (Jw none 0 0 none 0 0), .blk g3 27 (Jw K m mc A i c), .row O (i + 1) oc 34 34 NL])
       case first =>
        refine Ht (.one 1 0 (.one 2 0 (.two 0 2 (.two 3 1 (.one 4 2 (.one 5 2 (.one 6 1 (.one 7 2 (.one 8 1 .nil))))) 4 2 (.two 3 1 (.one 5 2 (.one 6 1 (.one 7 2 (.one 8 1 .nil)))) 5 2 (.one 3 1 (.one 6 1 (.one 7 2 (.one 8 1 .nil)))))) 4 2 (.two 0 2 (.two 3 1 (.one 5 2 (.one 6 1 (.one 7 2 (.one 8 1 .nil)))) 5 2 (.one 3 1 (.one 6 1 (.one 7 2 (.one 8 1 .nil))))) 5 2 (.one 0 2 (.one 3 1 (.one 6 1 (.one 7 2 (.one 8 1 .nil))))))))) (by kernel_rfl) (by kernel_rfl) ?_
        replace Ga := Ga.drew
        refine Pc rfl rfl (by kernel_rfl) ?_; go_wp2_with fail
        refine Kl rfl rfl ?_; go_wp2_with (refine Gj 86 rfl (by rfl) uz23 rfl (Gy (Ga.get 4 rfl) JT) ?_)
        refine JF (ki := 2) (kj := 2) rfl rfl ?_ ?_
        ·go_wp2_with (refine Gq 84 rfl [] (bs_0 ) rfl uz23 GD rfl (by (simp [Value.cells]; done)) (by decide) (by decide) ?_; (try clear Gb); intro g84 W84 Gb; replace Ga := Ga.tr1 Gb; simp only [List.flatMap_cons, List.flatMap_nil, List.append_nil, Value.cells, List.toList_toArray] at Ga); refine ⟨fun _ => (Gb.below), ?_⟩
         refine JF (ki := 1) (kj := 2) rfl rfl ?_ ?_
         ·go_wp2_with (refine GY (d := some 87) rfl rfl Ga rfl (by rfl) (by rfl) uz23 GD rfl (by decide) (by decide) 0 rfl (by rfl) (Ga.old (by decide) HX.out) (nt_ones _) (by omega) ?_; clear Ga; intro A87 c87 W87 Ga; simp only [Ge, Gf, List.nil_append, Nat.zero_add] at Ga); refine ⟨fun h => absurd h (by decide), ?_⟩
          refine G6 rfl ?_; go_wp2_with ((refine Gl 88 rfl (by rfl) uz34 rfl GD (Ga.get 2 rfl) (GN _ _ _) ?_)); refine Gh ?_
          refine G6 rfl ?_; go_wp2_with (refine Gq 89 rfl [_] (Kj (Gw rfl)) rfl uz23 GD rfl (by (simp [Value.cells]; done)) (by decide) (by decide) ?_; (try clear Gb); intro g89 W89 Gb; replace Ga := Ga.tr1 Gb; simp only [List.flatMap_cons, List.flatMap_nil, List.append_nil, Value.cells, List.toList_toArray] at Ga); refine Gi Gb ?_
          refine JA rfl ?_; go_wp2_with (refine GY (d := some 90) rfl rfl Ga rfl (by rfl) (by rfl) uz23 GD rfl (by decide) (by decide) 1 rfl (by (omega)) (Ga.sl 0 rfl) (Mh _ _ _) (by omega) ?_; clear Ga; intro A90 c90 W90 Ga; simp only [Ge, Gf, List.nil_append, Nat.zero_add] at Ga)
          refine G6 rfl ?_; go_wp2_with fail; refine Gh ?_
          refine JA rfl ?_; go_wp2_with ((refine Gt 91 90 Ga rfl (by rfl) (Gw rfl) rfl Mi 2 rfl (of_decide_eq_true rfl) ?_; clear Ga; intro WS8 Ga; simp only [Ge, Gf, Qc _ _ _] at Ga))
          refine H5 ?_
          go_wp2_with fail
          go_meet
          case rel => rewrite [HNL.out] at Ga; (exact ⟨_, _, Ga.pick [2, 4, 6, 1] (by decide)⟩)
         ·go_wp2_with ((refine Gl 88 rfl (by rfl) uz34 rfl GD (Ga.get 2 rfl) (GN _ _ _) ?_)); refine ⟨fun _ => (Below.refl _ _), ?_⟩
          refine JF (ki := 1) (kj := 2) rfl rfl ?_ ?_
          ·go_wp2_with (refine GY (d := some 87) rfl rfl Ga rfl (by rfl) (by rfl) uz23 GD rfl (by decide) (by decide) 0 rfl (by rfl) (Ga.old (by decide) HX.out) (nt_ones _) (by omega) ?_; clear Ga; intro A87 c87 W87 Ga; simp only [Ge, Gf, List.nil_append, Nat.zero_add] at Ga); refine ⟨fun h => absurd h (by decide), ?_⟩
           refine G6 rfl ?_; go_wp2_with (refine Gq 89 rfl [_] (Kj (Gw rfl)) rfl uz23 GD rfl (by (simp [Value.cells]; done)) (by decide) (by decide) ?_; (try clear Gb); intro g89 W89 Gb; replace Ga := Ga.tr1 Gb; simp only [List.flatMap_cons, List.flatMap_nil, List.append_nil, Value.cells, List.toList_toArray] at Ga); refine Gi Gb ?_
           refine JA rfl ?_; go_wp2_with (refine GY (d := some 90) rfl rfl Ga rfl (by rfl) (by rfl) uz23 GD rfl (by decide) (by decide) 1 rfl (by (omega)) (Ga.sl 0 rfl) (Mh _ _ _) (by omega) ?_; clear Ga; intro A90 c90 W90 Ga; simp only [Ge, Gf, List.nil_append, Nat.zero_add] at Ga)
           refine G6 rfl ?_; go_wp2_with fail; refine Gh ?_
           refine JA rfl ?_; go_wp2_with ((refine Gt 91 90 Ga rfl (by rfl) (Gw rfl) rfl Mi 2 rfl (of_decide_eq_true rfl) ?_; clear Ga; intro WS8 Ga; simp only [Ge, Gf, Qc _ _ _] at Ga))
           refine H5 ?_
           go_wp2_with fail
           go_meet
           case rel => rewrite [HNL.out] at Ga; (exact ⟨_, _, Ga.pick [2, 4, 6, 1] (by decide)⟩)
          ·go_wp2_with (refine Gq 89 rfl [_] (Kj (Gw rfl)) rfl uz23 GD rfl (by (simp [Value.cells]; done)) (by decide) (by decide) ?_; (try clear Gb); intro g89 W89 Gb; replace Ga := Ga.tr1 Gb; simp only [List.flatMap_cons, List.flatMap_nil, List.append_nil, Value.cells, List.toList_toArray] at Ga); refine ⟨fun _ => (Gb.below), ?_⟩
           refine JA rfl ?_; go_wp2_with (refine GY (d := some 87) rfl rfl Ga rfl (by rfl) (by rfl) uz23 GD rfl (by decide) (by decide) 1 rfl (by rfl) (Ga.old (by decide) HX.out) (nt_ones _) (by omega) ?_; clear Ga; intro A87 c87 W87 Ga; simp only [Ge, Gf, List.nil_append, Nat.zero_add] at Ga)
           refine JA rfl ?_; go_wp2_with (refine GY (d := some 90) rfl rfl Ga rfl (by rfl) (by rfl) uz23 GD rfl (by decide) (by decide) 1 rfl (by (omega)) (Ga.sl 0 rfl) (Mh _ _ _) (by omega) ?_; clear Ga; intro A90 c90 W90 Ga; simp only [Ge, Gf, List.nil_append, Nat.zero_add] at Ga)
           refine G6 rfl ?_; go_wp2_with fail; refine Gh ?_
           refine JA rfl ?_; go_wp2_with ((refine Gt 91 90 Ga rfl (by rfl) (Gw rfl) rfl Mi 2 rfl (of_decide_eq_true rfl) ?_; clear Ga; intro WS8 Ga; simp only [Ge, Gf, Qc _ _ _] at Ga))
           refine H5 ?_
           go_wp2_with fail
           go_meet
           case rel => rewrite [HNL.out] at Ga; (exact ⟨_, _, Ga.pick [2, 4, 6, 1] (by decide)⟩)
        ·go_wp2_with ((refine Gl 88 rfl (by rfl) uz34 rfl GD (Ga.get 1 rfl) (GN _ _ _) ?_)); refine ⟨fun _ => (Below.refl _ _), ?_⟩
         refine JF (ki := 2) (kj := 2) rfl rfl ?_ ?_
         ·go_wp2_with (refine Gq 84 rfl [] (bs_0 ) rfl uz23 GD rfl (by (simp [Value.cells]; done)) (by decide) (by decide) ?_; (try clear Gb); intro g84 W84 Gb; replace Ga := Ga.tr1 Gb; simp only [List.flatMap_cons, List.flatMap_nil, List.append_nil, Value.cells, List.toList_toArray] at Ga); refine ⟨fun _ => (Gb.below), ?_⟩
          refine JF (ki := 1) (kj := 2) rfl rfl ?_ ?_
          ·go_wp2_with (refine GY (d := some 87) rfl rfl Ga rfl (by rfl) (by rfl) uz23 GD rfl (by decide) (by decide) 0 rfl (by rfl) (Ga.old (by decide) HX.out) (nt_ones _) (by omega) ?_; clear Ga; intro A87 c87 W87 Ga; simp only [Ge, Gf, List.nil_append, Nat.zero_add] at Ga); refine ⟨fun h => absurd h (by decide), ?_⟩
           refine G6 rfl ?_; go_wp2_with (refine Gq 89 rfl [_] (Kj (Gw rfl)) rfl uz23 GD rfl (by (simp [Value.cells]; done)) (by decide) (by decide) ?_; (try clear Gb); intro g89 W89 Gb; replace Ga := Ga.tr1 Gb; simp only [List.flatMap_cons, List.flatMap_nil, List.append_nil, Value.cells, List.toList_toArray] at Ga); refine Gi Gb ?_
           refine JA rfl ?_; go_wp2_with (refine GY (d := some 90) rfl rfl Ga rfl (by rfl) (by rfl) uz23 GD rfl (by decide) (by decide) 1 rfl (by (omega)) (Ga.sl 0 rfl) (Mh _ _ _) (by omega) ?_; clear Ga; intro A90 c90 W90 Ga; simp only [Ge, Gf, List.nil_append, Nat.zero_add] at Ga)
           refine G6 rfl ?_; go_wp2_with fail; refine Gh ?_
           refine JA rfl ?_; go_wp2_with ((refine Gt 91 90 Ga rfl (by rfl) (Gw rfl) rfl Mi 2 rfl (of_decide_eq_true rfl) ?_; clear Ga; intro WS8 Ga; simp only [Ge, Gf, Qc _ _ _] at Ga))
           refine H5 ?_
           go_wp2_with fail
           go_meet
           case rel => rewrite [HNL.out] at Ga; (exact ⟨_, _, Ga.pick [2, 4, 6, 1] (by decide)⟩)
          ·go_wp2_with (refine Gq 89 rfl [_] (Kj (Gw rfl)) rfl uz23 GD rfl (by (simp [Value.cells]; done)) (by decide) (by decide) ?_; (try clear Gb); intro g89 W89 Gb; replace Ga := Ga.tr1 Gb; simp only [List.flatMap_cons, List.flatMap_nil, List.append_nil, Value.cells, List.toList_toArray] at Ga); refine ⟨fun _ => (Gb.below), ?_⟩
           refine JA rfl ?_; go_wp2_with (refine GY (d := some 87) rfl rfl Ga rfl (by rfl) (by rfl) uz23 GD rfl (by decide) (by decide) 1 rfl (by rfl) (Ga.old (by decide) HX.out) (nt_ones _) (by omega) ?_; clear Ga; intro A87 c87 W87 Ga; simp only [Ge, Gf, List.nil_append, Nat.zero_add] at Ga)
           refine JA rfl ?_; go_wp2_with (refine GY (d := some 90) rfl rfl Ga rfl (by rfl) (by rfl) uz23 GD rfl (by decide) (by decide) 1 rfl (by (omega)) (Ga.sl 0 rfl) (Mh _ _ _) (by omega) ?_; clear Ga; intro A90 c90 W90 Ga; simp only [Ge, Gf, List.nil_append, Nat.zero_add] at Ga)
           refine G6 rfl ?_; go_wp2_with fail; refine Gh ?_
           refine JA rfl ?_; go_wp2_with ((refine Gt 91 90 Ga rfl (by rfl) (Gw rfl) rfl Mi 2 rfl (of_decide_eq_true rfl) ?_; clear Ga; intro WS8 Ga; simp only [Ge, Gf, Qc _ _ _] at Ga))
           refine H5 ?_
           go_wp2_with fail
           go_meet
           case rel => rewrite [HNL.out] at Ga; (exact ⟨_, _, Ga.pick [2, 4, 6, 1] (by decide)⟩)
         ·go_wp2_with (refine Gq 89 rfl [_] (Kj (Gw rfl)) rfl uz23 GD rfl (by (simp [Value.cells]; done)) (by decide) (by decide) ?_; (try clear Gb); intro g89 W89 Gb; replace Ga := Ga.tr1 Gb; simp only [List.flatMap_cons, List.flatMap_nil, List.append_nil, Value.cells, List.toList_toArray] at Ga); refine ⟨fun _ => (Gb.below), ?_⟩
          refine G6 rfl ?_; go_wp2_with (refine Gq 84 rfl [] (bs_0 ) rfl uz23 GD rfl (by (simp [Value.cells]; done)) (by decide) (by decide) ?_; (try clear Gb); intro g84 W84 Gb; replace Ga := Ga.tr1 Gb; simp only [List.flatMap_cons, List.flatMap_nil, List.append_nil, Value.cells, List.toList_toArray] at Ga); refine Gi Gb ?_
          refine JA rfl ?_; go_wp2_with (refine GY (d := some 87) rfl rfl Ga rfl (by rfl) (by rfl) uz23 GD rfl (by decide) (by decide) 0 rfl (by rfl) (Ga.old (by decide) HX.out) (nt_ones _) (by omega) ?_; clear Ga; intro A87 c87 W87 Ga; simp only [Ge, Gf, List.nil_append, Nat.zero_add] at Ga)
          refine JA rfl ?_; go_wp2_with (refine GY (d := some 90) rfl rfl Ga rfl (by rfl) (by rfl) uz23 GD rfl (by decide) (by decide) 0 rfl (by (omega)) (Ga.sl 1 rfl) (Mh _ _ _) (by omega) ?_; clear Ga; intro A90 c90 W90 Ga; simp only [Ge, Gf, List.nil_append, Nat.zero_add] at Ga)
          refine G6 rfl ?_; go_wp2_with fail; refine Gh ?_
          refine JA rfl ?_; go_wp2_with ((refine Gt 91 90 Ga rfl (by rfl) (Gw rfl) rfl Mi 2 rfl (of_decide_eq_true rfl) ?_; clear Ga; intro WS8 Ga; simp only [Ge, Gf, Qc _ _ _] at Ga))
          refine H5 ?_
          go_wp2_with fail
          go_meet
          case rel => rewrite [HNL.out] at Ga; (exact ⟨_, _, Ga.pick [2, 4, 6, 0] (by decide)⟩)
       case rest =>
        obtain ⟨O, oc, Ga⟩ := hcut
        go_wp2_with fail
        refine Ht (.one 0 0 (.two 1 2 (.two 2 2 (.two 3 2 (.one 4 1 (.one 5 2 (.one 6 2 .nil))) 4 1 (.one 3 2 (.one 5 2 (.one 6 2 .nil)))) 4 1 (.one 2 2 (.one 3 2 (.one 5 2 (.one 6 2 .nil))))) 4 1 (.one 1 2 (.one 2 2 (.one 3 2 (.one 5 2 (.one 6 2 .nil))))))) (by kernel_rfl) (by kernel_rfl) ?_
        replace Ga := Ga.drew
        refine Kl rfl rfl ?_; go_wp2_with ((refine Gl 92 rfl (by rfl) uz27 rfl GL (Ga.get 0 rfl) (Hk _ _ _ _ _ _) ?_))
        refine JF (ki := 2) (kj := 1) rfl rfl ?_ ?_
        ·go_wp2_with fail; refine ⟨fun _ => (Below.refl _ _), ?_⟩
         refine JF (ki := 2) (kj := 1) rfl rfl ?_ ?_
         ·go_wp2_with (refine Gj 94 rfl (by rfl) uz23 rfl (Gy (Ga.get 2 rfl) JT) ?_); refine ⟨fun _ => (Below.refl _ _), ?_⟩
          refine JF (ki := 2) (kj := 1) rfl rfl ?_ ?_
          ·go_wp2_with fail; refine ⟨fun _ => (Below.refl _ _), ?_⟩
           refine JA rfl ?_; go_wp2_with ((refine Gr 6 92 Ga rfl (by rfl) (Gw rfl) (Kn _ _ _ _ _ _) GL (by rfl) 1 rfl (by rfl) ?_; clear Ga; intro WS4 Ga; simp only [Ge, Gf] at Ga))
           refine G6 rfl ?_; go_wp2_with fail; refine Gh ?_
           refine G6 rfl ?_; go_wp2_with fail; refine Gh ?_
           refine H5 ?_
           go_wp2_with fail
           refine NO rfl rfl rfl rfl rfl (Ga.get 1 rfl) uz27 rfl GL (Hk _ _ _ _ _ _) ?_
           exact HOk1.out _ _ _ (Ga.pick [3] (by decide))
          ·go_wp2_with ((refine Gr 6 92 Ga rfl (by rfl) (Gw rfl) (Kn _ _ _ _ _ _) GL (by rfl) 1 rfl (by rfl) ?_; clear Ga; intro WS4 Ga; simp only [Ge, Gf] at Ga)); refine ⟨fun h => absurd h (by decide), ?_⟩
           refine G6 rfl ?_; go_wp2_with fail; refine Gh ?_
           refine G6 rfl ?_; go_wp2_with fail; refine Gh ?_
           refine G6 rfl ?_; go_wp2_with fail; refine Gh ?_
           refine H5 ?_
           go_wp2_with fail
           refine NO rfl rfl rfl rfl rfl (Ga.get 1 rfl) uz27 rfl GL (Hk _ _ _ _ _ _) ?_
           exact HOk1.out _ _ _ (Ga.pick [3] (by decide))
         ·go_wp2_with ((refine Gr 6 92 Ga rfl (by rfl) (Gw rfl) (Kn _ _ _ _ _ _) GL (by rfl) 1 rfl (by rfl) ?_; clear Ga; intro WS4 Ga; simp only [Ge, Gf] at Ga)); refine ⟨fun h => absurd h (by decide), ?_⟩
          refine G6 rfl ?_; go_wp2_with (refine Gj 94 rfl (by rfl) uz23 rfl (Gy (Ga.get 2 rfl) JT) ?_); refine Gh ?_
          refine G6 rfl ?_; go_wp2_with fail; refine Gh ?_
          refine G6 rfl ?_; go_wp2_with fail; refine Gh ?_
          refine G6 rfl ?_; go_wp2_with fail; refine Gh ?_
          refine H5 ?_
          go_wp2_with fail
          refine NO rfl rfl rfl rfl rfl (Ga.get 1 rfl) uz27 rfl GL (Hk _ _ _ _ _ _) ?_
          exact HOk1.out _ _ _ (Ga.pick [3] (by decide))
        ·go_wp2_with ((refine Gr 6 92 Ga rfl (by rfl) (Gw rfl) (Kn _ _ _ _ _ _) GL (by rfl) 1 rfl (by rfl) ?_; clear Ga; intro WS4 Ga; simp only [Ge, Gf] at Ga)); refine ⟨fun h => absurd h (by decide), ?_⟩
         refine G6 rfl ?_; go_wp2_with fail; refine Gh ?_
         refine G6 rfl ?_; go_wp2_with (refine Gj 94 rfl (by rfl) uz23 rfl (Gy (Ga.get 2 rfl) JT) ?_); refine Gh ?_
         refine G6 rfl ?_; go_wp2_with fail; refine Gh ?_
         refine G6 rfl ?_; go_wp2_with fail; refine Gh ?_
         refine G6 rfl ?_; go_wp2_with fail; refine Gh ?_
         refine H5 ?_
         go_wp2_with fail
         refine NO rfl rfl rfl rfl rfl (Ga.get 1 rfl) uz27 rfl GL (Hk _ _ _ _ _ _) ?_
         exact HOk1.out _ _ _ (Ga.pick [3] (by decide))
end
section
open Go.RowKit
theorem pureV_strAdd {P : Program} {ρ : Operand → Value} {o : Oper} {t t' : TypeId} {x y : Operand} {s u : ByteArray} (ho : o.op = .binOp .add t x y t') (hx : ρ x = .string s) (hy : ρ y = .string u) (hz : s.size + u.size ≤ 9223372036854775807) : Pb P (execOp ρ o) := by
 refine Pb.of_run (v := .string (s ++ u)) fun W => ?_
 unfold execOp
 simp only [ho, hx, hy]
 have h1 : (eqGuard .add t x y (.string s) (.string u)).run P W = .ok () W := by simp [eqGuard]
 have h2 : (Go.binOp .add t (.string s) (.string u)).run P W = .ok (.string (s ++ u)) W := by
  show (Op.stringOp .add s u).run P W = _
  have h3 : ¬ (((s.size + u.size : Nat) : Int) > IntKind.i64.max) := by
   have : IntKind.i64.max = 9223372036854775807 := rfl
   rw [this]
   omega
  simp only [Op.stringOp, if_neg h3, Sem.run_pure]
 simp [h1, h2]
end
section
open Go.ChangeShapes Go.WideShapes Go.RowKit
theorem cellsP : Tryz.prog.cellsOf 268 = 20 := by kernel_rfl
theorem cells8p : Tryz.prog.cellsOf 203 = 1 := by kernel_rfl
theorem gPow : Tryz.prog.globalNamed "internal/strconv.uint64pow10" = some 3 := by kernel_rfl
theorem gPowType : (Tryz.prog.globals[3]?).map (·.type) = some 268 := by kernel_rfl
theorem pz_of {W : World} {rest : List (String × DataW Unit)} (h : laidMet Tryz.prog (("internal/strconv.uint64pow10", Lib.tabData .u64 Lib.pow10Tab) :: rest) W) : Pz W :=
 Lib.tabIs_of_head gPow gPowType uz268 uz203 cells8p cellsP h
theorem laid_p {W : World} (h : laidMet Tryz.prog [("math/bits.deBruijn32tab", Rows.laid_math_bits_deBruijn32tab), ("math/bits.deBruijn64tab", Rows.laid_math_bits_deBruijn64tab), ("internal/strconv.uint64pow10", Rows.laid_internal_strconv_uint64pow10), ("oathbook/sha.rounds", Rows.laid_oathbook_sha_rounds)] W) : Tb W ∧ Pz W :=
 ⟨tb_of (laidMet.tail (laidMet.tail (laidMet.tail h))), pz_of (laidMet.tail (laidMet.tail h))⟩
def d32Arr : Array Value := (Lib.deBruijn32tab.map fun (k : Nat) => Value.int .u8 (k : Int)).toArray
def d64Arr : Array Value := (Lib.deBruijn64tab.map fun (k : Nat) => Value.int .u8 (k : Int)).toArray
def pwArr : Array Value := (Lib.pow10Tab.map fun (k : Int) => Value.int .u64 k).toArray
end
end Go.Proofs.YtaebeemnipafbaaGreatDoor
