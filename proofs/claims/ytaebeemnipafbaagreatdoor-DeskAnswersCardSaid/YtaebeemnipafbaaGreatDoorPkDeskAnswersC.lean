/-
  Proved here, ahead of the law: DeskAnswers: the law returns true for every input, and leaves its arguments as they were.
-/
import Derived.Test.YtaebeemnipafbaaGreatDoorPkDeskAnswersB
import Derived.Test.YtaebeemnipafbaaGreatDoorDrawT
import Derived.Test.YtaebeemnipafbaaGreatDoorPkDeskAnswersA
import Derived.Test.YtaebeemnipafbaaGreatDoorSq
import Derived.Test.YtaebeemnipafbaaGreatDoorSkip
import Derived.Test.YtaebeemnipafbaaGreatDoorLeafs
import Derived.Test.YtaebeemnipafbaaGreatDoorLawC
import Derived.Test.YtaebeemnipafbaaGreatDoorRefSum
import Derived.Test.YtaebeemnipafbaaGreatDoorEqS
import Derived.Test.YtaebeemnipafbaaGreatDoorStrEq
import Derived.Test.YtaebeemnipafbaaGreatDoorRefNum
set_option linter.unusedSimpArgs false
set_option linter.unusedVariables false
set_option maxRecDepth 100000
set_option maxHeartbeats 200000000
namespace Go.Proofs.YtaebeemnipafbaaGreatDoor
section
open Go.RowKit
attribute [local simp] GN
theorem add_ok_hi (key : List UInt8) (ns : List NoteN) (s : List UInt8) (k : Dig) (p : LgP) (w0 w : World) (L : List Res) (hT : Tb w0) (Ga : St w0 w (lgL p key ns ++ L)) (hm : MapsOf ns p.nm p.am) (hl : Logged ns) (he : Kk ns s = 0) (x : NoteN × Nat × Dig) (hx : Mk ns s = some x) (hi : JQ (Jf s) p.am = some s) :
  Calls Tryz.prog 10 #[.pointer (some ⟨p.g, 0, none⟩), .string (GZ s), k.v] w (AddEnd key ns s k p w0 L) := by
 have HT := Gg hT
 obtain ⟨hs, hlen, hnc, hid⟩ := KI he
 have HN := Gg (fun w => by have := JW s w; rw [hs] at this; exact this)
 have HE := Gg he
 have HI := Gg (fun (w' : World) (h : Tb w') => M6 s w' h (by have := J0 hs; omega))
 have HO := Gg hm.ksO
 have HD := Gg hm.nd
 have HOA := Gg hm.ksOA
 have HDA := Gg hm.ndA
 have HS := Gg (sV_ok hs)
 have HSA := Gg (kInt_ok (n := Jf s) (by have := Mo s; omega))
 have hf2 : ¬ (256 : Int) ≤ (ns.length : Int) := by omega
 have HM := Gg (hm.add he k)
 have htl := hl.turn_le s
 have HLF := Gg (fun (w' : World) (h : Tb w') => leafOf_any (M0 ns s k) w' h (hl.new_ok hs k))
 have HLV := Gg (lvN_snoc ns (M0 ns s k))
 have hx4 := (atName_some hx).2.2.2
 have htu : Ni ns s = x.1.turn + 1 := by unfold Ni; rw [hx4]
 have HL := Gg (show JQ s p.nm = some x by rw [hm.look]; exact hx)
 have HL2 := Gg hi
 have HEQ := Gg (show (!decide (s = s)) = false by simp)
 simp only [lgL, Gc, Gd] at Ga
 obtain ⟨g, m, c, lc, Mn, Ma, A, O, nm, am⟩ := p
 obtain ⟨⟨a1, a2, a3⟩, a4, a5⟩ := x
 simp only at *
 obtain ⟨n', hn'⟩ : ∃ n', n' = M0 ns s k := ⟨_, rfl⟩
 obtain ⟨df, hdf⟩ : ∃ df, df = Jm (M0 ns s k) := ⟨_, rfl⟩
 have HDF := Gg hdf
 have HNN := Gg hn'
 rw [← hn'] at HM hdf HLF HLV
 rw [← hdf] at HLF HLV HM
 have hn2 : (n'.name = s ∧ n'.key = k ∧ n'.turn = Ni ns s) := by rw [hn']; exact ⟨rfl, rfl, rfl⟩
 obtain ⟨q1, q2, q3⟩ := hn2
 rw [q1, q2, q3] at HLF
 obtain ⟨tt, htt⟩ : ∃ tt, tt = Ni ns s := ⟨_, rfl⟩
 rw [← htt] at HLF htl htu q3
 have hn3 : n' = ⟨s, k, tt⟩ := NoteN.ext' q1 q2 q3
 generalize Jf s = ix at *
 have HTT := Gg htu
 have ha3 : 0 ≤ a3 + 1 ∧ a3 + 1 ≤ 256 := by omega
 obtain ⟨ha31, ha32⟩ := ha3
 have hl256 : ns.length ≤ 256 := by omega
 clear hT hs hm hl he hx hi htl hdf hn' hid hnc hlen q1 q2 q3 htu hx4 htt
 subst hn3
 go_enter Tryz.func10, Tryz.ntmps10
 go_upto_region 1 with (go_big_may; (refine Gm 5 rfl (Gw rfl) ?_; (try clear Gb); intro g5 W5 Gb; replace Ga := Ga.tr1 Gb))
 go_upto_region 3 with (go_big_may; (go_at_call 34; (try clear Gb); refine (HN.out _).mono ?_; rintro e Wk1 ⟨rfl, Gb⟩; replace Ga := Ga.keep Gb))
 go_upto_region 4 with (go_big_may; first | (refine PE (fk := sV) (fv := lsV) (y := s) (l := nm) (d := some 26) rfl rfl rfl Kz uz77 Hi (Gw rfl) (Gw rfl) NK HO.out HD.out HS.out (Ga.obj 4 rfl) HL.out ?_) | (refine Gj 24 rfl (by rfl) uz77 rfl (Gy (Ga.get 1 rfl) KY) ?_) | (refine Gk 8 rfl Hi ?_; (try clear Gb); intro g8 W8 Gb; replace Ga := Ga.tr1 Gb) | ((refine Gr 8 27 Ga rfl (by rfl) (Gw rfl) (MH _ _ _ _ _) Hi (M1 _ _ _ _ _) 0 rfl (by rfl) ?_; clear Ga; intro WS10 Ga; simp only [Ge, Gf] at Ga)))
 go_upto_region 6 with (first | (with_reducible refine GI (t := 39) rfl (by kernel_rfl) ?_) | (with_reducible refine GI (t := 40) rfl (by kernel_rfl) ?_) | (with_reducible refine GI (t := 41) rfl (by kernel_rfl) ?_) | (with_reducible refine GI (t := 42) rfl (by kernel_rfl) ?_) | (with_reducible refine GI (t := 43) rfl (by kernel_rfl) ?_) | (with_reducible refine GI (t := 44) rfl (by kernel_rfl) ?_) | (go_big_may; (refine Gj 32 rfl (by rfl) uz44 rfl (Gy (Ga.get 2 rfl) KH) ?_)))
 go_upto_region 7 with (go_big_may; (go_at_call 35; (try clear Gb); refine (HI.out _ (HT.out.of Ga)).mono ?_; rintro e Wk2 ⟨rfl, Gb⟩; replace Ga := Ga.keep Gb))
 go_upto_region 8 with (go_big_may; first | (refine PE (fk := M2) (fv := sV) (y := ix) (l := am) (d := some 56) rfl rfl rfl M7 uz78 M8 (Gw rfl) (Gw rfl) N1 HOA.out HDA.out HSA.out (Ga.obj 6 rfl) HL2.out ?_) | (refine Gj 54 rfl (by rfl) uz78 rfl (Gy (Ga.get 2 rfl) PR) ?_))
 go_upto_region 10 with (go_big_may; (refine MW (d := some 63) rfl rfl rfl MD uz9 (Gw rfl) (Gw rfl) ?_; (try rw [HEQ.out])))
 go_upto_region 11 with (go_big_may; first | (refine L_buildN (d := some 68) rfl rfl rfl (Gw rfl) (Gw rfl) ?_) | (refine Gl 67 rfl (by rfl) uz32 rfl Gv (Ga.get 1 rfl) (Dig.size _) ?_) | (refine Gk 13 rfl GD ?_; (try clear Gb); intro g13 W13 Gb; replace Ga := Ga.tr1 Gb) | ((refine Gr 13 68 Ga rfl (by rfl) (Gw rfl) (Hg _ _ _) GD (GN _ _ _) 0 rfl (by rfl) ?_; clear Ga; intro WS4 Ga; simp only [Ge, Gf] at Ga)))
 go_upto_region 12 with (go_big_may; fail)
 (try clear Gb)
 go_upto_region 13 with (go_big_may; first | (refine Gj 72 rfl (by rfl) uz3 rfl (Gy (Ga.get 1 rfl) lsArr_33) ?_) | ((refine Gt 74 73 Ga rfl (by rfl) (Gw rfl) rfl Jo 0 rfl (by (simp; done)) ?_; clear Ga; intro WS5 Ga; simp only [Ge, Gf, ntArr_turn _ _ _ _] at Ga)))
 rw [← HTT.out] at Ga
 go_upto_region 14 with (go_big_may; first | (go_at_call 36; (try clear Gb); refine (HLF.out _ (HT.out.of Ga)).mono ?_; rintro e Wk3 ⟨rfl, Gb⟩; replace Ga := Ga.keep Gb) | (refine Gl 76 rfl (by rfl) uz34 rfl GD (Ga.get 0 rfl) (GN _ _ _) ?_) | (refine Gk 14 rfl Gv ?_; (try clear Gb); intro g14 W14 Gb; replace Ga := Ga.tr1 Gb) | ((refine Gr 14 78 Ga rfl (by rfl) (Gw rfl) (Dig.one _) Gv (Dig.size _) 0 rfl (by rfl) ?_; clear Ga; intro WS6 Ga; simp only [Ge, Gf] at Ga)))
 go_upto_region 16 with (go_big_may; fail)
 clear Gb
 refine GO [(0, 0), (1, 0), (2, 0), (3, 0), (4, 0), (5, 0), (6, 0), (7, 0), (8, 0), (9, 0), (10, 0), (11, 2), (12, 2), (13, 1)] (by kernel_rfl) (by kernel_rfl) ?_
 replace Ga := Ga.drew
 refine GG rfl rfl ?_; go_wp2_with fail
 refine GG rfl rfl ?_; go_wp2_with fail
 refine H8 rfl rfl (by kernel_rfl) ?_; go_wp2_with fail
 refine GG rfl rfl ?_; go_wp2_with (refine Gj 86 rfl (by rfl) uz77 rfl (Gy (Ga.get 4 rfl) KY) ?_)
 refine GG rfl rfl ?_; go_wp2_with fail
 refine GG rfl rfl ?_; go_wp2_with ((refine Gl 88 rfl (by rfl) uz34 rfl GD (Ga.get 1 rfl) (GN _ _ _) ?_))
 refine GG rfl rfl ?_; go_wp2_with fail
 refine GG rfl rfl ?_; go_wp2_with fail
 refine H8 rfl rfl (by kernel_rfl) ?_; go_wp2_with fail
 refine GG rfl rfl ?_; go_wp2_with (refine Gj 92 rfl (by rfl) uz44 rfl (Gy (Ga.get 4 rfl) KH) ?_)
 refine GG rfl rfl ?_; go_wp2_with (fail)
 refine GA rfl ?_; go_wp2_with ((refine Gl 94 rfl (by rfl) uz32 rfl Gv (Ga.get 0 rfl) (Dig.size _) ?_)); refine Gh ?_
 refine GA rfl ?_; go_wp2_with (refine L_buildL (d := some 95) rfl rfl rfl (Gw rfl) (Gw rfl) (Gw rfl) ?_); refine Gh ?_
 refine J6 rfl ?_; go_wp2_with (refine L_mapUpd (fk := sV) (fv := lsV) (l := nm) (u := s) (v := (⟨s, k, tt⟩, ns.length, df)) rfl rfl Ga rfl Kz uz77 (Gw rfl) (Gw rfl) (Gw rfl) NK HO.out HD.out HS.out 7 rfl ?_; clear Ga; intro WM Ga; simp only [Ge, Gf] at Ga)
 refine G5 ?_
 go_upto_region 18 with (go_big_may; first | (refine L_mapUpd (fk := M2) (fv := sV) (l := am) (u := ix) (v := s) rfl rfl Ga rfl M7 uz78 (Gw rfl) (Gw rfl) (Gw rfl) N1 HOA.out HDA.out HSA.out 8 rfl ?_; clear Ga; intro WN Ga; simp only [Ge, Gf] at Ga) | (refine Gj 99 rfl (by rfl) uz78 rfl (Gy (Ga.get 4 rfl) PR) ?_))
 refine Ht (.one 0 3 (.one 1 3 (.one 2 0 (.one 3 0 (.one 4 0 (.one 5 2 (.one 6 2 (.one 7 1 (.one 8 2 (.one 9 2 (.one 10 1 .nil))))))))))) (by kernel_rfl) (by kernel_rfl) ?_
 replace Ga := Ga.drew
 refine Jj rfl rfl ?_; go_wp2_with fail
 refine Jj rfl rfl ?_; go_wp2_with fail
 refine Kl rfl rfl ?_; go_wp2_with fail
 refine Pc rfl rfl (by kernel_rfl) ?_; go_wp2_with fail
 refine Kl rfl rfl ?_; go_wp2_with (refine Gj 106 rfl (by rfl) uz44 rfl (Gy (Ga.get 4 rfl) KH) ?_)
 refine G6 rfl ?_; go_wp2_with ((refine Gl 107 rfl (by rfl) uz32 rfl Gv (Ga.get 0 rfl) (Dig.size _) ?_)); refine Gh ?_
 refine G6 rfl ?_; go_wp2_with (refine Gq 108 rfl [_] (Kj (Gw rfl)) rfl uz44 Gv rfl (by (simp [Value.cells, Dig.size]; done)) (by decide) (by decide) ?_; (try clear Gb); intro g108 W108 Gb; replace Ga := Ga.tr1 Gb; simp only [List.flatMap_cons, List.flatMap_nil, List.append_nil, Value.cells, List.toList_toArray] at Ga); refine Gi Gb ?_
 refine JA rfl ?_; go_wp2_with (refine GY (d := some 109) rfl rfl Ga rfl (by rfl) (by rfl) uz44 Gv rfl (by decide) (by decide) 7 rfl (by rfl) (Ga.sl 0 rfl) (GX) (by omega) ?_; clear Ga; intro A109 c109 W109 Ga; simp only [Ge, Gf, List.nil_append, Nat.zero_add] at Ga)
 refine G6 rfl ?_; go_wp2_with fail; refine Gh ?_
 refine G6 rfl ?_; go_wp2_with fail; refine Gh ?_
 refine JA rfl ?_; go_wp2_with ((refine Gt 111 109 Ga rfl (by rfl) (Gw rfl) rfl JS 5 rfl (of_decide_eq_true rfl) ?_; clear Ga; intro WS10 Ga; simp only [Ge, Gf, lgArr_s1 _ _ _, HLV.out] at Ga))
 refine H5 ?_
 go_wp2_with (refine Gj 115 rfl (by rfl) uz44 rfl (Gy (Ga.get 5 rfl) KH) ?_)
 go_ret2
 refine .inl ⟨HE.out, ?_, ⟨g, m, c, c109, Mn, Ma, A, A109, PI s (⟨s, k, tt⟩, ns.length, df) nm, PI ix s am⟩, rfl, rfl, ?_, ?_⟩
 ·(rfl)
 ·rw [← HNN.out]
  exact HM.out
 ·simp only [lgL, Gc, Gd]
  rw [← HNN.out, snoc_len]
  exact Ga.tail.tail.tail.tail.tail
theorem add_any (key : List UInt8) (ns : List NoteN) (s : List UInt8) (k : Dig) (p : LgP) (w0 w : World) (L : List Res) (hT : Tb w0) (Ga : St w0 w (lgL p key ns ++ L)) (hm : MapsOf ns p.nm p.am) (hl : Logged ns) :
  Calls Tryz.prog 10 #[.pointer (some ⟨p.g, 0, none⟩), .string (GZ s), k.v] w (AddEnd key ns s k p w0 L) := by
 cases hs : JM s with
 | false => exact add_unnamed key ns s k p w0 w L Ga hs
 | true =>
  by_cases hf : 256 ≤ ns.length
  ·exact add_full1 key ns s k p w0 w L Ga hm hs hf
  by_cases hc : Ho ns s = none ∧ 64 ≤ Kg ns
  ·exact add_full2 key ns s k p w0 w L Ga hm hs hf hc.1 hc.2
  cases ht : MM ns s with
  | true => exact add_twice key ns s k p w0 w L hT Ga hm hs hf hc ht
  | false =>
   have he : Kk ns s = 0 := by unfold Kk; rw [if_pos hs, if_neg (not_or.2 ⟨hf, hc⟩), if_neg (by rw [ht]; decide)]
   cases hx : Mk ns s with
   | some x =>
    refine add_ok_hi key ns s k p w0 w L hT Ga hm hl he x hx ?_
    obtain ⟨h1, h2, _, _⟩ := atName_some hx
    obtain ⟨n, h3, h4⟩ := JO h1
    exact (hm.lookA_ _ _).2 ⟨n, List.mem_of_getElem? h3, h4, rfl⟩
   | none =>
    refine add_ok_nn key ns s k p w0 w L hT Ga hm hl he hx ?_
    cases hi : JQ (Jf s) p.am with
    | none => rfl
    | some t =>
     exfalso
     by_cases hts : t = s
     ·subst hts
      obtain ⟨n, h1, h2, _⟩ := (hm.lookA_ _ _).1 hi
      have h3 := MT ns t
      rw [hx] at h3
      cases h4 : Ho ns t with
      | none => exact (Nz.1 h4) n h1 h2
      | some j => rw [h4] at h3; cases h3
     ·have := (hm.taken s).2 ⟨t, hi, hts⟩
      rw [ht] at this
      cases this
end
section
open Go.RowKit
theorem mapN_nil : Jz [] = GM := mRoot_zero (fun _ _ _ => rfl)
theorem addU_any (key : List UInt8) (ns : List NoteN) (s : List UInt8) (k : Dig) (p : LgP) (w0 w : World) (L : List Res) (hT : Tb w0) (Ga : St w0 w (lgL p key ns ++ L)) (hm : MapsOf ns p.nm p.am) (hl : Logged ns) :
  Calls Tryz.prog 10 #[.pointer (some ⟨p.g, 0, none⟩), .string (GZ s), k.v] w fun e w' =>
   e = .returned (.tuple #[.int .i64 (if Kk ns s = 0 then (ns.length : Int) else 0), if Kk ns s = 0 then .nilIface else JL (Kk ns s)]) ∧ ∃ p' : LgP, p'.g = p.g ∧ p'.m = p.m ∧ MapsOf (addL ns s k) p'.nm p'.am ∧ St w0 w' (lgL p' key (addL ns s k) ++ L) := by
 refine (add_any key ns s k p w0 w L hT Ga hm hl).mono ?_
 rintro e w' (⟨h0, rfl, p', h1, h2, h3, h4⟩ | ⟨h0, rfl, h4⟩)
 ·unfold addL
  rw [if_pos h0, if_pos h0, if_pos h0]
  exact ⟨rfl, p', h1, h2, h3, h4⟩
 ·unfold addL
  rw [if_neg h0, if_neg h0, if_neg h0]
  exact ⟨rfl, p, rfl, rfl, hm, h4⟩
theorem note_name {W : World} {g off i : Nat} {ns : List NoteN} (h : W.rangeAt g (off + (i : Int).toNat * 34) (((H6 ns).drop ((i : Int).toNat * 34)).take 34)) (hi : i < ns.length) : W.cell? ⟨g, off + (i : Int).toNat * 34 + 0, none⟩ = some (.string (GZ ns[i].name)) :=
 note_cells h hi 0 _ rfl
end
section
open Go.RowKit
attribute [local simp] GN
def Jw (K : Option Addr) (m mc : Nat) (A : Option Addr) (n c : Nat) : Array Value := #[.slice K m mc, .slice A n c]
section
variable {K : Option Addr} {m mc : Nat} {A : Option Addr} {n c : Nat}
theorem qlArr_0 : (Jw K m mc A n c)[0]? = some (.slice K m mc) := rfl
theorem JT : (Jw K m mc A n c)[1]? = some (.slice A n c) := rfl
theorem Qc (A' : Option Addr) (n' c' : Nat) : (Jw K m mc A n c).setIfInBounds 1 (.slice A' n' c') = Jw K m mc A' n' c' := rfl
end
theorem Hk (K : Option Addr) (m mc : Nat) (A : Option Addr) (n c : Nat) : (Jw K m mc A n c).size = 2 := rfl
theorem Kn (K : Option Addr) (m mc : Nat) (A : Option Addr) (n c : Nat) : (Jw K m mc A n c).all (·.oneCell') = true := by simp [Jw, Value.oneCell']
theorem GL : GW Tryz.prog 27 (.agg (Jw none 0 0 none 0 0)) 2 48 := by unfold GW; kernel_rfl
section
variable {ops : Array Oper} {rest : List Oper} {o : Oper} {a : Act} {W : World} {Q : Exit → Act → World → Prop} {d : Option Tmp}
theorem L_buildQ0 (hd : o.dst = d) (hw : Region.wanted o (yielded ops a.tmps) = true) {x : Operand} (ho : o.op = .build 27 #[(0, x)]) {K : Option Addr} {m mc : Nat} (hx : a.eval x = .slice K m mc)
  (h : wpList Tryz.prog ops Q rest (a.put d (.agg (Jw K m mc none 0 0))) W) : wpList Tryz.prog ops Q (o :: rest) a W :=
 Mb hd hw ho uz27 GL [(0, 1), (1, 1)] (by kernel_rfl) (ps := [(0, .slice K m mc)]) (by simp [hx]) (qs := [(0, [.slice K m mc])]) ⟨rfl, rfl, by simp [Hk], trivial⟩ rfl h
end
def M9 (ns : List NoteN) (s : List UInt8) : Int := match Ho ns s with | some j => (j : Int) | none => -1
theorem lastI_take {ns : List NoteN} {j : Nat} (h : j < ns.length) (s : List UInt8) : Ho (ns.take (j + 1)) s = if ns[j].name = s then some j else Ho (ns.take j) s := by
 rw [List.take_succ_eq_append_getElem h, Ny, List.length_take, Nat.min_eq_left (by omega)]
theorem rlast_any (K : Option Addr) (m mc : Nat) (ns : List NoteN) (s : List UInt8) (A : Option Addr) (n c : Nat) (w : World) (hx : SlR w A n c 34 (H6 ns)) (hn : n ≤ 1000000) :
  Calls Tryz.prog 32 #[.agg (Jw K m mc A n c), .string (GZ s)] w fun e w' => e = .returned (.int .i64 (M9 ns s)) ∧ St w w' [] := by
 have Ga := St.refl w
 have hl : ns.length = n := by have := hx.1; rw [JB] at this; omega
 have HL := Gg hl
 have HX := Gg hx
 clear hl hx
 go_enter Tryz.func32, Tryz.ntmps32
 go_upto_region 1 with (go_big_may; (refine Gm 2 rfl (Gw rfl) ?_; (try clear Gb); intro g2 W2 Gb; replace Ga := Ga.tr1 Gb))
 go_wp2_with (refine Gj 7 rfl (by rfl) uz23 rfl (Gy (Ga.get 0 rfl) JT) ?_)
 go_loopg [5] n (fun gk s5 wr => ∃ k : Nat, Hid (k = gk ∧ k ≤ n ∧ Ho (ns.take k) s = Ho ns s) ∧ s5 = .int .i64 ((k : Int) - 1) ∧ St w wr [.blk g2 27 (Jw K m mc A n c)])
 case atStart => exact ⟨n, Lib.hid ⟨rfl, Nat.le_refl _, by rw [List.take_of_length_le (by rw [HL.out]; exact Nat.le_refl _)]⟩, by go_num, Ga⟩
 case round =>
  clear Ga
  obtain ⟨k, HK, rfl, Ga⟩ := hrel
  have hk := HK.out.2.1
  cases k with
  | zero =>
   have HE := Gg (show M9 ns s = -1 by unfold M9; rw [← HK.out.2.2]; rfl)
   clear HK
   go_upto_region 6 with (go_big_may; fail)
   go_wp2_with (fail)
   go_ret
   exact ⟨by rw [HE.out]; rfl, Ga.forget⟩
  | succ j =>
   rw [show (((j + 1 : Nat) : Int) - 1) = (j : Int) by omega]
   have hj : j < ns.length := by rw [HL.out]; omega
   have HC := Gg (fun (W : World) (g off : Nat) h => note_name (W := W) (g := g) (off := off) (i := j) (ns := ns) h hj)
   have ht := lastI_take hj s
   obtain ⟨u, hu⟩ : ∃ u, u = ns[j].name := ⟨_, rfl⟩
   rw [← hu] at ht HC
   have hjn : j < n := by omega
   clear hu hj hk
   by_cases hus : u = s
   ·rw [if_pos hus] at ht
    have HE := Gg (show M9 ns s = (j : Int) by unfold M9; rw [← HK.out.2.2, ht])
    have HS := Gg (show decide (u = s) = true from decide_eq_true hus)
    clear HK ht hus
    go_upto_region 4 with (go_big_may; fail)
    go_upto_region 5 with (go_big_may; first | (refine Gj 19 rfl (by rfl) uz9 rfl (HC.out _ _ _ hr17) ?_) | (refine Gj 15 rfl (by rfl) uz23 rfl (Gy (Ga.get 0 rfl) JT) ?_) | (refine Gp 17 rfl (by rfl) (by rfl) uz23 GD (Ga.old (by decide) HX.out) (by omega) (by omega) ?_; intro o17 p17 ha17 hr17; ((subst ha17))) | (refine Ja (d := some 21) rfl rfl rfl MD uz9 (Gw rfl) (Gw rfl) ?_; (try rw [HS.out])))
    go_wp2_with (fail)
    go_ret
    exact ⟨by rw [HE.out]; rfl, Ga.forget⟩
   ·rw [if_neg hus] at ht
    have HS := Gg (show decide (u = s) = false from decide_eq_false hus)
    have HT := Gg ht
    clear ht hus
    go_upto_region 4 with (go_big_may; fail)
    go_upto_region 3 with (go_big_may; first | (refine Gj 19 rfl (by rfl) uz9 rfl (HC.out _ _ _ hr17) ?_) | (refine Gj 15 rfl (by rfl) uz23 rfl (Gy (Ga.get 0 rfl) JT) ?_) | (refine Gp 17 rfl (by rfl) (by rfl) uz23 GD (Ga.old (by decide) HX.out) (by omega) (by omega) ?_; intro o17 p17 ha17 hr17; ((subst ha17))) | (refine Ja (d := some 21) rfl rfl rfl MD uz9 (Gw rfl) (Gw rfl) ?_; (try rw [HS.out])))
    go_wp2_with (fail)
    go_roundg j
    case measure => have := HK.out.1; omega
    case rel => exact ⟨j, Lib.hid ⟨rfl, by omega, by rw [← HT.out]; exact HK.out.2.2⟩, by go_num, Ga⟩
theorem PU (K : Option Addr) (m mc : Nat) (ns : List NoteN) (A : Option Addr) (n c : Nat) (w : World) (hx : SlR w A n c 34 (H6 ns)) (hok : ∀ x ∈ ns, JN x = true) (hn : n ≤ 256) :
  Calls Tryz.prog 18 #[.agg (Jw K m mc A n c)] w fun e w' => ∃ O oc, e = .returned (.slice O n oc) ∧ St w w' [.row O n oc 32 32 (GP (lvN ns))] := by
 have Ga := St.refl w
 have hl : ns.length = n := by have := hx.1; rw [JB] at this; omega
 have HL := Gg hl
 have HX := Gg hx
 have HOk := Gg (fun (i : Nat) (h : i < ns.length) => hok ns[i] (List.getElem_mem h))
 clear hl hx hok
 go_enter Tryz.func18, Tryz.ntmps18
 go_upto_region 1 with (go_big_may; (refine Gm 1 rfl (Gw rfl) ?_; (try clear Gb); intro g1 W1 Gb; replace Ga := Ga.tr1 Gb))
 go_upto_region 2 with (go_big_may; fail)
 go_wp2_with (fail)
 replace Ga := Ga.nilRow 32 32
 go_loopg [3, 4] n (fun gk s3 s4 wr => ∃ (i : Nat) (O : Option Addr) (oc : Nat), Hid (i + gk = n) ∧ s3 = .slice O i oc ∧ s4 = .int .i64 (i : Int) ∧ St w wr [.row O i oc 32 32 (GP (lvN (ns.take i))), .blk g1 27 (Jw K m mc A n c)])
 case atStart => exact ⟨0, none, 0, Gg (by omega), rfl, rfl, Ga⟩
 case round =>
  clear Ga
  obtain ⟨i, O, oc, HI, rfl, rfl, Ga⟩ := hrel
  have hi := HI.out
  by_cases hin : i < n
  ·have hil : i < ns.length := by rw [HL.out]; exact hin
   have HC := Gg (fun (W : World) (g off : Nat) h => note_cells (W := W) (g := g) (off := off) (i := i) (ns := ns) h hil)
   have HW := Gg (fun w => rnoteB_any ns[i] w (HOk.out i hil))
   have HE := Gg (show GP (lvN (ns.take i)) ++ (Jm ns[i]).arr.toList = GP (lvN (ns.take (i + 1))) by
    unfold lvN GP
    rw [List.take_succ_eq_append_getElem hil, List.map_append, List.flatMap_append, Dig.toList]
    simp only [List.map_cons, List.map_nil, List.flatMap_cons, List.flatMap_nil, List.append_nil])
   have HLf := Gg (show Jm ns[i] = leafBN (KZ ns[i]) from rfl)
   have hlb : (KZ ns[i]).length ≤ 67 := by
    have := HOk.out i hil
    unfold JN at this
    rw [Bool.and_eq_true] at this
    have := J0 this.1
    rw [Nh]
    omega
   unfold NoteN.arr at HC
   obtain ⟨x, hx⟩ : ∃ x, x = ns[i] := ⟨_, rfl⟩
   rw [← hx] at HC HW HE HLf hlb
   clear hx hil hi
   generalize KZ x = bs at *
   generalize Jm x = lf at *
   go_upto_region 5 with (go_big_may; (refine Gj 9 rfl (by rfl) uz23 rfl (Gy (Ga.get 1 rfl) JT) ?_))
   go_upto_region 6 with (go_big_may; first | (refine Gn 19 rfl (by rfl) uz34 rfl GD (HC.out _ _ _ hr18) (GN _ _ _) ?_) | (go_at_call 49; (try clear Gb); refine (HW.out _).mono ?_; rintro e Wn ⟨On, on, rfl, Gb⟩; replace Ga := Ga.trans Gb; simp only [Gc, Gd] at Ga) | (refine Gj 16 rfl (by rfl) uz23 rfl (Gy (Ga.get 1 rfl) JT) ?_) | (refine Gp 18 rfl (by rfl) (by rfl) uz23 GD (Ga.old (by decide) HX.out) (by omega) (by omega) ?_; intro o18 p18 ha18 hr18; ((subst ha18))))
   go_upto_region 4 with (go_big_may; first | (go_at_call 50; (try clear Gb); refine (rleaf_any bs _ _ _ _ (Ga.sl 0 rfl) (by omega)).mono ?_; rintro e Wk1 ⟨rfl, Gb⟩; replace Ga := Ga.keep Gb) | (refine Gq 26 rfl [_] (Kj (Gw rfl)) rfl uz44 Gv rfl (by (simp [Value.cells, Dig.size]; done)) (by decide) (by decide) ?_; (try clear Gb); intro g26 W26 Gb; replace Ga := Ga.tr1 Gb; simp only [List.flatMap_cons, List.flatMap_nil, List.append_nil, Value.cells, List.toList_toArray] at Ga) | (refine GY (d := some 27) rfl rfl Ga rfl (by rfl) (by rfl) uz44 Gv rfl (by decide) (by decide) 2 rfl (by rfl) (Ga.sl 0 rfl) (GX) (by omega) ?_; clear Ga; intro A27 c27 W27 Ga; simp only [Ge, Gf, List.nil_append, Nat.zero_add] at Ga))
   go_wp2_with (fail)
   rw [← HLf.out, HE.out] at Ga
   go_roundg (gk - 1)
   case measure => have := HI.out; omega
   case rel => exact ⟨i + 1, _, _, Gg (by have := HI.out; omega), rfl, by go_num, Ga.pick [2, 3] (by decide)⟩
  ·obtain rfl : i = n := by omega
   have HE := Gg (show ns.take i = ns from List.take_of_length_le (by rw [HL.out]; exact Nat.le_refl _))
   rw [HE.out] at Ga
   clear hi HI HE
   go_upto_region 7 with (go_big_may; (refine Gj 9 rfl (by rfl) uz23 rfl (Gy (Ga.get 1 rfl) JT) ?_))
   go_wp2_with (fail)
   go_ret
   exact ⟨_, _, rfl, Ga.pick [0] (by decide)⟩
def cN (ns : List NoteN) (i : Nat) : Nat := ((List.range i).filter fun i => decide ((ns[i]?.bind fun n => Ho ns n.name) = some i)).length
theorem cN_all (ns : List NoteN) : cN ns ns.length = Kg ns := rfl
theorem cN_le (ns : List NoteN) (i : Nat) : cN ns i ≤ i := by
 have := List.length_filter_le (fun i => decide ((ns[i]?.bind fun n => Ho ns n.name) = some i)) (List.range i)
 rw [List.length_range] at this
 exact this
theorem lastZ_iff (ns : List NoteN) (s : List UInt8) (i : Nat) : M9 ns s = (i : Int) ↔ Ho ns s = some i := by
 unfold M9
 cases Ho ns s with
 | none => simp
 | some j => simp; omega
theorem cN_s {ns : List NoteN} {i : Nat} (h : i < ns.length) : cN ns (i + 1) = if M9 ns ns[i].name = (i : Int) then cN ns i + 1 else cN ns i := by
 have e : (ns[i]?.bind fun n => Ho ns n.name) = Ho ns ns[i].name := by rw [List.getElem?_eq_getElem h]; rfl
 unfold cN
 rw [List.range_succ, List.filter_append, List.length_append]
 by_cases hc : M9 ns ns[i].name = (i : Int)
 ·rw [if_pos hc]
  rw [lastZ_iff] at hc
  simp [List.filter_cons, e, hc]
 ·rw [if_neg hc]
  rw [lastZ_iff] at hc
  simp [List.filter_cons, e, hc]
end
section
open Go.RowKit
attribute [local simp] Jq
theorem lvN_get {ns : List NoteN} {i : Nat} (h : i < ns.length) : (lvN ns)[i]'(by rw [NE]; exact h) = Jm ns[i] := by simp [lvN]
theorem rentries_any (K : Option Addr) (m mc : Nat) (ns : List NoteN) (A : Option Addr) (n c : Nat) (w : World) (hx : SlR w A n c 34 (H6 ns)) (hok : ∀ x ∈ ns, JN x = true) (hn : n ≤ 256) :
  Calls Tryz.prog 43 #[.agg (Jw K m mc A n c)] w fun e w' => ∃ O oc, e = .returned (.slice O (NM ns n).length oc) ∧ St w w' [.row O (NM ns n).length oc 110 33 (Jc (NM ns n))] := by
 have Ga := St.refl w
 have hl : ns.length = n := by have := hx.1; rw [JB] at this; omega
 have HL := Gg hl
 have HX := Gg hx
 have HOk := Gg (fun (i : Nat) (h : i < ns.length) => hok ns[i] (List.getElem_mem h))
 have HLv := Gg (fun (w' : World) (h : SlR w' A n c 34 (H6 ns)) => PU K m mc ns A n c w' h hok hn)
 have HLs := Gg (fun (s : List UInt8) (w' : World) (h : SlR w' A n c 34 (H6 ns)) => rlast_any K m mc ns s A n c w' h (by omega))
 clear hl hx hok
 go_enter Tryz.func43, Tryz.ntmps43
 go_upto_region 1 with (go_big_may; (refine Gm 1 rfl (Gw rfl) ?_; (try clear Gb); intro g1 W1 Gb; replace Ga := Ga.tr1 Gb))
 go_upto_region 2 with (go_big_may; fail)
 go_upto_region 3 with (go_big_may; first | (go_at_call 18; (try clear Gb); refine (HLv.out _ (Ga.old (by decide) HX.out)).mono ?_; rintro e Wl ⟨Ol, ol, rfl, Gb⟩; replace Ga := Ga.trans Gb; simp only [Gc, Gd] at Ga) | (refine Gl 6 rfl (by rfl) uz27 rfl GL (Ga.get 0 rfl) (Hk _ _ _ _ _ _) ?_))
 go_wp2_with (fail)
 (try clear Gb)
 replace Ga := Ga.nilRow 110 33
 have he0 : NM ns 0 = [] := rfl
 go_loopg [3, 5] n (fun gk s3 s5 wr => ∃ (i l : Nat) (O : Option Addr) (oc : Nat), Hid (i + gk = n) ∧ Hid (l = (NM ns i).length) ∧ s3 = .slice O l oc ∧ s5 = .int .i64 (i : Int) ∧ St w wr [.row O l oc 110 33 (Jc (NM ns i)), .row Ol n ol 32 32 (GP (lvN ns)), .blk g1 27 (Jw K m mc A n c)])
 case atStart => exact ⟨0, 0, none, 0, Gg (by omega), Lib.hid rfl, rfl, rfl, Ga⟩
 case round =>
  clear Ga he0
  obtain ⟨i, l, O, oc, HI, HLn, rfl, rfl, Ga⟩ := hrel
  have hi := HI.out
  by_cases hin : i < n
  ·have hil : i < ns.length := by rw [HL.out]; exact hin
   have HC := Gg (fun (W : World) (g off : Nat) h => note_name (W := W) (g := g) (off := off) (i := i) (ns := ns) h hil)
   have HDg := Gg (by
    have := MQ (lvN ns) i (by rw [NE]; exact hil)
    rw [lvN_get hil] at this
    exact this)
   have hes := entR_s hil
   have hiz := lastZ_iff ns ns[i].name i
   have hnb := HOk.out i hil
   unfold JN at hnb
   rw [Bool.and_eq_true] at hnb
   have hsz := (J0 hnb.1).2
   have hll : l ≤ 256 := by have h1 := HLn.out; have h2 := entR_len ns i; omega
   obtain ⟨x, hx⟩ : ∃ x, x = ns[i] := ⟨_, rfl⟩
   rw [← hx] at HC HDg hes hiz hsz
   have HIx := Gg (fun w' => MA x.name w' (by omega))
   obtain ⟨a1, a2, a3⟩ := x
   simp only at HC hes hiz hsz HIx
   generalize Jm ⟨a1, a2, a3⟩ = lf at *
   have HLs2 := Gg (fun (w' : World) h => HLs.out a1 w' h)
   clear hx hnb hil hi hsz
   generalize M9 ns a1 = z at *
   generalize Jf a1 = ix at *
   obtain ⟨U, hU⟩ : ∃ U, U = NM ns i := ⟨_, rfl⟩
   have HUl := Gg (show l = U.length by rw [hU]; exact HLn.out)
   rw [← hU] at hes Ga
   by_cases c1 : Ho ns a1 = some i
   ·have e1 : (z == (i : Int)) = true := by rw [hiz.2 c1]; simp
    rw [if_pos c1] at hes
    have HU := Gg hes
    have HE := Gg (show Jc U ++ (J7 (ix : Int) lf).toList = Jc (U ++ [(ix, lf)]) by rw [entL_app, ent_one])
    clear hU hes HLn c1 hiz
    go_upto_region 6 with (go_big_may; (refine Gj 10 rfl (by rfl) uz23 rfl (Gy (Ga.get 2 rfl) JT) ?_))
    refine GO [(0, 0), (1, 0), (2, 0), (3, 0), (4, 0), (5, 0), (6, 0), (8, 0), (7, 2), (9, 2)] (by kernel_rfl) (by kernel_rfl) ?_
    replace Ga := Ga.drew
    refine GG rfl rfl ?_; go_wp2_with ((refine Gl 15 rfl (by rfl) uz27 rfl GL (Ga.get 2 rfl) (Hk _ _ _ _ _ _) ?_))
    refine H8 rfl rfl (by kernel_rfl) ?_; go_wp2_with fail
    refine GG rfl rfl ?_; go_wp2_with (refine Gj 17 rfl (by rfl) uz23 rfl (Gy (Ga.get 2 rfl) JT) ?_)
    refine GG rfl rfl ?_; go_wp2_with fail
    refine GG rfl rfl ?_; go_wp2_with (refine Gp 19 rfl (by rfl) (by rfl) uz23 GD (Ga.old (by decide) HX.out) (by omega) (by omega) ?_; intro o19 p19 ha19 hr19; ((subst ha19)))
    refine H8 rfl rfl (by kernel_rfl) ?_; go_wp2_with fail
    refine GG rfl rfl ?_; go_wp2_with (refine Gj 21 rfl (by rfl) uz9 rfl (HC.out _ _ _ hr19) ?_)
    refine GG rfl rfl ?_; go_wp2_with fail
    refine GA rfl ?_; go_wp2_with ((go_at_call 32; (try clear Gb); refine (HLs2.out _ (Ga.old (by decide) HX.out)).mono ?_; rintro e Wz ⟨rfl, Gb⟩; replace Ga := Ga.keep Gb)); refine Gi Gb ?_
    refine GA rfl ?_; go_wp2_with (fail); refine Gh ?_
    refine G5 ?_
    go_upto_region 7 with fail
    (try clear Gb)
    refine J3 [(0, 0), (1, 0), (2, 0), (3, 0), (4, 0), (5, 0), (6, 0), (8, 0), (9, 0), (10, 0), (11, 0), (7, 2), (12, 2), (13, 2), (14, 1), (15, 2)] (by kernel_rfl) (by kernel_rfl) ?_
    replace Ga := Ga.drew
    refine GG rfl rfl ?_; go_wp2_with fail
    refine H8 rfl rfl (by kernel_rfl) ?_; go_wp2_with fail
    refine GG rfl rfl ?_; go_wp2_with (refine Gj 27 rfl (by rfl) uz23 rfl (Gy (Ga.get 2 rfl) JT) ?_)
    refine GG rfl rfl ?_; go_wp2_with fail
    refine GG rfl rfl ?_; go_wp2_with (refine Gp 29 rfl (by rfl) (by rfl) uz23 GD (Ga.old (by decide) HX.out) (by omega) (by omega) ?_; intro o29 p29 ha29 hr29; ((obtain ⟨h1, h2⟩ := Jb ha29; subst h1; subst h2; clear ha29)))
    refine H8 rfl rfl (by kernel_rfl) ?_; go_wp2_with fail
    refine GG rfl rfl ?_; go_wp2_with (refine Gj 31 rfl (by rfl) uz9 rfl (HC.out _ _ _ hr29) ?_)
    refine GG rfl rfl ?_; go_wp2_with fail
    refine GG rfl rfl ?_; go_wp2_with fail
    refine GG rfl rfl ?_; go_wp2_with (refine Gp 35 rfl (by rfl) (by rfl) uz44 Gv (Ga.sl 1 rfl) (by omega) (by omega) ?_; intro o35 p35 ha35 hr35; ((subst ha35)))
    refine GG rfl rfl ?_; go_wp2_with (refine Gn 36 rfl (by rfl) uz32 rfl Gv (cs := lf.arr) (by rw [Dig.toList, ← HDg.out]; exact hr35) (Dig.size _) ?_)
    refine GA rfl ?_; go_wp2_with ((go_at_call 33; (try clear Gb); refine (HIx.out _).mono ?_; rintro e Wz ⟨rfl, Gb⟩; replace Ga := Ga.keep Gb)); refine Gi Gb ?_
    refine GA rfl ?_; go_wp2_with (refine L_buildE (d := some 37) rfl rfl rfl (Gw rfl) (Gw rfl) ?_); refine Gh ?_
    refine GA rfl ?_; go_wp2_with (refine Gq 38 rfl [_] (Kj (Gw rfl)) rfl uz93 Hc rfl (by (simp [Value.cells]; done)) (by decide) (by decide) ?_; (try clear Gb); intro g38 W38 Gb; replace Ga := Ga.tr1 Gb; simp only [List.flatMap_cons, List.flatMap_nil, List.append_nil, Value.cells, List.toList_toArray] at Ga); refine Gi Gb ?_
    refine J6 rfl ?_; go_wp2_with (refine GY (d := some 39) rfl rfl Ga rfl (by rfl) (by rfl) uz93 Hc rfl (by decide) (by decide) 1 rfl (by rfl) (Ga.sl 0 rfl) (NH _ _) (by omega) ?_; clear Ga; intro A39 c39 W39 Ga; simp only [Ge, Gf, List.nil_append, Nat.zero_add] at Ga)
    refine GA rfl ?_; go_wp2_with fail; refine Gh ?_
    refine G5 ?_
    go_wp2_with (fail)
    rw [HE.out, ← HU.out] at Ga
    go_roundg (gk - 1)
    case measure => have := HI.out; omega
    case rel => exact ⟨i + 1, l + 1, _, _, Gg (by have := HI.out; omega), Gg (by rw [HU.out, List.length_append, List.length_singleton, ← HUl.out]), rfl, by go_num, Ga.pick [1, 2, 3] (by decide)⟩
   ·have e1 : (z == (i : Int)) = false := by rw [beq_eq_false_iff_ne]; exact fun h => c1 (hiz.1 h)
    rw [if_neg c1] at hes
    have HU := Gg hes
    clear hU hes HLn c1 hiz
    go_upto_region 6 with (go_big_may; (refine Gj 10 rfl (by rfl) uz23 rfl (Gy (Ga.get 2 rfl) JT) ?_))
    refine GO [(0, 0), (1, 0), (2, 0), (3, 0), (4, 0), (5, 0), (6, 0), (8, 0), (7, 2), (9, 2)] (by kernel_rfl) (by kernel_rfl) ?_
    replace Ga := Ga.drew
    refine GG rfl rfl ?_; go_wp2_with ((refine Gl 15 rfl (by rfl) uz27 rfl GL (Ga.get 2 rfl) (Hk _ _ _ _ _ _) ?_))
    refine H8 rfl rfl (by kernel_rfl) ?_; go_wp2_with fail
    refine GG rfl rfl ?_; go_wp2_with (refine Gj 17 rfl (by rfl) uz23 rfl (Gy (Ga.get 2 rfl) JT) ?_)
    refine GG rfl rfl ?_; go_wp2_with fail
    refine GG rfl rfl ?_; go_wp2_with (refine Gp 19 rfl (by rfl) (by rfl) uz23 GD (Ga.old (by decide) HX.out) (by omega) (by omega) ?_; intro o19 p19 ha19 hr19; ((subst ha19)))
    refine H8 rfl rfl (by kernel_rfl) ?_; go_wp2_with fail
    refine GG rfl rfl ?_; go_wp2_with (refine Gj 21 rfl (by rfl) uz9 rfl (HC.out _ _ _ hr19) ?_)
    refine GG rfl rfl ?_; go_wp2_with fail
    refine GA rfl ?_; go_wp2_with ((go_at_call 32; (try clear Gb); refine (HLs2.out _ (Ga.old (by decide) HX.out)).mono ?_; rintro e Wz ⟨rfl, Gb⟩; replace Ga := Ga.keep Gb)); refine Gi Gb ?_
    refine GA rfl ?_; go_wp2_with (fail); refine Gh ?_
    refine G5 ?_
    go_wp2_with (fail)
    rw [← HU.out] at Ga
    go_roundg (gk - 1)
    case measure => have := HI.out; omega
    case rel => exact ⟨i + 1, l, _, _, Gg (by have := HI.out; omega), Gg (by rw [HU.out]; exact HUl.out), rfl, by go_num, Ga⟩
  ·obtain rfl : i = n := by omega
   obtain rfl := HLn.out
   clear hi HI HLn
   go_upto_region 8 with (go_big_may; (refine Gj 10 rfl (by rfl) uz23 rfl (Gy (Ga.get 2 rfl) JT) ?_))
   go_wp2_with (fail)
   go_ret
   exact ⟨_, _, rfl, Ga.pick [0] (by decide)⟩
end
section
open Go.RowKit
theorem Pt (l r : Dig) (w : World) : Calls Tryz.prog 86 #[l.v, r.v] w fun e w' => e = .returned (Mm l r).v ∧ St w w' [] := by
 have Ga := St.refl w
 have HD := Gg (show GP [l, r] = l.arr.toList ++ r.arr.toList by simp [GP, Dig.toList])
 go_enter Tryz.func86, Tryz.ntmps86
 go_wp2_with (first | (go_at_call 122; (try clear Gb); refine (rof_any 1 [l, r] _ _ _ _ (by rw [HD.out]; exact Ga.sl 0 rfl) (by decide)).mono ?_; rintro e Wk1 ⟨rfl, Gb⟩; replace Ga := Ga.keep Gb) | (refine Gm 2 rfl (Gw rfl) ?_; (try clear Gb); intro g2 W2 Gb; replace Ga := Ga.tr1 Gb) | (refine Gm 3 rfl (Gw rfl) ?_; (try clear Gb); intro g3 W3 Gb; replace Ga := Ga.tr1 Gb) | (refine Gk 4 rfl Gv ?_; (try clear Gb); intro g4 W4 Gb; replace Ga := Ga.tr1 Gb) | (refine Gl 5 rfl (by rfl) uz32 rfl Gv (Ga.get 2 rfl) (Dig.size _) ?_) | (refine Gl 6 rfl (by rfl) uz32 rfl Gv (Ga.get 1 rfl) (Dig.size _) ?_) | (refine Gq 7 rfl [_, _] (bs_2 (Gw rfl) (Gw rfl)) rfl uz44 Gv rfl (by (simp [Value.cells, Dig.size]; done)) (by decide) (by decide) ?_; (try clear Gb); intro g7 W7 Gb; replace Ga := Ga.tr1 Gb; simp only [List.flatMap_cons, List.flatMap_nil, List.append_nil, Value.cells, List.toList_toArray] at Ga) | ((refine Gr 4 8 Ga rfl (by rfl) (Gw rfl) (Dig.one _) Gv (by rfl) 1 rfl (by rfl) ?_; clear Ga; intro WS4 Ga; simp only [Ge, Gf] at Ga)))
 refine Hw rfl rfl rfl (Ga.get 1 rfl) uz32 rfl Gv (by rfl) ?_
 exact ⟨rfl, Ga.forget⟩
theorem NN (n : Nat) (h2 : 2 ≤ n) (hn : n ≤ 256) (w : World) : Calls Tryz.prog 48 #[.int .i64 (n : Int)] w fun e w' => e = .returned (.int .i64 (GH n : Int)) ∧ St w w' [] := by
 have Ga := St.refl w
 go_enter Tryz.func48, Tryz.ntmps48
 go_wp2_with (fail)
 go_loopg [3] (n - 1) (fun gk s3 wr => ∃ (k j : Nat), Hid (k + gk = n) ∧ Hid (k = 2 ^ j) ∧ k < n ∧ 0 < k ∧ s3 = .int .i64 (k : Int) ∧ St w wr [])
 case atStart => exact ⟨1, 0, Gg (by omega), Lib.hid rfl, by omega, by omega, rfl, Ga⟩
 case round =>
  clear Ga
  obtain ⟨k, j, HI, HJ, hkn, hk0, rfl, Ga⟩ := hrel
  have hi := HI.out
  by_cases hin : 2 * k < n
  ·clear hi
   go_wp2_with (fail)
   go_roundg (n - 2 * k)
   case measure => have hi := HI.out; omega
   case rel =>
    have hi := HI.out
    exact ⟨2 * k, j + 1, Gg (by omega), Gg (by rw [HJ.out, Nat.pow_succ]; omega), hin, by omega, by go_num, Ga⟩
  ·have hh := halfN_of j HJ.out hkn (by omega)
   have HH := Gg hh
   clear hi HI hh HJ
   go_wp2_with (fail)
   go_ret
   exact ⟨by rw [HH.out]; rfl, Ga⟩
theorem longN_le : ∀ (n i : Nat), Jn i n ≤ n := by
 intro n
 induction n using Nat.strongRecOn with
 | ind n ih =>
 intro i
 by_cases h : n < 2
 ·rw [P9 i h]; exact Nat.zero_le _
 ·have h1 := Ju n (by omega)
  have h2 := Jl n
  by_cases hi : i < GH n
  ·rw [NC (by omega) hi]; have := ih _ h1 i; omega
  ·rw [M4 (by omega) hi]; have := ih (n - GH n) (by omega) (i - GH n); omega
theorem rlong_any : ∀ (n i : Nat) (w : World), i < n → n ≤ 256 → Calls Tryz.prog 55 #[.int .i64 (i : Int), .int .i64 (n : Int)] w fun e w' => e = .returned (.int .i64 (Jn i n : Int)) ∧ St w w' [] := by
 intro n
 induction n using Nat.strongRecOn with
 | ind n ih =>
 intro i w hin hn
 have Ga := St.refl w
 by_cases h1 : n = 1
 ·subst h1
  rw [P9 i (by omega)]
  go_enter Tryz.func55, Tryz.ntmps55
  go_wp2_with (fail)
  go_ret
  exact ⟨rfl, Ga⟩
 ·have hlt := Ju n (by omega)
  have hps := Jl n
  have h1' : ¬ (n : Int) = 1 := by omega
  have HF := Gg (fun w => NN n (by omega) (by omega) w)
  by_cases hk : i < GH n
  ·have HN := Gg (show Jn i n = Jn i (GH n) + 1 from NC (by omega) hk)
   have hle := longN_le (GH n) i
   have HI := Gg (fun w => ih (GH n) hlt i w hk (by omega))
   rw [HN.out]
   generalize GH n = k at *
   generalize Jn i k = r at *
   go_enter Tryz.func55, Tryz.ntmps55
   go_wp2_with (first | (go_at_call 48; (try clear Gb); refine (HF.out _).mono ?_; rintro e Wk2 ⟨rfl, Gb⟩; replace Ga := Ga.keep Gb) | (go_at_call 55; (try clear Gb); refine (HI.out _).mono ?_; rintro e Wk3 ⟨rfl, Gb⟩; replace Ga := Ga.keep Gb))
   go_ret
   exact ⟨congrArg Ending.returned (by go_num), Ga⟩
  ·have HN := Gg (show Jn i n = Jn (i - GH n) (n - GH n) + 1 from M4 (by omega) hk)
   have hle := longN_le (n - GH n) (i - GH n)
   have HI := Gg (fun w => ih (n - GH n) (by omega) (i - GH n) w (by omega) (by omega))
   rw [HN.out]
   have e1 : (((i - GH n : Nat)) : Int) = (i : Int) - (GH n : Int) := by omega
   have e2 : (((n - GH n : Nat)) : Int) = (n : Int) - (GH n : Int) := by omega
   rw [e1, e2] at HI
   clear e1 e2
   generalize Jn (i - GH n) (n - GH n) = r at *
   generalize GH n = k at *
   go_enter Tryz.func55, Tryz.ntmps55
   go_wp2_with (first | (go_at_call 48; (try clear Gb); refine (HF.out _).mono ?_; rintro e Wk4 ⟨rfl, Gb⟩; replace Ga := Ga.keep Gb) | (go_at_call 55; (try clear Gb); refine (HI.out _).mono ?_; rintro e Wk5 ⟨rfl, Gb⟩; replace Ga := Ga.keep Gb))
   go_ret
   exact ⟨congrArg Ending.returned (by go_num), Ga⟩
theorem Qd (path : List Dig) (m : Nat) (hl : path.length = m + 1) : ∃ rest p, path = rest ++ [p] ∧ rest.length = m ∧ ((GP path).drop (m * 32)).take 32 = p.arr.toList ∧ ((GP path).drop (0 * 32)).take ((m - 0) * 32) = GP rest := by
 refine ⟨path.take m, path[m]'(by omega), ?_, by rw [List.length_take]; omega, by rw [Dig.toList]; exact MQ path m (by omega), ?_⟩
 ·have := List.take_succ_eq_append_getElem (l := path) (i := m) (by omega)
  rw [← this, List.take_of_length_le (by omega)]
 ·rw [J5]
  rfl
theorem rfolded_any : ∀ (n : Nat) (l : Dig) (path : List Dig) (A : Option Addr) (m c i : Nat) (w : World), SlR w A m c 32 (GP path) → m = Jn i n → i < n → n ≤ 256 →
  Calls Tryz.prog 56 #[l.v, .int .i64 (i : Int), .int .i64 (n : Int), .slice A m c] w fun e w' => e = .returned (JY l i n path).v ∧ St w w' [] := by
 intro n
 induction n using Nat.strongRecOn with
 | ind n ih =>
 intro l path A m c i w hx hm hin hn
 have Ga := St.refl w
 have hl : path.length = m := by have := hx.1; rw [G8] at this; omega
 have hcap := hx.2.1
 have hmax := hx.2.2.1
 simp only [maxLen] at hmax
 by_cases h1 : n = 1
 ·subst h1
  rw [foldedN_one l i (by omega)]
  clear hm hl
  go_enter Tryz.func56, Tryz.ntmps56
  go_wp2_with (first | (refine Gm 4 rfl (Gw rfl) ?_; (try clear Gb); intro g4 W4 Gb; replace Ga := Ga.tr1 Gb) | (refine Gk 8 rfl Gv ?_; (try clear Gb); intro g8 W8 Gb; replace Ga := Ga.tr1 Gb) | (refine Gl 14 rfl (by rfl) uz32 rfl Gv (Ga.get 1 rfl) (Dig.size _) ?_) | ((refine Gr 8 14 Ga rfl (by rfl) (Gw rfl) (Dig.one _) Gv (Dig.size _) 0 rfl (by rfl) ?_; clear Ga; intro WS1 Ga; simp only [Ge, Gf] at Ga)))
  refine Hw rfl rfl rfl (Ga.get 0 rfl) uz32 rfl Gv (Dig.size _) ?_
  exact ⟨rfl, Ga.forget⟩
 ·have hlt := Ju n (by omega)
  have hps := Jl n
  have h1' : ¬ (n : Int) = 1 := by omega
  have HF := Gg (fun w => NN n (by omega) (by omega) w)
  by_cases hk : i < GH n
  ·rw [NC (by omega) hk] at hm
   obtain ⟨rest, p, rfl, hr, hp, hc⟩ := Qd path (Jn i (GH n)) (by omega)
   rw [foldedN_left l (by omega) hk rest p hr]
   obtain ⟨r, hr'⟩ : ∃ r, r = Jn i (GH n) := ⟨_, rfl⟩
   rw [← hr'] at hm hp hc
   subst hm
   have HP := Gg (show ((GP (rest ++ [p])).drop ((r : Int).toNat * 32)).take 32 = p.arr.toList from hp)
   have HC := Gg hc
   have HI := Gg (fun A c w hs => ih (GH n) hlt l rest A r c i w hs hr' hk (by omega))
   clear hr hr' hp hc hl ih
   generalize JY l i (GH n) rest = u at *
   generalize GH n = k at *
   go_enter Tryz.func56, Tryz.ntmps56
   go_wp2_with (first | (go_at_call 48; (try clear Gb); refine (HF.out _).mono ?_; rintro e Wk6 ⟨rfl, Gb⟩; replace Ga := Ga.keep Gb) | (refine Gn 22 rfl (by rfl) uz32 rfl Gv (cs := p.arr) (by rw [← HP.out]; exact hr21) (Dig.size _) ?_) | (refine Gm 4 rfl (Gw rfl) ?_; (try clear Gb); intro g4 W4 Gb; replace Ga := Ga.tr1 Gb) | (refine Gk 8 rfl Gv ?_; (try clear Gb); intro g8 W8 Gb; replace Ga := Ga.tr1 Gb) | (refine Gp 21 rfl (by rfl) (by rfl) uz44 Gv (Ga.old (by decide) hx) (by omega) (by omega) ?_; intro o21 p21 ha21 hr21; ((subst ha21))) | (refine Gk 10 rfl Gv ?_; (try clear Gb); intro g10 W10 Gb; replace Ga := Ga.tr1 Gb) | ((refine Gr 10 22 Ga rfl (by rfl) (Gw rfl) (Dig.one _) Gv (Dig.size _) 0 rfl (by rfl) ?_; clear Ga; intro WS7 Ga; simp only [Ge, Gf] at Ga)) | (refine Ku (d := some 27) rfl rfl rfl (by rfl) uz44 Gv (by decide) hx 0 r _ (Or.inl ⟨rfl, rfl⟩) (Or.inr ⟨_, _, rfl, by (exact Gw rfl)⟩) (Or.inl ⟨rfl, rfl⟩) (by omega) (by omega) (by omega) (by omega) ?_; intro A27 c27 hs27))
   (try clear Gb)
   refine GO [(0, 0), (1, 0), (2, 0), (3, 0), (5, 0), (4, 2), (6, 2), (7, 1)] (by kernel_rfl) (by kernel_rfl) ?_
   replace Ga := Ga.drew
   refine GG rfl rfl ?_; go_wp2_with ((refine Gl 31 rfl (by rfl) uz32 rfl Gv (Ga.get 2 rfl) (Dig.size _) ?_))
   refine GG rfl rfl ?_; go_wp2_with fail
   refine GG rfl rfl ?_; go_wp2_with fail
   refine GG rfl rfl ?_; go_wp2_with fail
   refine GG rfl rfl ?_; go_wp2_with ((refine Gl 36 rfl (by rfl) uz32 rfl Gv (Ga.get 0 rfl) (Dig.size _) ?_))
   refine GA rfl ?_; go_wp2_with ((go_at_call 56; (try clear Gb); refine (HI.out A27 c27 _ (by rw [← HC.out]; exact Ga.old (by decide) hs27)).mono ?_; rintro e Wk7 ⟨rfl, Gb⟩; replace Ga := Ga.keep Gb)); refine Gi Gb ?_
   refine GA rfl ?_; go_wp2_with ((go_at_call 86; (try clear Gb); with_reducible refine (Pt _ _ _).mono ?_; rintro e Wk8 ⟨rfl, Gb⟩; replace Ga := Ga.keep Gb)); refine Gi Gb ?_
   refine J6 rfl ?_; go_wp2_with ((refine Gr 8 37 Ga rfl (by rfl) (Gw rfl) (Dig.one _) Gv (by rfl) 1 rfl (by rfl) ?_; clear Ga; intro WS7 Ga; simp only [Ge, Gf] at Ga))
   refine G5 ?_
   go_wp2_with fail
   refine Hw rfl rfl rfl (Ga.get 1 rfl) uz32 rfl Gv (by rfl) ?_
   exact ⟨rfl, Ga.forget⟩
  ·rw [M4 (by omega) hk] at hm
   obtain ⟨rest, p, rfl, hr, hp, hc⟩ := Qd path (Jn (i - GH n) (n - GH n)) (by omega)
   rw [foldedN_right l (by omega) hk rest p hr]
   obtain ⟨r, hr'⟩ : ∃ r, r = Jn (i - GH n) (n - GH n) := ⟨_, rfl⟩
   rw [← hr'] at hm hp hc
   subst hm
   have HP := Gg (show ((GP (rest ++ [p])).drop ((r : Int).toNat * 32)).take 32 = p.arr.toList from hp)
   have HC := Gg hc
   have HI := Gg (fun A c w hs => ih (n - GH n) (by omega) l rest A r c (i - GH n) w hs hr' (by omega) (by omega))
   have e1 : (((i - GH n : Nat)) : Int) = (i : Int) - (GH n : Int) := by omega
   have e2 : (((n - GH n : Nat)) : Int) = (n : Int) - (GH n : Int) := by omega
   rw [e1, e2] at HI
   clear hr hr' hp hc hl ih e1 e2
   generalize JY l (i - GH n) (n - GH n) rest = u at *
   generalize GH n = k at *
   go_enter Tryz.func56, Tryz.ntmps56
   go_wp2_with (first | (go_at_call 48; (try clear Gb); refine (HF.out _).mono ?_; rintro e Wk9 ⟨rfl, Gb⟩; replace Ga := Ga.keep Gb) | (refine Gn 22 rfl (by rfl) uz32 rfl Gv (cs := p.arr) (by rw [← HP.out]; exact hr21) (Dig.size _) ?_) | (refine Gm 4 rfl (Gw rfl) ?_; (try clear Gb); intro g4 W4 Gb; replace Ga := Ga.tr1 Gb) | (refine Gk 8 rfl Gv ?_; (try clear Gb); intro g8 W8 Gb; replace Ga := Ga.tr1 Gb) | (refine Gp 21 rfl (by rfl) (by rfl) uz44 Gv (Ga.old (by decide) hx) (by omega) (by omega) ?_; intro o21 p21 ha21 hr21; ((subst ha21))) | (refine Gk 10 rfl Gv ?_; (try clear Gb); intro g10 W10 Gb; replace Ga := Ga.tr1 Gb) | ((refine Gr 10 22 Ga rfl (by rfl) (Gw rfl) (Dig.one _) Gv (Dig.size _) 0 rfl (by rfl) ?_; clear Ga; intro WS7 Ga; simp only [Ge, Gf] at Ga)) | (refine Ku (d := some 27) rfl rfl rfl (by rfl) uz44 Gv (by decide) hx 0 r _ (Or.inl ⟨rfl, rfl⟩) (Or.inr ⟨_, _, rfl, by (exact Gw rfl)⟩) (Or.inl ⟨rfl, rfl⟩) (by omega) (by omega) (by omega) (by omega) ?_; intro A27 c27 hs27))
   (try clear Gb)
   refine GO [(0, 0), (1, 0), (2, 0), (3, 0), (4, 0), (5, 0), (6, 0), (7, 0), (8, 2), (9, 2), (10, 2), (11, 1)] (by kernel_rfl) (by kernel_rfl) ?_
   replace Ga := Ga.drew
   refine GG rfl rfl ?_; go_wp2_with ((refine Gl 38 rfl (by rfl) uz32 rfl Gv (Ga.get 0 rfl) (Dig.size _) ?_))
   refine GG rfl rfl ?_; go_wp2_with ((refine Gl 39 rfl (by rfl) uz32 rfl Gv (Ga.get 2 rfl) (Dig.size _) ?_))
   refine GG rfl rfl ?_; go_wp2_with fail
   refine GG rfl rfl ?_; go_wp2_with fail
   refine GG rfl rfl ?_; go_wp2_with fail
   refine GG rfl rfl ?_; go_wp2_with fail
   refine GG rfl rfl ?_; go_wp2_with fail
   refine GG rfl rfl ?_; go_wp2_with fail
   refine GA rfl ?_; go_wp2_with fail; refine Gh ?_
   refine GA rfl ?_; go_wp2_with ((go_at_call 56; (try clear Gb); refine (HI.out A27 c27 _ (by rw [← HC.out]; exact Ga.old (by decide) hs27)).mono ?_; rintro e Wk10 ⟨rfl, Gb⟩; replace Ga := Ga.keep Gb)); refine Gi Gb ?_
   refine GA rfl ?_; go_wp2_with ((go_at_call 86; (try clear Gb); with_reducible refine (Pt _ _ _).mono ?_; rintro e Wk11 ⟨rfl, Gb⟩; replace Ga := Ga.keep Gb)); refine Gi Gb ?_
   refine J6 rfl ?_; go_wp2_with ((refine Gr 8 48 Ga rfl (by rfl) (Gw rfl) (Dig.one _) Gv (by rfl) 1 rfl (by rfl) ?_; clear Ga; intro WS11 Ga; simp only [Ge, Gf] at Ga))
   refine G5 ?_
   go_wp2_with fail
   refine Hw rfl rfl rfl (Ga.get 1 rfl) uz32 rfl Gv (by rfl) ?_
   exact ⟨rfl, Ga.forget⟩
end
section
open Go.RowKit
theorem Pu : ∀ (n : Nat) (ls : List Dig) (A : Option Addr) (c : Nat) (w : World), SlR w A n c 32 (GP ls) → n ≤ 256 →
  Calls Tryz.prog 41 #[.slice A n c] w fun e w' => e = .returned (G4 ls).v ∧ St w w' [] := by
 intro n
 induction n using Nat.strongRecOn with
 | ind n ih =>
 intro ls A c w hx hn
 have Ga := St.refl w
 have hl : ls.length = n := by have := hx.1; rw [G8] at this; omega
 have hcap := hx.2.1
 by_cases h0 : n = 0
 ·subst h0
  obtain rfl : ls = [] := List.eq_nil_of_length_eq_zero hl
  go_enter Tryz.func41, Tryz.ntmps41
  go_wp2_with (first | (go_at_call 76; (try clear Gb); refine (Ng [] none 0 0 _ (SlR.nil_ _ 1) (by decide)).mono ?_; rintro e Wk1 ⟨rfl, Gb⟩; replace Ga := Ga.keep Gb) | (refine Gk 2 rfl Gv ?_; (try clear Gb); intro g2 W2 Gb; replace Ga := Ga.tr1 Gb) | ((refine Gr 2 7 Ga rfl (by rfl) (Gw rfl) (Dig.one _) Gv (by rfl) 0 rfl (by rfl) ?_; clear Ga; intro WS1 Ga; simp only [Ge, Gf] at Ga)))
  rw [rootN_nil]
  refine Hw rfl rfl rfl (Ga.get 0 rfl) uz32 rfl Gv (by rfl) ?_
  exact ⟨rfl, Ga.forget⟩
 ·by_cases h1 : n = 1
  ·subst h1
   obtain ⟨d, rfl⟩ : ∃ d, ls = [d] := by
    match ls, hl with
    | [d], _ => exact ⟨d, rfl⟩
   have HL := Gg (show ((GP [d]).drop ((0 : Int).toNat * 32)).take 32 = d.arr.toList by rw [JH]; exact List.take_of_length_le (by simp [Dig.size]))
   go_enter Tryz.func41, Tryz.ntmps41
   go_wp2_with (first | (refine Gn 13 rfl (by rfl) uz32 rfl Gv (cs := d.arr) (by rw [← HL.out]; exact hr12) (Dig.size _) ?_) | (refine Gk 2 rfl Gv ?_; (try clear Gb); intro g2 W2 Gb; replace Ga := Ga.tr1 Gb) | (refine Gp 12 rfl (by rfl) (by rfl) uz44 Gv (Ga.old (by decide) (by assumption)) (by omega) (by omega) ?_; intro o12 p12 ha12 hr12; ((subst ha12))) | ((refine Gr 2 13 Ga rfl (by rfl) (Gw rfl) (Dig.one _) Gv (Dig.size _) 0 rfl (by rfl) ?_; clear Ga; intro WS3 Ga; simp only [Ge, Gf] at Ga)))
   rw [rootN_one]
   refine Hw rfl rfl rfl (Ga.get 0 rfl) uz32 rfl Gv (Dig.size _) ?_
   exact ⟨rfl, Ga.forget⟩
  ·have hlt := Ju n (by omega)
   have hps := Jl n
   have HN := Gg (show Mm (G4 (ls.take (GH n))) (G4 (ls.drop (GH n))) = G4 ls by rw [Py ls (by omega), hl])
   have H1 := Gg (show ((GP ls).drop (0 * 32)).take ((GH n - 0) * 32) = GP (ls.take (GH n)) by rw [J5]; rfl)
   have H2 := Gg (show ((GP ls).drop (GH n * 32)).take ((n - GH n) * 32) = GP (ls.drop (GH n)) by rw [J5, List.take_of_length_le (by rw [List.length_drop]; omega)])
   have h0' : ¬ (n : Int) = 0 := by omega
   have h1' : ¬ (n : Int) = 1 := by omega
   have HF := Gg (fun w => NN n (by omega) (by omega) w)
   generalize GH n = k at *
   go_enter Tryz.func41, Tryz.ntmps41
   go_wp2_with (first | (go_at_call 48; (try clear Gb); refine (HF.out _).mono ?_; rintro e Wk2 ⟨rfl, Gb⟩; replace Ga := Ga.keep Gb) | (refine Gk 2 rfl Gv ?_; (try clear Gb); intro g2 W2 Gb; replace Ga := Ga.tr1 Gb))
   (try clear Gb)
   clear h0' h1'
   refine GO [(0, 0), (1, 0), (2, 0), (4, 0), (5, 0), (6, 0), (3, 2), (7, 2), (8, 2), (9, 1)] (by kernel_rfl) (by kernel_rfl) ?_
   replace Ga := Ga.drew
   refine GG rfl rfl ?_; go_wp2_with fail
   refine GG rfl rfl ?_; go_wp2_with fail
   refine GG rfl rfl ?_; go_wp2_with ((refine Ku (d := some 19) rfl rfl rfl (by rfl) uz44 Gv (by decide) hx 0 k _ (Or.inl ⟨rfl, rfl⟩) (Or.inr ⟨_, _, rfl, by (exact Gw rfl)⟩) (Or.inl ⟨rfl, rfl⟩) (by omega) (by omega) (by omega) (by omega) ?_; intro A19 c19 hs19))
   refine GG rfl rfl ?_; go_wp2_with fail
   refine GG rfl rfl ?_; go_wp2_with fail
   refine GG rfl rfl ?_; go_wp2_with ((refine Ku (d := some 23) rfl rfl rfl (by rfl) uz44 Gv (by decide) hx k n _ (Or.inr ⟨_, _, rfl, by (exact Gw rfl)⟩) (Or.inl ⟨rfl, rfl, rfl⟩) (Or.inl ⟨rfl, rfl⟩) (by omega) (by omega) (by omega) (by omega) ?_; intro A23 c23 hs23))
   refine GA rfl ?_; go_wp2_with ((go_at_call_of 41 (Value.slice A19 k c19); (try clear Gb); refine (ih k hlt (ls.take k) A19 c19 _ (by rw [← H1.out]; exact Ga.old (by decide) hs19) (by omega)).mono ?_; rintro e W20 ⟨rfl, Gb⟩; replace Ga := Ga.keep Gb)); refine Gi Gb ?_
   refine GA rfl ?_; go_wp2_with ((go_at_call_of 41 (Value.slice A23 (n - k) c23); (try clear Gb); refine (ih (n - k) (by omega) (ls.drop k) A23 c23 _ (by rw [← H2.out]; exact Ga.old (by decide) hs23) (by omega)).mono ?_; rintro e W24 ⟨rfl, Gb⟩; replace Ga := Ga.keep Gb)); refine Gi Gb ?_
   refine GA rfl ?_; go_wp2_with ((go_at_call 86; (try clear Gb); with_reducible refine (Pt _ _ _).mono ?_; rintro e Wk3 ⟨rfl, Gb⟩; replace Ga := Ga.keep Gb)); refine Gi Gb ?_
   refine J6 rfl ?_; go_wp2_with ((refine Gr 2 25 Ga rfl (by rfl) (Gw rfl) (Dig.one _) Gv (by rfl) 0 rfl (by rfl) ?_; clear Ga; intro WS9 Ga; simp only [Ge, Gf] at Ga))
   refine G5 ?_
   rw [HN.out] at Ga
   go_wp2_with fail
   refine Hw rfl rfl rfl (Ga.get 0 rfl) uz32 rfl Gv (Dig.size _) ?_
   exact ⟨rfl, Ga.forget⟩
end
section
open Go.RowKit
theorem rpath_any : ∀ (n : Nat) (ls : List Dig) (A : Option Addr) (c i : Nat) (w : World), SlR w A n c 32 (GP ls) → i < n → n ≤ 256 →
  Calls Tryz.prog 45 #[.slice A n c, .int .i64 (i : Int)] w fun e w' => ∃ O oc, e = .returned (.slice O (Jn i n) oc) ∧ St w w' [.row O (Jn i n) oc 32 32 (GP (KF ls i))] := by
 intro n
 induction n using Nat.strongRecOn with
 | ind n ih =>
 intro ls A c i w hx hin hn
 have Ga := St.refl w
 have hl : ls.length = n := by have := hx.1; rw [G8] at this; omega
 have hcap := hx.2.1
 by_cases h1 : n = 1
 ·subst h1
  rw [P9 i (by omega), pathN_one i (by omega)]
  go_enter Tryz.func45, Tryz.ntmps45
  go_wp2_with (fail)
  go_ret
  exact ⟨_, _, rfl, Ga.nilRow 32 32⟩
 ·have hlt := Ju n (by omega)
  have hps := Jl n
  have h1' : ¬ (n : Int) = 1 := by omega
  have HF := Gg (fun w => NN n (by omega) (by omega) w)
  have H1 := Gg (show ((GP ls).drop (0 * 32)).take ((GH n - 0) * 32) = GP (ls.take (GH n)) by rw [J5]; rfl)
  have H2 := Gg (show ((GP ls).drop (GH n * 32)).take ((n - GH n) * 32) = GP (ls.drop (GH n)) by rw [J5, List.take_of_length_le (by rw [List.length_drop]; omega)])
  by_cases hk : i < GH n
  ·have hle := longN_le (GH n) i
   rw [NC (by omega) hk]
   have HI := Gg (fun A c w hs => ih (GH n) hlt (ls.take (GH n)) A c i w hs hk (by omega))
   have HB := Gg (show GP (KF (ls.take (GH n)) i) ++ (G4 (ls.drop (GH n))).arr.toList = GP (KF ls i) by
    rw [pathN_left (ls := ls) (by omega) (by rw [hl]; exact hk), hl, Kt, JH, Dig.toList])
   clear ih hl
   generalize Jn i (GH n) = r at *
   generalize GH n = k at *
   go_enter Tryz.func45, Tryz.ntmps45
   go_wp2_with ((go_at_call 48; (try clear Gb); refine (HF.out _).mono ?_; rintro e Wk1 ⟨rfl, Gb⟩; replace Ga := Ga.keep Gb))
   (try clear Gb)
   refine J3 [(0, 0), (1, 0), (2, 0), (3, 0), (5, 0), (6, 0), (7, 0), (4, 2), (8, 2), (9, 2), (10, 1), (11, 2)] (by kernel_rfl) (by kernel_rfl) ?_
   replace Ga := Ga.drew
   refine GG rfl rfl ?_; go_wp2_with fail
   refine GG rfl rfl ?_; go_wp2_with fail
   refine GG rfl rfl ?_; go_wp2_with ((refine Ku (d := some 17) rfl rfl rfl (by rfl) uz44 Gv (by decide) hx 0 k _ (Or.inl ⟨rfl, rfl⟩) (Or.inr ⟨_, _, rfl, by (exact Gw rfl)⟩) (Or.inl ⟨rfl, rfl⟩) (by omega) (by omega) (by omega) (by omega) ?_; intro A17 c17 hs17))
   refine GG rfl rfl ?_; go_wp2_with fail
   refine GG rfl rfl ?_; go_wp2_with fail
   refine GG rfl rfl ?_; go_wp2_with fail
   refine GG rfl rfl ?_; go_wp2_with ((refine Ku (d := some 22) rfl rfl rfl (by rfl) uz44 Gv (by decide) hx k n _ (Or.inr ⟨_, _, rfl, by (exact Gw rfl)⟩) (Or.inl ⟨rfl, rfl, rfl⟩) (Or.inl ⟨rfl, rfl⟩) (by omega) (by omega) (by omega) (by omega) ?_; intro A22 c22 hs22))
   refine GA rfl ?_; go_wp2_with ((go_at_call 45; (try clear Gb); refine (HI.out A17 c17 _ (by rw [← H1.out]; exact Ga.old (by decide) hs17)).mono ?_; rintro e Wk2 ⟨O19, c19, rfl, Gb⟩; replace Ga := Ga.trans Gb; simp only [Gc, Gd] at Ga)); refine Gi Gb ?_
   refine GA rfl ?_; go_wp2_with ((go_at_call 41; (try clear Gb); refine (Pu (n - k) (ls.drop k) A22 c22 _ (by rw [← H2.out]; exact Ga.old (by decide) hs22) (by omega)).mono ?_; rintro e Wk3 ⟨rfl, Gb⟩; replace Ga := Ga.keep Gb)); refine Gi Gb ?_
   refine GA rfl ?_; go_wp2_with (refine Gq 24 rfl [_] (Kj (Gw rfl)) rfl uz44 Gv rfl (by (simp [Value.cells, Dig.size]; done)) (by decide) (by decide) ?_; (try clear Gb); intro g24 W24 Gb; replace Ga := Ga.tr1 Gb; simp only [List.flatMap_cons, List.flatMap_nil, List.append_nil, Value.cells, List.toList_toArray] at Ga); refine Gi Gb ?_
   refine J6 rfl ?_; go_wp2_with (refine GY (d := some 25) rfl rfl Ga rfl (by rfl) (by rfl) uz44 Gv rfl (by decide) (by decide) 1 rfl (by rfl) (Ga.sl 0 rfl) (GX) (by omega) ?_; clear Ga; intro A25 c25 W25 Ga; simp only [Ge, Gf, List.nil_append, Nat.zero_add] at Ga)
   refine GA rfl ?_; go_wp2_with fail; refine Gh ?_
   refine G5 ?_
   go_wp2_with fail
   go_ret
   refine ⟨_, _, rfl, ?_⟩
   rw [HB.out] at Ga
   (exact Ga.pick [1] (by decide))
  ·have hle := longN_le (n - GH n) (i - GH n)
   rw [M4 (by omega) hk]
   have HI := Gg (fun A c w hs => ih (n - GH n) (by omega) (ls.drop (GH n)) A c (i - GH n) w hs (by omega) (by omega))
   have HB := Gg (show GP (KF (ls.drop (GH n)) (i - GH n)) ++ (G4 (ls.take (GH n))).arr.toList = GP (KF ls i) by
    rw [pathN_right (ls := ls) (by omega) (by rw [hl]; exact hk), hl, Kt, JH, Dig.toList])
   have e1 : (((i - GH n : Nat)) : Int) = (i : Int) - (GH n : Int) := by omega
   rw [e1] at HI
   clear ih hl e1
   generalize Jn (i - GH n) (n - GH n) = r at *
   generalize GH n = k at *
   go_enter Tryz.func45, Tryz.ntmps45
   go_wp2_with ((go_at_call 48; (try clear Gb); refine (HF.out _).mono ?_; rintro e Wk4 ⟨rfl, Gb⟩; replace Ga := Ga.keep Gb))
   (try clear Gb)
   refine J3 [(0, 0), (1, 0), (2, 0), (3, 0), (4, 0), (5, 0), (7, 0), (8, 0), (9, 0), (6, 2), (10, 2), (11, 2), (12, 1), (13, 2)] (by kernel_rfl) (by kernel_rfl) ?_
   replace Ga := Ga.drew
   refine GG rfl rfl ?_; go_wp2_with fail
   refine GG rfl rfl ?_; go_wp2_with fail
   refine GG rfl rfl ?_; go_wp2_with ((refine Ku (d := some 28) rfl rfl rfl (by rfl) uz44 Gv (by decide) hx k n _ (Or.inr ⟨_, _, rfl, by (exact Gw rfl)⟩) (Or.inl ⟨rfl, rfl, rfl⟩) (Or.inl ⟨rfl, rfl⟩) (by omega) (by omega) (by omega) (by omega) ?_; intro A28 c28 hs28))
   refine GG rfl rfl ?_; go_wp2_with fail
   refine GG rfl rfl ?_; go_wp2_with fail
   refine GG rfl rfl ?_; go_wp2_with fail
   refine GG rfl rfl ?_; go_wp2_with fail
   refine GG rfl rfl ?_; go_wp2_with fail
   refine GG rfl rfl ?_; go_wp2_with ((refine Ku (d := some 35) rfl rfl rfl (by rfl) uz44 Gv (by decide) hx 0 k _ (Or.inl ⟨rfl, rfl⟩) (Or.inr ⟨_, _, rfl, by (exact Gw rfl)⟩) (Or.inl ⟨rfl, rfl⟩) (by omega) (by omega) (by omega) (by omega) ?_; intro A35 c35 hs35))
   refine GA rfl ?_; go_wp2_with ((go_at_call 45; (try clear Gb); refine (HI.out A28 c28 _ (by rw [← H2.out]; exact Ga.old (by decide) hs28)).mono ?_; rintro e Wk5 ⟨O32, c32, rfl, Gb⟩; replace Ga := Ga.trans Gb; simp only [Gc, Gd] at Ga)); refine Gi Gb ?_
   refine GA rfl ?_; go_wp2_with ((go_at_call 41; (try clear Gb); refine (Pu k (ls.take k) A35 c35 _ (by rw [← H1.out]; exact Ga.old (by decide) hs35) (by omega)).mono ?_; rintro e Wk6 ⟨rfl, Gb⟩; replace Ga := Ga.keep Gb)); refine Gi Gb ?_
   refine GA rfl ?_; go_wp2_with (refine Gq 37 rfl [_] (Kj (Gw rfl)) rfl uz44 Gv rfl (by (simp [Value.cells, Dig.size]; done)) (by decide) (by decide) ?_; (try clear Gb); intro g37 W37 Gb; replace Ga := Ga.tr1 Gb; simp only [List.flatMap_cons, List.flatMap_nil, List.append_nil, Value.cells, List.toList_toArray] at Ga); refine Gi Gb ?_
   refine J6 rfl ?_; go_wp2_with (refine GY (d := some 38) rfl rfl Ga rfl (by rfl) (by rfl) uz44 Gv rfl (by decide) (by decide) 1 rfl (by rfl) (Ga.sl 0 rfl) (GX) (by omega) ?_; clear Ga; intro A38 c38 W38 Ga; simp only [Ge, Gf, List.nil_append, Nat.zero_add] at Ga)
   refine GA rfl ?_; go_wp2_with fail; refine Gh ?_
   refine G5 ?_
   go_wp2_with fail
   go_ret
   refine ⟨_, _, rfl, ?_⟩
   rw [HB.out] at Ga
   (exact Ga.pick [1] (by decide))
end
section
open Go.RowKit
def mfE (ps : List Dig) : Nat := if ps.length = 32 then 0 else 3
def mfD (s : List UInt8) (l : Dig) (ps : List Dig) : Dig := if ps.length = 32 then KV (Jf s) l ps else GM
theorem tfoldU_any (s : List UInt8) (l : Dig) (ps : List Dig) (A : Option Addr) (m c : Nat) (w : World) (hT : Tb w) (hx : SlR w A m c 32 (GP ps)) :
  Calls Tryz.prog 57 #[.int .i64 (Jf s : Int), l.v, .slice A m c] w fun e w' => e = .returned (.tuple #[(mfD s l ps).v, Nl (mfE ps)]) ∧ St w w' [] := by
 have hl : ps.length = m := by have := hx.1; rw [G8] at this; omega
 unfold mfD mfE
 by_cases h : ps.length = 32
 ·rw [if_pos h, if_pos h]
  obtain rfl : m = 32 := by omega
  exact tfoldM_any (Jf s) l ps A c w hT hx (Mo s)
 ·rw [if_neg h, if_neg h]
  exact tfoldM_len (Jf s) l A m c w (by omega) (Mo s)
theorem PV (y : Dig) (s : List UInt8) (l : Dig) (ps : List Dig) : K8 y s l ps ↔ mfE ps = 0 ∧ mfD s l ps = y := by
 unfold K8 mfE mfD
 by_cases h : ps.length = 32
 ·simp [h]
 ·simp [h]
def tfE (i n : Int) (m : Nat) : Nat := if n < 1 ∨ 256 < n ∨ i < 0 ∨ n ≤ i then 2 else if m = Jn i.toNat n.toNat then 0 else 3
def tfD (l : Dig) (i n : Int) (p : List Dig) : Dig := if tfE i n p.length = 0 then JY l i.toNat n.toNat p else GM
theorem treeFoldU_any (l : Dig) (p : List Dig) (A : Option Addr) (m c : Nat) (i n : Int) (w : World) (hT : Tb w) (hx : SlR w A m c 32 (GP p)) :
  Calls Tryz.prog 59 #[l.v, .int .i64 i, .int .i64 n, .slice A m c] w fun e w' => e = .returned (.tuple #[(tfD l i n p).v, Nl (tfE i n p.length)]) ∧ St w w' [] := by
 have hl : p.length = m := by have := hx.1; rw [G8] at this; omega
 unfold tfD
 by_cases h : n < 1 ∨ 256 < n ∨ i < 0 ∨ n ≤ i
 ·have e : tfE i n p.length = 2 := if_pos h
  rw [e]
  exact tFold_range l A m c i n w (by omega)
 ·obtain ⟨a, rfl⟩ := Int.eq_ofNat_of_zero_le (show 0 ≤ i by omega)
  obtain ⟨b, rfl⟩ := Int.eq_ofNat_of_zero_le (show 0 ≤ n by omega)
  by_cases h2 : p.length = Jn a b
  ·have e : tfE (a : Int) (b : Int) p.length = 0 := by unfold tfE; rw [if_neg h, Int.toNat_natCast, Int.toNat_natCast, if_pos h2]
   rw [e, if_pos rfl, Int.toNat_natCast, Int.toNat_natCast]
   exact tFold_any l p A m c a b w hT hx (by omega) (by omega) (by omega)
  ·have e : tfE (a : Int) (b : Int) p.length = 3 := by unfold tfE; rw [if_neg h, Int.toNat_natCast, Int.toNat_natCast, if_neg h2]
   rw [e]
   exact tFold_length l A m c a b w (by omega) (by omega) (by omega)
theorem treeTold_iff (n : Int) (x l : Dig) (i : Int) (p : List Dig) : NY n x l i p ↔ tfE i n p.length = 0 ∧ tfD l i n p = x := by
 unfold NY tfD tfE
 by_cases h : n < 1 ∨ 256 < n ∨ i < 0 ∨ n ≤ i
 ·simp only [if_pos h]
  constructor
  ·rintro ⟨h1, h2, h3, h4, -⟩; omega
  ·rintro ⟨h1, -⟩; cases h1
 ·simp only [if_neg h]
  by_cases h2 : p.length = Jn i.toNat n.toNat
  ·simp only [if_pos h2, if_true, true_and]
   exact ⟨fun h3 => h3.2.2.2.2.2, fun h3 => ⟨by omega, by omega, by omega, by omega, h2, h3⟩⟩
  ·simp only [if_neg h2]
   constructor
   ·rintro ⟨-, -, -, -, h3, -⟩; exact absurd h3 h2
   ·rintro ⟨h3, -⟩; cases h3
end
section
open Go.RowKit
section
variable {P : Program} {t td e8 : TypeId} {zd : Value} {bd : Nat} {z8 : Value} {b8 : Nat}
theorem run_eqStrD (dd : Nat) {t : TypeId} (ht : P.underlying t = some .string) (s u : List UInt8) (W : World) : (Op.equalIn (dd + 1) t (.string (GZ s)) (.string (GZ u))).run P W = .ok (decide (s = u)) W := by
 have := run_equalIn_string (P := P) W dd t (GZ s) (GZ u) ht
 rw [PN, PN] at this
 rw [this]
 congr 1
 by_cases h : s = u <;> simp [h]
theorem run_eqNote {f0 f1 f2 : Field} (hS0 : P.underlying t = some (.struct #[f0, f1, f2])) (hp : P.stoodInHeld t = false) (n0 : f0.name ≠ "_") (n1 : f1.name ≠ "_") (n2 : f2.name ≠ "_")
  (hs : P.underlying f0.type = some .string) (h1 : f1.type = td) (hi : P.underlying f2.type = some (.int .i64)) (o0 : f0.offset = 0) (o1 : f1.offset = 1) (o2 : f2.offset = 33)
  (ht : P.underlying td = some (.array 32 e8)) (hd : GW P td zd 32 bd) (he : P.underlying e8 = some (.int .u8)) (h8 : GW P e8 z8 1 b8) (s u : List UInt8) (k d : Dig) (n m : Int) (w : World) :
  (Op.equalIn 10000 t (.agg (Ha s k n)) (.agg (Ha u d m))).run P w = .ok (decide (s = u ∧ k = d ∧ n = m)) w := by
 have hFo : P.fieldsOf t = #[f0, f1, f2] := by unfold Program.fieldsOf; rw [hS0]
 rw [show (10000 : Nat) = 9999 + 1 from rfl, run_equalIn_agg w 9999 t _ _ (by rw [hFo]; exact hS0) hp, hFo]
 have i0 := Nt (P := P) (d := .string) hs rfl (Kf (s := s) (k := k) (n := n)) w
 have j0 := Nt (P := P) (d := .string) hs rfl (Kf (s := u) (k := d) (n := m)) w
 have i1 := run_partD ht hd (ntArr_part s k n) w
 have j1 := run_partD ht hd (ntArr_part u d m) w
 have i2 := Nt (P := P) (d := .int .i64) hi rfl (KN (s := s) (k := k) (n := n)) w
 have j2 := Nt (P := P) (d := .int .i64) hi rfl (KN (s := u) (k := d) (n := m)) w
 have e0 : (Op.equalIn 9999 f0.type (.string (GZ s)) (.string (GZ u))).run P w = .ok (decide (s = u)) w := run_eqStrD (P := P) 9998 hs s u w
 have e1 : (Op.equalIn 9999 td (.agg k.arr) (.agg d.arr)).run P w = .ok (decide (k = d)) w := run_eqDig (P := P) 9997 ht he h8 k d w
 have e2 : (Op.equalIn 9999 f2.type (.int .i64 n) (.int .i64 m)).run P w = .ok (n == m) w := run_equalIn_int w 9998 f2.type .i64 .i64 n m hi
 simp only [Op.eqFields, n0, n1, n2, ne_eq, not_false_eq_true, if_true, h1, o0, o1, o2, Sem.run_bind, i0, i1, i2, j0, j1, j2, e0, Result.andThen_ok, e1, e2]
 by_cases a0 : s = u
 ·rw [decide_eq_true a0]
  simp only [Bool.not_true, Bool.false_eq_true, if_false, Sem.run_bind, i1, j1, i2, j2, Result.andThen_ok, e1, e2]
  by_cases a1 : k = d
  ·rw [decide_eq_true a1]
   simp only [Bool.not_true, Bool.false_eq_true, if_false, Sem.run_bind, i2, j2, Result.andThen_ok, e2]
   by_cases a2 : n = m <;> simp [a0, a1, a2]
  ·rw [decide_eq_false a1]
   simp [a1]
 ·rw [decide_eq_false a0]
  simp [a0]
end
theorem Qf : Tryz.prog.eqGuardType Tryz.prog.depth 34 = false := by kernel_rfl
theorem eqNote (s u : List UInt8) (k d : Dig) (n m : Int) (w : World) : (Op.equalIn 10000 34 (.agg (Ha s k n)) (.agg (Ha u d m))).run Tryz.prog w = .ok (decide (s = u ∧ k = d ∧ n = m)) w :=
 run_eqNote uz34 (by kernel_rfl) (by decide) (by decide) (by decide) uz9 rfl uz3 rfl rfl rfl uz32 Gv uz5 GF s u k d n m w
end
section
open Go.RowKit
section
variable {P : Program} {a : Act} {W : World}
theorem Hu {fn : Func} {R : Ending → World → Prop} {p q q' : Tmp} {ty : TypeId} (hr : fn.results = #[.cell p ty, .tmp q, .tmp q']) (hd : a.defers = []) {g : Nat} (hp : a.tmps.toList[p]? = some (.pointer (some ⟨g, 0, none⟩))) {v v' : Value} (hq : a.tmps.toList[q]? = some v) (hq2 : a.tmps.toList[q']? = some v') {t : TypeId} {cs : Array Value} {fr : Nat × Nat} (hg : W.heap[g]? = some (.cells cs t fr))
  {td : TypeDesc} (hu : P.underlying ty = some td) (hrow : td.isRow = true) {z : Value} {s b : Nat} (he : GW P ty z s b) (hs : cs.size = s) (hR : R (.returned (.tuple #[.agg cs, v, v'])) W) : bodyPost P fn R .ret a W := by
 have hp' : a.tmps[p]?.getD undef = .pointer (some ⟨g, 0, none⟩) := by
  have : a.tmps[p]? = some (.pointer (some ⟨g, 0, none⟩)) := by simpa using hp
  simp [this]
 have hq' : a.tmps[q]?.getD undef = v := by
  have : a.tmps[q]? = some v := by simpa using hq
  simp [this]
 have hq3 : a.tmps[q']?.getD undef = v' := by
  have : a.tmps[q']? = some v' := by simpa using hq2
  simp [this]
 refine bodyPost_ret ?_ hd hR
 simp [results, hr, hp', hq', hq3, asAddr, run_loadVar_row W g t ty cs fr td hg hu (by cases td <;> simp_all [TypeDesc.isRow]) (by rw [he.size, hs])]
end
def lookV (r : Nat × Option NoteN) : Value := .tuple #[.agg (r.2.getD ND).arr, .bool r.2.isSome, Nl r.1]
def lookZ (a2 : Dig) (a3 at_ : Int) (m r : Nat) (D y : Dig) : Nat := if a2 = GM ∧ a3 = 0 ∧ at_ = 0 ∧ m = 0 ∧ r = 0 ∧ D = y then 0 else 9
theorem look_no (n : Int) (x y z : Dig) (s : List UInt8) (a1 : List UInt8) (a2 : Dig) (a3 : Int) (at_ : Int) (A : Option Addr) (m c : Nat) (B : Option Addr) (p q : Nat) (w : World) (hs : JM s = false) :
  Calls Tryz.prog 22 #[.agg (H9 n x y z), .string (GZ s), .agg (JE a1 a2 a3 at_ A m c B p q)] w fun e w' => e = .returned (.tuple #[.agg (Ha [] GM 0), .bool false, JL 1]) ∧ St w w' [] := by
 have Ga := St.refl w
 have HN := Gg (fun w => by have := JW s w; rw [hs] at this; exact this)
 clear hs
 go_enter Tryz.func22, Tryz.ntmps22
 go_upto_region 1 with (go_big_may; first | (refine Gm 3 rfl (Gw rfl) ?_; (try clear Gb); intro g3 W3 Gb; replace Ga := Ga.tr1 Gb) | (refine Gm 5 rfl (Gw rfl) ?_; (try clear Gb); intro g5 W5 Gb; replace Ga := Ga.tr1 Gb) | (refine Gk 6 rfl GD ?_; (try clear Gb); intro g6 W6 Gb; replace Ga := Ga.tr1 Gb))
 go_upto_region 2 with (go_big_may; (go_at_call 34; (try clear Gb); refine (HN.out _).mono ?_; rintro e Wk1 ⟨rfl, Gb⟩; replace Ga := Ga.keep Gb))
 go_wp2_with (first | (refine Je (d := some 18) rfl rfl rfl ?_) | ((refine Gr 6 18 Ga rfl (by rfl) (Gw rfl) (Hg _ _ _) GD (by rfl) 0 rfl (by rfl) ?_; clear Ga; intro WS2 Ga; simp only [Ge, Gf] at Ga)))
 refine Hu rfl rfl rfl rfl rfl (Ga.get 0 rfl) uz34 rfl GD (GN _ _ _) ?_
 exact ⟨rfl, Ga.forget⟩
theorem look_none (n : Int) (x y z : Dig) (s : List UInt8) (a2 : Dig) (a3 : Int) (at_ : Int) (A : Option Addr) (m c : Nat) (B : Option Addr) (ps : List Dig) (p q : Nat) (w : World) (hT : Tb w) (hs : JM s = true) (hx : SlR w B p q 32 (GP ps)) :
  Calls Tryz.prog 22 #[.agg (H9 n x y z), .string (GZ s), .agg (JE [] a2 a3 at_ A m c B p q)] w fun e w' => e = .returned (.tuple #[.agg (Ha [] GM 0), .bool false, Nl (lookZ a2 a3 at_ m (mfE ps) (mfD s GM ps) y)]) ∧ St w w' [] := by
 have Ga := St.refl w
 have HT := Gg hT
 have HX := Gg hx
 have HN := Gg (fun w => by have := JW s w; rw [hs] at this; exact this)
 have HI := Gg (fun (w' : World) (h : Tb w') => M6 s w' h (by have := J0 hs; omega))
 have HF := Gg (fun (w' : World) (ht : Tb w') (h : SlR w' B p q 32 (GP ps)) => tfoldU_any s GM ps B p q w' ht h)
 generalize mfD s GM ps = D at *
 obtain ⟨r, hr⟩ : ∃ r, r = mfE ps := ⟨_, rfl⟩
 rw [← hr] at HF ⊢
 have HEE := Gg (show Nl r = if r = 0 then .nilIface else JL r by unfold Nl; rfl)
 generalize Jf s = ix at *
 have hb := bsOf_nil
 clear hT hs hx hr
 go_enter Tryz.func22, Tryz.ntmps22
 go_upto_region 1 with (go_big_may; first | (refine Gm 3 rfl (Gw rfl) ?_; (try clear Gb); intro g3 W3 Gb; replace Ga := Ga.tr1 Gb) | (refine Gm 5 rfl (Gw rfl) ?_; (try clear Gb); intro g5 W5 Gb; replace Ga := Ga.tr1 Gb) | (refine Gk 6 rfl GD ?_; (try clear Gb); intro g6 W6 Gb; replace Ga := Ga.tr1 Gb))
 go_upto_region 3 with (go_big_may; (go_at_call 34; (try clear Gb); refine (HN.out _).mono ?_; rintro e Wk2 ⟨rfl, Gb⟩; replace Ga := Ga.keep Gb))
 go_upto_region 4 with (go_big_may; (refine Gj 22 rfl (by rfl) uz9 rfl (Gy (Ga.get 1 rfl) fdArr_0) ?_))
 generalize Nl r = E at *
 go_cut [9, 10] (fun s9 s10 wx => ∃ g9, s9 = .pointer (some ⟨g9, 0, none⟩) ∧ s10 = E ∧ St w wx [.blk g9 32 D.arr, .blk g6 34 (Ha [] GM 0), .blk g5 46 (JE [] a2 a3 at_ A m c B p q), .blk g3 41 (H9 n x y z)])
 case first =>
  refine Ht (.one 0 3 (.one 2 0 (.one 3 0 (.one 4 0 (.two 1 2 (.two 5 2 (.one 6 3 (.one 7 3 (.one 8 3 (.one 9 2 (.one 10 1 (.one 11 2 .nil)))))) 9 2 (.one 5 2 (.one 6 2 (.one 7 3 (.one 8 3 (.one 10 1 (.one 11 2 .nil))))))) 9 2 (.one 1 2 (.one 5 2 (.one 6 2 (.one 7 3 (.one 8 3 (.one 10 1 (.one 11 2 .nil)))))))))))) (by kernel_rfl) (by kernel_rfl) ?_
  replace Ga := Ga.drew
  refine Jj rfl rfl ?_; go_wp2_with fail
  refine Kl rfl rfl ?_; go_wp2_with (refine KC (d := some 27) rfl rfl rfl uz32 GF Gv ?_)
  refine Pc rfl rfl (by kernel_rfl) ?_; go_wp2_with fail
  refine Kl rfl rfl ?_; go_wp2_with (refine Gj 29 rfl (by rfl) uz44 rfl (Gy (Ga.get 1 rfl) MU) ?_)
  refine JF (ki := 2) (kj := 2) rfl rfl ?_ ?_
  ·go_wp2_with ((go_at_call 35; (try clear Gb); refine (HI.out _ (HT.out.of Ga)).mono ?_; rintro e Wk3 ⟨rfl, Gb⟩; replace Ga := Ga.keep Gb)); refine ⟨fun _ => (Gb.below), ?_⟩
   refine JF (ki := 2) (kj := 2) rfl rfl ?_ ?_
   ·go_wp2_with ((go_at_call 57; (try clear Gb); refine (HF.out _ (HT.out.of Ga) (Ga.old (by decide) HX.out)).mono ?_; rintro e Wk4 ⟨rfl, Gb⟩; replace Ga := Ga.keep Gb)); refine ⟨fun _ => (Gb.below), ?_⟩
    refine Jj rfl rfl ?_; go_wp2_with fail
    refine Jj rfl rfl ?_; go_wp2_with fail
    refine Jj rfl rfl ?_; go_wp2_with fail
    refine G6 rfl ?_; go_wp2_with (refine Gk 9 rfl Gv ?_; (try clear Gb); intro g9 W9 Gb; replace Ga := Ga.tr1 Gb); refine Gi Gb ?_
    refine JA rfl ?_; go_wp2_with ((refine Gr 9 31 Ga rfl (by rfl) (Gw rfl) (Dig.one _) Gv (Dig.size _) 0 rfl (by rfl) ?_; clear Ga; intro WS10 Ga; simp only [Ge, Gf] at Ga))
    refine G6 rfl ?_; go_wp2_with fail; refine Gh ?_
    refine H5 ?_
    go_wp2_with fail
    go_meet
    case rel => exact ⟨_, rfl, rfl, Ga.pick [0, 1, 2, 3] (by decide)⟩
   ·go_wp2_with (refine Gk 9 rfl Gv ?_; (try clear Gb); intro g9 W9 Gb; replace Ga := Ga.tr1 Gb); refine ⟨fun _ => (Gb.below), ?_⟩
    refine G6 rfl ?_; go_wp2_with ((go_at_call 57; (try clear Gb); refine (HF.out _ (HT.out.of Ga) (Ga.old (by decide) HX.out)).mono ?_; rintro e Wk4 ⟨rfl, Gb⟩; replace Ga := Ga.keep Gb)); refine Gi Gb ?_
    refine G6 rfl ?_; go_wp2_with fail; refine Gh ?_
    refine Jj rfl rfl ?_; go_wp2_with fail
    refine Jj rfl rfl ?_; go_wp2_with fail
    refine JA rfl ?_; go_wp2_with ((refine Gr 9 31 Ga rfl (by rfl) (Gw rfl) (Dig.one _) Gv (Dig.size _) 0 rfl (by rfl) ?_; clear Ga; intro WS10 Ga; simp only [Ge, Gf] at Ga))
    refine G6 rfl ?_; go_wp2_with fail; refine Gh ?_
    refine H5 ?_
    go_wp2_with fail
    go_meet
    case rel => exact ⟨_, rfl, rfl, Ga.pick [0, 1, 2, 3] (by decide)⟩
  ·go_wp2_with (refine Gk 9 rfl Gv ?_; (try clear Gb); intro g9 W9 Gb; replace Ga := Ga.tr1 Gb); refine ⟨fun _ => (Gb.below), ?_⟩
   refine G6 rfl ?_; go_wp2_with ((go_at_call 35; (try clear Gb); refine (HI.out _ (HT.out.of Ga)).mono ?_; rintro e Wk3 ⟨rfl, Gb⟩; replace Ga := Ga.keep Gb)); refine Gi Gb ?_
   refine G6 rfl ?_; go_wp2_with ((go_at_call 57; (try clear Gb); refine (HF.out _ (HT.out.of Ga) (Ga.old (by decide) HX.out)).mono ?_; rintro e Wk4 ⟨rfl, Gb⟩; replace Ga := Ga.keep Gb)); refine Gi Gb ?_
   refine G6 rfl ?_; go_wp2_with fail; refine Gh ?_
   refine Jj rfl rfl ?_; go_wp2_with fail
   refine Jj rfl rfl ?_; go_wp2_with fail
   refine JA rfl ?_; go_wp2_with ((refine Gr 9 31 Ga rfl (by rfl) (Gw rfl) (Dig.one _) Gv (Dig.size _) 0 rfl (by rfl) ?_; clear Ga; intro WS10 Ga; simp only [Ge, Gf] at Ga))
   refine G6 rfl ?_; go_wp2_with fail; refine Gh ?_
   refine H5 ?_
   go_wp2_with fail
   go_meet
   case rel => exact ⟨_, rfl, rfl, Ga.pick [0, 1, 2, 3] (by decide)⟩
 case rest =>
  obtain ⟨g9, rfl, rfl, Ga⟩ := hcut
  clear HF HI HN HX HT
  by_cases c1 : a2 = GM ∧ a3 = 0
  case neg =>
   have HE := Gg (fun w => show (Op.equalIn 10000 34 (.agg (Ha [] a2 a3)) (.agg (Ha [] GM 0))).run Tryz.prog w = .ok false w by rw [eqNote]; simp [c1])
   have HR := Gg (show lookZ a2 a3 at_ m r D y = 9 from if_neg (fun h => c1 ⟨h.1, h.2.1⟩))
   clear c1
   go_upto_region 6 with (first | (with_reducible refine GI (t := 38) rfl (by kernel_rfl) ?_) | (with_reducible refine GI (t := 39) rfl (by kernel_rfl) ?_) | (with_reducible refine GI (t := 40) rfl (by kernel_rfl) ?_) | (with_reducible refine GI (t := 43) rfl (by kernel_rfl) ?_) | (with_reducible refine GI (t := 44) rfl (by kernel_rfl) ?_) | (with_reducible refine GI (t := 45) rfl (by kernel_rfl) ?_) | (with_reducible refine GI (t := 46) rfl (by kernel_rfl) ?_) | (with_reducible refine GI (t := 49) rfl (by kernel_rfl) ?_) | (with_reducible refine GI (t := 50) rfl (by kernel_rfl) ?_) | (with_reducible refine GI (t := 53) rfl (by kernel_rfl) ?_) | (with_reducible refine GI (t := 54) rfl (by kernel_rfl) ?_) | (with_reducible refine GI (t := 55) rfl (by kernel_rfl) ?_) | (with_reducible refine GI (t := 56) rfl (by kernel_rfl) ?_) | (go_big_may; first | (refine Je (d := some 35) rfl rfl rfl ?_) | (refine L_neA (d := some 36) rfl rfl rfl Qf (Gw rfl) (Gw rfl) (HE.out _) ?_) | (refine Gn 34 rfl (by rfl) uz34 rfl GD (J4 (Ga.get 2 rfl)) (GN _ _ _) ?_)))
   go_wp2_with (first | (refine Je (d := some 58) rfl rfl rfl ?_) | ((refine Gr 6 58 Ga rfl (by rfl) (Gw rfl) (Hg _ _ _) GD (by rfl) 1 rfl (by rfl) ?_; clear Ga; intro WS2 Ga; simp only [Ge, Gf] at Ga)))
   refine Hu rfl rfl rfl rfl rfl (Ga.get 1 rfl) uz34 rfl GD (GN _ _ _) ?_
   exact ⟨by rw [HR.out]; rfl, Ga.forget⟩
  have HE := Gg (fun w => show (Op.equalIn 10000 34 (.agg (Ha [] a2 a3)) (.agg (Ha [] GM 0))).run Tryz.prog w = .ok true w by rw [eqNote]; simp [c1])
  obtain ⟨c1, c2⟩ := c1
  by_cases c3 : at_ = 0
  case neg =>
   have HR := Gg (show lookZ a2 a3 at_ m r D y = 9 from if_neg (fun h => c3 h.2.2.1))
   have c3' : (at_ != 0) = true := by simpa using c3
   clear c1 c2
   go_upto_region 6 with (first | (with_reducible refine GI (t := 43) rfl (by kernel_rfl) ?_) | (with_reducible refine GI (t := 44) rfl (by kernel_rfl) ?_) | (with_reducible refine GI (t := 45) rfl (by kernel_rfl) ?_) | (with_reducible refine GI (t := 46) rfl (by kernel_rfl) ?_) | (with_reducible refine GI (t := 49) rfl (by kernel_rfl) ?_) | (with_reducible refine GI (t := 50) rfl (by kernel_rfl) ?_) | (with_reducible refine GI (t := 53) rfl (by kernel_rfl) ?_) | (with_reducible refine GI (t := 54) rfl (by kernel_rfl) ?_) | (with_reducible refine GI (t := 55) rfl (by kernel_rfl) ?_) | (with_reducible refine GI (t := 56) rfl (by kernel_rfl) ?_) | (go_big_may; first | (refine Je (d := some 35) rfl rfl rfl ?_) | (refine L_neA (d := some 36) rfl rfl rfl Qf (Gw rfl) (Gw rfl) (HE.out _) ?_) | (refine Gn 34 rfl (by rfl) uz34 rfl GD (J4 (Ga.get 2 rfl)) (GN _ _ _) ?_) | (refine Gj 39 rfl (by rfl) uz3 rfl (Gy (Ga.get 2 rfl) Kd) ?_)))
   go_wp2_with (first | (refine Je (d := some 58) rfl rfl rfl ?_) | ((refine Gr 6 58 Ga rfl (by rfl) (Gw rfl) (Hg _ _ _) GD (by rfl) 1 rfl (by rfl) ?_; clear Ga; intro WS2 Ga; simp only [Ge, Gf] at Ga)))
   refine Hu rfl rfl rfl rfl rfl (Ga.get 1 rfl) uz34 rfl GD (GN _ _ _) ?_
   exact ⟨by rw [HR.out]; rfl, Ga.forget⟩
  by_cases c4 : m = 0
  case neg =>
   have HR := Gg (show lookZ a2 a3 at_ m r D y = 9 from if_neg (fun h => c4 h.2.2.2.1))
   subst c3
   have c4' : (0 : Int) < (m : Int) := by omega
   have c4'' : 0 < m := by omega
   clear c1 c2 c4
   go_upto_region 6 with (first | (with_reducible refine GI (t := 49) rfl (by kernel_rfl) ?_) | (with_reducible refine GI (t := 50) rfl (by kernel_rfl) ?_) | (with_reducible refine GI (t := 53) rfl (by kernel_rfl) ?_) | (with_reducible refine GI (t := 54) rfl (by kernel_rfl) ?_) | (with_reducible refine GI (t := 55) rfl (by kernel_rfl) ?_) | (with_reducible refine GI (t := 56) rfl (by kernel_rfl) ?_) | (go_big_may; first | (refine Je (d := some 35) rfl rfl rfl ?_) | (refine L_neA (d := some 36) rfl rfl rfl Qf (Gw rfl) (Gw rfl) (HE.out _) ?_) | (refine Gn 34 rfl (by rfl) uz34 rfl GD (J4 (Ga.get 2 rfl)) (GN _ _ _) ?_) | (refine Gj 39 rfl (by rfl) uz3 rfl (Gy (Ga.get 2 rfl) Kd) ?_) | (refine Gj 44 rfl (by rfl) uz44 rfl (Gy (Ga.get 2 rfl) My) ?_)))
   go_wp2_with (first | (refine Je (d := some 58) rfl rfl rfl ?_) | ((refine Gr 6 58 Ga rfl (by rfl) (Gw rfl) (Hg _ _ _) GD (by rfl) 1 rfl (by rfl) ?_; clear Ga; intro WS2 Ga; simp only [Ge, Gf] at Ga)))
   refine Hu rfl rfl rfl rfl rfl (Ga.get 1 rfl) uz34 rfl GD (GN _ _ _) ?_
   exact ⟨by rw [HR.out]; rfl, Ga.forget⟩
  by_cases c5 : r = 0
  case neg =>
   have HR := Gg (show lookZ a2 a3 at_ m r D y = 9 from if_neg (fun h => c5 h.2.2.2.2.1))
   have hE := HEE.out
   rw [if_neg c5] at hE
   unfold JL at hE
   subst hE
   subst c3
   subst c4
   clear c1 c2 HEE c5
   go_upto_region 6 with (first | (with_reducible refine GI (t := 53) rfl (by kernel_rfl) ?_) | (with_reducible refine GI (t := 54) rfl (by kernel_rfl) ?_) | (with_reducible refine GI (t := 55) rfl (by kernel_rfl) ?_) | (with_reducible refine GI (t := 56) rfl (by kernel_rfl) ?_) | (go_big_may; first | (refine Je (d := some 35) rfl rfl rfl ?_) | (refine L_neA (d := some 36) rfl rfl rfl Qf (Gw rfl) (Gw rfl) (HE.out _) ?_) | (refine Gn 34 rfl (by rfl) uz34 rfl GD (J4 (Ga.get 2 rfl)) (GN _ _ _) ?_) | (refine Gj 39 rfl (by rfl) uz3 rfl (Gy (Ga.get 2 rfl) Kd) ?_) | (refine Gj 44 rfl (by rfl) uz44 rfl (Gy (Ga.get 2 rfl) My) ?_)))
   go_wp2_with (first | (refine Je (d := some 58) rfl rfl rfl ?_) | ((refine Gr 6 58 Ga rfl (by rfl) (Gw rfl) (Hg _ _ _) GD (by rfl) 1 rfl (by rfl) ?_; clear Ga; intro WS2 Ga; simp only [Ge, Gf] at Ga)))
   refine Hu rfl rfl rfl rfl rfl (Ga.get 1 rfl) uz34 rfl GD (GN _ _ _) ?_
   exact ⟨by rw [HR.out]; rfl, Ga.forget⟩
  have hE := HEE.out
  rw [if_pos c5] at hE
  subst hE
  by_cases c6 : D = y
  case neg =>
   have HR := Gg (show lookZ a2 a3 at_ m r D y = 9 from if_neg (fun h => c6 h.2.2.2.2.2))
   have HD := Gg (show (!decide (D = y)) = true by simp [c6])
   subst c3
   subst c4
   clear c1 c2 HEE c5 c6
   go_upto_region 6 with (go_big_may; first | (refine Je (d := some 35) rfl rfl rfl ?_) | (refine L_neA (d := some 36) rfl rfl rfl Qf (Gw rfl) (Gw rfl) (HE.out _) ?_) | (refine Gn 34 rfl (by rfl) uz34 rfl GD (J4 (Ga.get 2 rfl)) (GN _ _ _) ?_) | (refine Gj 39 rfl (by rfl) uz3 rfl (Gy (Ga.get 2 rfl) Kd) ?_) | (refine Gj 44 rfl (by rfl) uz44 rfl (Gy (Ga.get 2 rfl) My) ?_) | (refine Gl 53 rfl (by rfl) uz32 rfl Gv (Ga.get 0 rfl) (Dig.size _) ?_) | (refine Gn 55 rfl (by rfl) uz32 rfl Gv (Jt (Ga.get 3 rfl)) (Dig.size _) ?_) | (refine Ml (d := some 56) rfl rfl rfl uz32 uz5 GF JG (Gw rfl) (Gw rfl) ?_; (try rw [HD.out])))
   go_wp2_with (first | (refine Je (d := some 58) rfl rfl rfl ?_) | ((refine Gr 6 58 Ga rfl (by rfl) (Gw rfl) (Hg _ _ _) GD (by rfl) 1 rfl (by rfl) ?_; clear Ga; intro WS2 Ga; simp only [Ge, Gf] at Ga)))
   refine Hu rfl rfl rfl rfl rfl (Ga.get 1 rfl) uz34 rfl GD (GN _ _ _) ?_
   exact ⟨by rw [HR.out]; rfl, Ga.forget⟩
  have HR := Gg (show lookZ a2 a3 at_ m r D y = 0 from if_pos ⟨c1, c2, c3, c4, c5, c6⟩)
  have HD := Gg (show (!decide (D = y)) = false by simp [c6])
  subst c3
  subst c4
  clear c1 c2 HEE c5 c6
  go_upto_region 7 with (go_big_may; first | (refine Je (d := some 35) rfl rfl rfl ?_) | (refine L_neA (d := some 36) rfl rfl rfl Qf (Gw rfl) (Gw rfl) (HE.out _) ?_) | (refine Gn 34 rfl (by rfl) uz34 rfl GD (J4 (Ga.get 2 rfl)) (GN _ _ _) ?_) | (refine Gj 39 rfl (by rfl) uz3 rfl (Gy (Ga.get 2 rfl) Kd) ?_) | (refine Gj 44 rfl (by rfl) uz44 rfl (Gy (Ga.get 2 rfl) My) ?_) | (refine Gl 53 rfl (by rfl) uz32 rfl Gv (Ga.get 0 rfl) (Dig.size _) ?_) | (refine Gn 55 rfl (by rfl) uz32 rfl Gv (Jt (Ga.get 3 rfl)) (Dig.size _) ?_) | (refine Ml (d := some 56) rfl rfl rfl uz32 uz5 GF JG (Gw rfl) (Gw rfl) ?_; (try rw [HD.out])))
  go_wp2_with (first | (refine Je (d := some 60) rfl rfl rfl ?_) | ((refine Gr 6 60 Ga rfl (by rfl) (Gw rfl) (Hg _ _ _) GD (by rfl) 1 rfl (by rfl) ?_; clear Ga; intro WS1 Ga; simp only [Ge, Gf] at Ga)))
  refine Hu rfl rfl rfl rfl rfl (Ga.get 1 rfl) uz34 rfl GD (GN _ _ _) ?_
  exact ⟨by rw [HR.out]; rfl, Ga.forget⟩
end
section
open Go.RowKit
theorem rput_no (n size : Int) (w : World) (h : size < 1 ∨ 8 < size ∨ n < 0) :
  Calls Tryz.prog 93 #[.int .i64 n, .int .i64 size] w fun e w' => e = .returned (.tuple #[.slice none 0 0, .bool false]) ∧ St w w' [] := by
 have Ga := St.refl w
 by_cases c1 : size < 1
 ·clear h
  go_enter Tryz.func93, Tryz.ntmps93
  go_wp2_with (fail)
  go_ret2
  exact ⟨rfl, Ga⟩
 by_cases c2 : 8 < size
 ·clear h
  go_enter Tryz.func93, Tryz.ntmps93
  go_wp2_with (fail)
  go_ret2
  exact ⟨rfl, Ga⟩
 ·have c3 : n < 0 := by omega
  clear h
  go_enter Tryz.func93, Tryz.ntmps93
  go_wp2_with (fail)
  go_ret2
  exact ⟨rfl, Ga⟩
end
end Go.Proofs.YtaebeemnipafbaaGreatDoor
