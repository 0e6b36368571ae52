/-
  Proved here: the contracts of the reference's digits of bytes, and bytes of digits. Condition: lengths that slices may have.
-/
import Derived.Test.YtplpmfmnlgepoaaDoorUnhex
import Derived.Test.YtplpmfmnlgepoaaDoorPick
import Derived.Deep.DeepCutAuto
import Derived.Deep.RegionWith
set_option maxRecDepth 20000
namespace Go.Proofs.YtplpmfmnlgepoaaDoor
open Go.RowKit

section
variable {P : Program} {ops : Array Oper} {rest : List Oper} {o : Oper} {a : Act} {W : World} {Q : Exit → Act → World → Prop} {d : Option Tmp}
/-- a part of a text -/
theorem L_strCut (hd : o.dst = d) (hw : Region.wanted o (yielded ops a.tmps) = true) {t : TypeId} {x lo hi : Operand} (ho : o.op = .slice t x (some lo) (some hi) none) (hu : P.underlying t = some .string) {s : ByteArray} (hx : a.eval x = .string s) {k k' : IntKind} {i' j' : Int} (hl : a.eval lo = .int k i') (hh : a.eval hi = .int k' j') (i j : Nat) (hi' : i' = (i : Int)) (hj' : j' = (j : Int)) (hij : i ≤ j) (hjs : j ≤ s.size) {u : ByteArray} (hu' : s.extract i j = u)
    (h : wpList P ops Q rest (a.put d (.string u)) W) : wpList P ops Q (o :: rest) a W := by
  subst hi'
  subst hj'
  subst hu'
  refine L_val hd hw ?_ h
  unfold execOp
  simp only [ho, hx]
  simp [Instr.sliceAt, Instr.slice, Instr.sliceBounds, Instr.sliceBound, asIntOf, run_underlying hu, hl, hh, hij, hjs]
/-- an element's place, the slice's own place known -/
theorem L_idxC (hd : o.dst = d) (hw : Region.wanted o (yielded ops a.tmps) = true) {T : TypeId} {x y : Operand} (ho : o.op = .indexAddr T x y) {g off n c : Nat} (hx : a.eval x = .slice (some ⟨g, off, none⟩) n c) {k : IntKind} {i : Int} (hy : a.eval y = .int k i)
    {e : TypeId} (hu : P.underlying T = some (.slice e)) {z : Value} {s b : Nat} (he : ElemIs P e z s b) {xs : List Value} (hs : SlR W (some ⟨g, off, none⟩) n c s xs) (h0 : 0 ≤ i) (h1 : i < (n : Int))
    (h : W.rangeAt g (off + i.toNat * s) ((xs.drop (i.toNat * s)).take s) → wpList P ops Q rest (a.put d (.pointer (some ⟨g, off + i.toNat * s, none⟩))) W) : wpList P ops Q (o :: rest) a W := by
  refine L_idxS hd hw ho hx hy hu he hs h0 h1 fun g' off' e hr => ?_
  cases e
  exact h hr
theorem L_strAdd (hd : o.dst = d) (hw : Region.wanted o (yielded ops a.tmps) = true) {t t' : TypeId} {x y : Operand} (ho : o.op = .binOp .add t x y t') {s u : ByteArray} (hx : a.eval x = .string s) (hy : a.eval y = .string u) (hz : s.size + u.size ≤ 9223372036854775807) {v : ByteArray} (hv : s ++ u = v)
    (h : wpList P ops Q rest (a.put d (.string v)) W) : wpList P ops Q (o :: rest) a W := by
  subst hv
  refine L_val hd hw ?_ h
  unfold execOp
  simp only [ho, hx, hy]
  have h1 : (eqGuard .add t x y (.string s) (.string u)).run P W = .ok () W := by simp [eqGuard]
  have h2 : (Go.binOp .add t (.string s) (.string u)).run P W = .ok (.string (s ++ u)) W := by
    show (Op.stringOp .add s u).run P W = _
    have h3 : ¬ (((s.size + u.size : Nat) : Int) > IntKind.i64.max) := by
      have : IntKind.i64.max = 9223372036854775807 := rfl
      rw [this]
      omega
    simp only [Op.stringOp, if_neg h3, Sem.run_pure]
  simp [h1, h2]
end
theorem digitsS_cut : ∀ k : Fin 16, digitsS.extract k.val (k.val + 1) = ⟨#[hexB k.val]⟩ := by decide +kernel
theorem hexV_hit : ∀ c : Fin 256, ∀ k : Fin 16, hexB k.val = UInt8.ofNat c.val → hexV (UInt8.ofNat c.val) = (k.val : Int) := by decide +kernel
theorem hexV_miss : ∀ c : Fin 256, (∀ k : Fin 16, hexB k.val ≠ UInt8.ofNat c.val) → hexV (UInt8.ofNat c.val) = -1 := by decide +kernel
theorem hexV_hit' (b : UInt8) (k : Nat) (hk : k < 16) (h : hexB k = b) : hexV b = (k : Int) := by
  have := hexV_hit ⟨b.toNat, UInt8.toNat_lt b⟩ ⟨k, hk⟩
  simp only [UInt8.ofNat_toNat] at this
  exact this h
theorem hexV_miss' (b : UInt8) (h : ∀ k, k < 16 → hexB k ≠ b) : hexV b = -1 := by
  have := hexV_miss ⟨b.toNat, UInt8.toNat_lt b⟩
  simp only [UInt8.ofNat_toNat] at this
  exact this fun k => h k.val k.isLt

set_option maxHeartbeats 1000000 in
theorem rdigit_any (b : UInt8) (w : World) : Calls Tryd.prog 47 #[.int .u8 (b.toNat : Int)] w fun e w' => e = .returned (.int .i64 (hexV b)) ∧ St w w' [] := by
  have hst := St.refl w
  go_enter Tryd.func47, Tryd.ntmps47
  go_wp2_with (first
    | fail)
  go_loopg [3] 16 (fun gk s3 wr => ∃ i : Nat, Hid (i + gk = 16) ∧ Hid (∀ j, j < i → hexB j ≠ b) ∧ s3 = .int .i64 (i : Int) ∧ St w wr [])
  case atStart => exact ⟨0, Lib.hid rfl, Lib.hid (fun j hj => by omega), rfl, hst⟩
  case round =>
    clear hst
    obtain ⟨i, HI, HM, rfl, hst⟩ := hrel
    have hi := HI.out
    by_cases hin : i < 16
    · clear hi
      have HC := Lib.hid (digitsS_at ⟨i, hin⟩)
      have HH := Lib.hid (hexV_hit' b i hin)
      have HN := Lib.hid (fun (h : hexB i ≠ b) => show ∀ j, j < i + 1 → hexB j ≠ b from fun j hj => by
        by_cases hji : j = i
        · subst hji; exact h
        · exact HM.out j (by omega))
      dsimp only at HC
      generalize hexB i = x at HC HH HN
      by_cases hxb : x = b
      · have hv := HH.out hxb
        have HV := Lib.hid hv
        have ht : ((x.toNat : Int) == (b.toNat : Int)) = true := by rw [hxb]; simp
        clear hv hxb HN HH
        go_wp2_with (first
          | (refine L_strIdx (d := some 9) rfl rfl rfl Tryd.underlying9 rfl (by rfl) i rfl HC.out ?_)
          | fail)
        go_ret
        exact ⟨by rw [HV.out]; rfl, hst⟩
      · have HN2 := Lib.hid (HN.out hxb)
        have ht : ((x.toNat : Int) == (b.toNat : Int)) = false := by
          rw [beq_eq_false_iff_ne]
          intro e
          exact hxb (UInt8.toNat_inj.1 (by omega))
        clear hxb HN HH
        go_wp2_with (first
          | (refine L_strIdx (d := some 9) rfl rfl rfl Tryd.underlying9 rfl (by rfl) i rfl HC.out ?_)
          | fail)
        go_roundg (gk - 1)
        case measure => have hi := HI.out; omega
        case rel =>
          have hi := HI.out
          exact ⟨i + 1, Lib.hid (by omega), HN2, by go_num, hst⟩
    · obtain rfl : i = 16 := by omega
      have HV := Lib.hid (hexV_miss' b HM.out)
      clear hi HI HM
      go_wp2_with (first
        | fail)
      go_ret
      exact ⟨by rw [HV.out]; rfl, hst⟩

set_option maxHeartbeats 1000000 in
theorem rhex_any (l : List UInt8) (A : Option Addr) (n c : Nat) (w : World) (hx : SlR w A n c 1 (bytesL l)) (hn : 2 * n ≤ 140737488355000) :
    Calls Tryd.prog 23 #[.slice A n c] w fun e w' => e = .returned (.string ⟨(hexL l).toArray⟩) ∧ St w w' [] := by
  have hst := St.refl w
  have hl := hx.1
  rw [length_bytesL, Nat.mul_one] at hl
  have Hl := Lib.hid hl
  have hcap := hx.2.1
  have hmx := hx.2.2.1
  simp only [maxLen] at hmx
  have H0 := Lib.hid (show (⟨#[]⟩ : ByteArray) = ⟨(hexL (l.take 0)).toArray⟩ from rfl)
  clear hl
  go_enter Tryd.func23, Tryd.ntmps23
  go_wp2_with (first
    | fail)
  go_loopg [3, 4, 5, 6] n (fun gk s3 s4 s5 s6 wr => ∃ (i : Nat) (u : ByteArray), Hid (i + gk = n) ∧ s4 = .int .i64 (i : Int) ∧ s3 = .string u ∧ Hid (u = ⟨(hexL (l.take i)).toArray⟩) ∧ u.size ≤ 2 * n ∧ St w wr [])
  case atStart => exact ⟨0, _, Lib.hid (by omega), rfl, rfl, H0, Nat.zero_le _, hst⟩
  case round =>
    clear hst
    obtain ⟨i, u, HI, rfl, rfl, HU, hus, hst⟩ := hrel
    have hi := HI.out
    by_cases hin : i < n
    · clear hi
      have hb := Lib.hid (show i < l.length by rw [Hl.out]; exact hin)
      have HC := Lib.hid (fun (W : World) (g off : Nat) h => byte_of_range (W := W) (g := g) (off := off) (i := i) (l := l) h hb.out)
      have HT := Lib.hid (hexL_take l i hb.out)
      have HLn := Lib.hid (show (hexL (l.take (i + 1))).length ≤ 2 * n by rw [length_hexL, List.length_take, Hl.out]; omega)
      have hx256 := UInt8.toNat_lt (l.getD i 0)
      generalize l.getD i 0 = x at *
      obtain ⟨ob, oo, rfl, _⟩ := hx.2.2.2 (by omega)
      have h1 : x.toNat / 16 < 16 := by omega
      have h2 : x.toNat % 16 < 16 := by omega
      have HD1 := Lib.hid (show digitsS.extract (x.toNat / 16) (x.toNat / 16 + 1) = ⟨#[hexB (x.toNat / 16)]⟩ from digitsS_cut ⟨x.toNat / 16, h1⟩)
      have HD2 := Lib.hid (show digitsS.extract (x.toNat % 16) (x.toNat % 16 + 1) = ⟨#[hexB (x.toNat % 16)]⟩ from digitsS_cut ⟨x.toNat % 16, h2⟩)
      go_wp2_with (first
        | (refine L_idxC (d := some 15) rfl rfl rfl (by rfl) (by rfl) Tryd.underlying33 el_uint8 (hst.old (by decide) hx) (by omega) (by omega) ?_; intro hr15)
        | (refine L_idxC (d := some 21) rfl rfl rfl (by rfl) (by rfl) Tryd.underlying33 el_uint8 (hst.old (by decide) hx) (by omega) (by omega) ?_; intro hr21)
        | (refine L_load1 (d := some 16) rfl rfl rfl (by rfl) Tryd.underlying5 rfl (HC.out _ _ _ hr15) ?_)
        | (refine L_load1 (d := some 22) rfl rfl rfl (by rfl) Tryd.underlying5 rfl (HC.out _ _ _ hr21) ?_)
        | (refine L_idxS (d := some 15) rfl rfl rfl (by rfl) (by rfl) Tryd.underlying33 el_uint8 (by first | exact hst.old (by decide) hx | assumption | exact hst.sl 0 rfl | exact hst.old (by decide) (by assumption)) (by omega) (by omega) ?_; intro o15 p15 ha15 hr15; (first | subst ha15 | (obtain ⟨h1, h2⟩ := some_addr ha15; subst h1; subst h2; clear ha15) | skip))
        | (refine L_load1 (d := some 16) rfl rfl rfl (by rfl) Tryd.underlying5 rfl (by first | assumption | exact cell_of (hst.get 0 rfl) rfl) ?_)
        | (refine L_idxS (d := some 21) rfl rfl rfl (by rfl) (by rfl) Tryd.underlying33 el_uint8 (by first | exact hst.old (by decide) hx | assumption | exact hst.sl 0 rfl | exact hst.old (by decide) (by assumption)) (by omega) (by omega) ?_; intro o21 p21 ha21 hr21; (first | subst ha21 | (obtain ⟨h1, h2⟩ := some_addr ha21; subst h1; subst h2; clear ha21) | skip))
        | (refine L_load1 (d := some 22) rfl rfl rfl (by rfl) Tryd.underlying5 rfl (by first | assumption | exact cell_of (hst.get 0 rfl) rfl) ?_)
        | fail)
      refine wp_region_idx [(0, 0), (1, 0), (2, 0), (3, 0), (4, 0), (5, 0), (6, 2), (7, 2), (8, 2), (9, 2), (10, 2), (11, 2)] (by kernel_rfl) (by kernel_rfl) ?_
      replace hst := hst.drew
      refine idx_q rfl rfl ?_; go_wp2_with fail
      refine idx_q rfl rfl ?_; go_wp2_with fail
      refine idx_q rfl rfl ?_; go_wp2_with fail
      refine idx_q rfl rfl ?_; go_wp2_with fail
      refine idx_q rfl rfl ?_; go_wp2_with (first | (refine L_strCut (d := some 29) rfl rfl rfl Tryd.underlying9 ev_const (ev_tmp rfl) (ev_tmp rfl) (x.toNat / 16) (x.toNat / 16 + 1) (by omega) (by omega) (by omega) (by first | (simp only [digitsS]; show _ ≤ 16; omega) | (show _ ≤ 16; omega)) HD1.out ?_) | fail)
      refine idx_q rfl rfl ?_; go_wp2_with fail
      refine idx_g rfl ?_; go_wp2_with fail; refine ⟨by first | exact Below.refl _ _ | exact hnew.below, ?_⟩
      refine idx_g rfl ?_; go_wp2_with fail; refine ⟨by first | exact Below.refl _ _ | exact hnew.below, ?_⟩
      refine idx_g rfl ?_; go_wp2_with (first | (refine L_strCut (d := some 33) rfl rfl rfl Tryd.underlying9 ev_const (ev_tmp rfl) (ev_tmp rfl) (x.toNat % 16) (x.toNat % 16 + 1) (by omega) (by omega) (by omega) (by first | (simp only [digitsS]; show _ ≤ 16; omega) | (show _ ≤ 16; omega)) HD2.out ?_) | fail); refine ⟨by first | exact Below.refl _ _ | exact hnew.below, ?_⟩
      refine idx_g rfl ?_; go_wp2_with (first | (refine L_strAdd (d := some 34) rfl rfl rfl (ev_tmp rfl) (ev_tmp rfl) (by decide) rfl ?_) | fail); refine ⟨by first | exact Below.refl _ _ | exact hnew.below, ?_⟩
      refine idx_g rfl ?_; go_wp2_with (first | (refine L_strAdd (d := some 35) rfl rfl rfl (ev_tmp rfl) (ev_tmp rfl) (by show _ + 2 ≤ _; omega) rfl ?_) | fail); refine ⟨by first | exact Below.refl _ _ | exact hnew.below, ?_⟩
      refine idx_g rfl ?_; go_wp2_with fail; refine ⟨by first | exact Below.refl _ _ | exact hnew.below, ?_⟩
      refine idx_nil ?_
      go_wp2_with (first
        | fail)
      go_roundg (gk - 1)
      case measure => have hi := HI.out; omega
      case rel =>
        have hi := HI.out
        have he : u ++ ((⟨#[hexB (x.toNat / 16)]⟩ : ByteArray) ++ ⟨#[hexB (x.toNat % 16)]⟩) = ⟨(hexL (l.take (i + 1))).toArray⟩ := by
          rw [HT.out, HU.out]
          apply ByteArray.ext
          simp
        refine ⟨i + 1, _, Lib.hid (by omega), by go_num, rfl, Lib.hid he, ?_, hst⟩
        rw [he]
        exact HLn.out
    · obtain rfl : i = n := by omega
      have hta : l.take i = l := List.take_of_length_le (by rw [Hl.out]; exact Nat.le_refl _)
      rw [hta] at HU
      clear hi HI hta
      go_wp2_with (first
        | fail)
      go_ret
      exact ⟨by rw [HU.out]; rfl, hst⟩

/-- how the reference ends: all pairs are digits, or the t-th one is not -/
def RUnhexEnd (l : List UInt8) (m t : Nat) (pb : Bool) (w : World) (e : Ending) (w' : World) : Prop :=
  (t = m ∧ ∃ A c, e = .returned (.tuple #[.slice A m c, .bool pb]) ∧ St w w' [.row A m c 5 1 (bytesL (decL l m))]) ∨ (t < m ∧ e = .returned (.tuple #[.slice none 0 0, .bool false]) ∧ St w w' [])

set_option maxHeartbeats 2000000 in
theorem runhex_any (s : ByteArray) (m t : Nat) (pb : Bool) (w : World) (hs : s.size ≤ 140737488355000) (hm : m = s.size / 2) (hpb : ((s.size : Int) % 2 == 0) = pb) (ht : t ≤ m) (hok : ∀ j, j < t → pairOk s.data.toList j) (hend : t < m → ¬ pairOk s.data.toList t) :
    Calls Tryd.prog 24 #[.string s] w (RUnhexEnd s.data.toList m t pb w) := by
  have hst := St.refl w
  have Hok := Lib.hid hok
  have Hend := Lib.hid hend
  have hm2 : 2 * m ≤ s.size := by omega
  have hm3 : s.size < 2 * m + 2 := by omega
  have Hat := Lib.hid (fun j => str_at s j)
  clear hok hend hm
  go_enter Tryd.func24, Tryd.ntmps24
  go_wp2_with (first
    | fail)
  have hst : St w w [.row none 0 0 5 1 (bytesL (decL s.data.toList 0))] := hst.nilRow 5 1
  go_loopg [4, 5, 6, 7] m (fun gk s4 s5 s6 s7 wr => ∃ (k : Nat) (O : Option Addr) (oc : Nat), Hid (k + gk = m) ∧ k ≤ t ∧ s4 = .slice O k oc ∧ s5 = .int .i64 ((2 * k : Nat) : Int) ∧ St w wr [.row O k oc 5 1 (bytesL (decL s.data.toList k))])
  case atStart => exact ⟨0, _, _, Lib.hid (by omega), by omega, rfl, rfl, hst⟩
  case round =>
    clear hst
    obtain ⟨k, O, oc, HK, hkt, rfl, rfl, hst⟩ := hrel
    have hk := HK.out
    have e1 : ((2 * k : Nat) : Int) = 2 * (k : Int) := by omega
    rw [e1]
    clear e1
    by_cases hkm : k < m
    · clear hk
      have HC1 := Lib.hid (Hat.out (2 * k) (by omega))
      have HC2 := Lib.hid (Hat.out (2 * k + 1) (by omega))
      have HP := Lib.hid (show pairOk s.data.toList k ↔ 0 ≤ hexV (s.data.toList.getD (2 * k) 0) ∧ 0 ≤ hexV (s.data.toList.getD (2 * k + 1) 0) from Iff.rfl)
      have HB := Lib.hid (show pairB s.data.toList k = UInt8.ofNat ((hexV (s.data.toList.getD (2 * k) 0)).toNat * 16 + (hexV (s.data.toList.getD (2 * k + 1) 0)).toNat) from rfl)
      generalize s.data.toList.getD (2 * k) 0 = b1 at *
      generalize s.data.toList.getD (2 * k + 1) 0 = b2 at *
      have HI1 := Lib.hid (fun w => rdigit_any b1 w)
      have HI2 := Lib.hid (fun w => rdigit_any b2 w)
      have hv1 := hexV_cases b1
      have hv2 := hexV_cases b2
      generalize hexV b1 = v1 at *
      generalize hexV b2 = v2 at *
      by_cases hkt' : k < t
      · obtain ⟨p1, p2⟩ := HP.out.1 (Hok.out k hkt')
        have q1 := (hv1.resolve_left (by omega)).2.1
        have q2 := (hv2.resolve_left (by omega)).2.1
        have n1 : ¬ v1 < 0 := by omega
        have n2 : ¬ v2 < 0 := by omega
        clear hv1 hv2 HP
        go_upto_region 5 with (first
          | fail)
        go_upto_region 6 with (first
          | (refine L_strIdx (d := some 17) rfl rfl rfl Tryd.underlying9 rfl (by rfl) (2 * k) (by omega) HC1.out ?_)
          | (go_at_call 47; (try clear hnew); refine (HI1.out _).mono ?_; rintro e Wk1 ⟨rfl, hnew⟩; replace hst := hst.keep hnew)
          | fail)
        go_upto_region 7 with (first
          | (refine L_strIdx (d := some 22) rfl rfl rfl Tryd.underlying9 rfl (by rfl) (2 * k + 1) (by omega) HC2.out ?_)
          | (go_at_call 47; (try clear hnew); refine (HI2.out _).mono ?_; rintro e Wk2 ⟨rfl, hnew⟩; replace hst := hst.keep hnew)
          | fail)
        go_wp2_with (first
          | (refine L_buildS (d := some 36) rfl rfl rfl [_] (bs_1 (ev_tmp rfl)) rfl Tryd.underlying33 el_uint8 rfl (by first | (simp [Value.cells]; done) | (simp [Value.cells, Dig.size]; done)) (by decide) (by decide) ?_; (try clear hnew); intro g36 W36 hnew; replace hst := hst.trans hnew; simp only [List.cons_append, List.nil_append] at hst; simp only [List.flatMap_cons, List.flatMap_nil, List.append_nil, Value.cells, List.toList_toArray] at hst)
          | (refine L_appendO (d := some 37) rfl rfl hst rfl (by rfl) (by rfl) Tryd.underlying33 el_uint8 rfl (by decide) (by decide) 0 rfl (by first | rfl | omega) (by first | exact hst.sl 0 rfl | exact hst.sl 1 rfl | assumption | exact hst.old (by decide) (by assumption)) (by first | exact oneCell_bytes | (simp [Value.oneCell']; done)) (by omega) ?_; clear hst; intro A37 c37 W37 hst; simp only [List.set_cons_zero, List.set_cons_succ, List.nil_append, Nat.zero_add] at hst)
          | (refine L_appendO (d := some 37) rfl rfl hst rfl (by rfl) (by rfl) Tryd.underlying33 el_uint8 rfl (by decide) (by decide) 1 rfl (by first | rfl | omega) (by first | exact hst.sl 0 rfl | exact hst.sl 1 rfl | assumption | exact hst.old (by decide) (by assumption)) (by first | exact oneCell_bytes | (simp [Value.oneCell']; done)) (by omega) ?_; clear hst; intro A37 c37 W37 hst; simp only [List.set_cons_zero, List.set_cons_succ, List.nil_append, Nat.zero_add] at hst)
          | (refine L_appendF (d := some 37) rfl rfl rfl (by rfl) (by rfl) Tryd.underlying33 el_uint8 rfl (by decide) (by assumption) (by first | assumption | exact hst.sl 0 rfl | exact hst.sl 1 rfl | assumption | exact hst.old (by decide) (by assumption)) (by omega) (by omega) (by omega) ?_; (try clear hnew); intro A37 c37 W37 hnew; replace hst := hst.trans hnew; simp only [List.cons_append, List.nil_append] at hst)
          | fail)
        clear hnew
        have HV := Lib.hid (show bytesL (decL s.data.toList k) ++ [Value.int .u8 (v1 * 16 + v2)] = bytesL (decL s.data.toList (k + 1)) by
          rw [decL_succ, bytesL_append, HB.out]
          congr 1
          simp only [bytesL, List.map_cons, List.map_nil, byteV, UInt8.toNat_ofNat']
          rw [Nat.mod_eq_of_lt (by omega)]
          congr 2
          omega)
        go_roundg (gk - 1)
        case measure => have hk := HK.out; omega
        case rel =>
          have hk := HK.out
          refine ⟨k + 1, A37, c37, Lib.hid (by omega), by omega, rfl, by first | rfl | (congr 1; omega), ?_⟩
          rw [← HV.out]
          exact hst.pick [1] (by decide)
      · obtain rfl : k = t := by omega
        have hno := Hend.out hkm
        rw [HP.out] at hno
        by_cases n1 : v1 < 0
        · clear hno hv1 hv2 HP
          go_upto_region 5 with (first
            | fail)
          go_upto_region 6 with (first
            | (refine L_strIdx (d := some 17) rfl rfl rfl Tryd.underlying9 rfl (by rfl) (2 * k) (by omega) HC1.out ?_)
            | (go_at_call 47; (try clear hnew); refine (HI1.out _).mono ?_; rintro e Wk3 ⟨rfl, hnew⟩; replace hst := hst.keep hnew)
            | fail)
          go_upto_region 7 with (first
            | (refine L_strIdx (d := some 22) rfl rfl rfl Tryd.underlying9 rfl (by rfl) (2 * k + 1) (by omega) HC2.out ?_)
            | (go_at_call 47; (try clear hnew); refine (HI2.out _).mono ?_; rintro e Wk4 ⟨rfl, hnew⟩; replace hst := hst.keep hnew)
            | fail)
          go_wp2_with (first
            | fail)
          go_ret2
          exact .inr ⟨hkm, rfl, hst.forget⟩
        · have n2 : v2 < 0 := by omega
          have n1' : ¬ v1 < 0 := by omega
          clear hno hv1 hv2 HP
          go_upto_region 5 with (first
            | fail)
          go_upto_region 6 with (first
            | (refine L_strIdx (d := some 17) rfl rfl rfl Tryd.underlying9 rfl (by rfl) (2 * k) (by omega) HC1.out ?_)
            | (go_at_call 47; (try clear hnew); refine (HI1.out _).mono ?_; rintro e Wk5 ⟨rfl, hnew⟩; replace hst := hst.keep hnew)
            | fail)
          go_upto_region 7 with (first
            | (refine L_strIdx (d := some 22) rfl rfl rfl Tryd.underlying9 rfl (by rfl) (2 * k + 1) (by omega) HC2.out ?_)
            | (go_at_call 47; (try clear hnew); refine (HI2.out _).mono ?_; rintro e Wk6 ⟨rfl, hnew⟩; replace hst := hst.keep hnew)
            | fail)
          go_wp2_with (first
            | fail)
          go_ret2
          exact .inr ⟨hkm, rfl, hst.forget⟩
    · obtain rfl : k = m := by omega
      obtain rfl : t = k := by omega
      clear hk
      go_wp2_with (first
        | fail)
      go_ret2
      exact .inl ⟨rfl, _, _, rfl, hst⟩
end Go.Proofs.YtplpmfmnlgepoaaDoor
