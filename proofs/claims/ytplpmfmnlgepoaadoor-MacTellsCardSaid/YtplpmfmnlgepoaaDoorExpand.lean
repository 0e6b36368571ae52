/-
  Proved here: the contract of mac.Expand: as many bytes as one likes. Condition: the table of round constants stands.
-/
import Derived.Test.YtplpmfmnlgepoaaDoorChain
set_option maxRecDepth 20000
namespace Go.Proofs.YtplpmfmnlgepoaaDoor
open Go.RowKit

section
variable {P : Program} {a : Act} {W : World}
theorem bp_tmp2 {fn : Func} {R : Ending → World → Prop} {p q : Tmp} (hr : fn.results = #[.tmp p, .tmp q]) (hd : a.defers = []) {v1 v2 : Value} (hp : a.tmps.toList[p]? = some v1) (hq : a.tmps.toList[q]? = some v2) (hR : R (.returned (.tuple #[v1, v2])) W) : bodyPost P fn R .ret a W := by
  have hp' : a.tmps[p]?.getD undef = v1 := by
    have : a.tmps[p]? = some v1 := by simpa using hp
    simp [this]
  have hq' : a.tmps[q]?.getD undef = v2 := by
    have : a.tmps[q]? = some v2 := by simpa using hq
    simp [this]
  refine bodyPost_ret ?_ hd hR
  simp [results, hr, hp', hq']
end
theorem SlR.le {W : World} {A : Option Addr} {n c s : Nat} {xs : List Value} (h : SlR W A n c s xs) : n ≤ c := h.2.1
/-- the next digest, of the last one -/
def nextN (key info last : List UInt8) (k : Nat) : Dig := macN key (last ++ info ++ [UInt8.ofNat (k + 1)])
/-- the digest that was last told, and all that were -/
def lastN (key info : List UInt8) : Nat → List UInt8
  | 0 => []
  | k + 1 => (nextN key info (lastN key info k) k).l
def outN (key info : List UInt8) : Nat → List UInt8
  | 0 => []
  | k + 1 => outN key info k ++ lastN key info (k + 1)
theorem length_outN (key info : List UInt8) : ∀ k, (outN key info k).length = k * 32
  | 0 => rfl
  | k + 1 => by rw [outN, List.length_append, length_outN, lastN, Dig.h]; omega
theorem length_lastN (key info : List UInt8) : ∀ k, (lastN key info k).length ≤ 32
  | 0 => Nat.zero_le _
  | k + 1 => by rw [lastN, Dig.h]; exact Nat.le_refl _
theorem outN_pre (key info : List UInt8) {j k : Nat} (h : j ≤ k) : outN key info j <+: outN key info k := by
  induction h with
  | refl => exact List.prefix_refl _
  | step _ ih => exact ih.trans (by rw [outN]; exact List.prefix_append _ _)
/-- as many bytes as one likes -/
def expN (key info : List UInt8) (n : Nat) : List UInt8 := (outN key info ((n + 31) / 32)).take n
theorem length_expN (key info : List UInt8) (n : Nat) : (expN key info n).length = n := by
  rw [expN, List.length_take, length_outN]; omega
theorem expN_take (key info : List UInt8) {m n : Nat} (h : m ≤ n) : (expN key info n).take m = expN key info m := by
  have hp := outN_pre key info (show (m + 31) / 32 ≤ (n + 31) / 32 by omega)
  obtain ⟨t, ht⟩ := hp
  unfold expN
  rw [List.take_take, Nat.min_eq_left h, ← ht, List.take_append_of_le_length (by rw [length_outN]; omega)]
theorem byte_num (k : Nat) (h : k < 256) : [Value.int .u8 ((k : Nat) : Int)] = bytesL [UInt8.ofNat k] := by
  simp only [bytesL, List.map_cons, List.map_nil, byteV, UInt8.toNat_ofNat', Nat.mod_eq_of_lt h]

theorem mac_next (key info last : List UInt8) (k : Nat) (hk : k + 1 < 256) (K A : Option Addr) (m mc n c : Nat) (w : World) (hT : Tb w) (h1 : SlR w K m mc 1 (bytesL key)) (h2 : SlR w A n c 1 (bytesL last ++ bytesL info ++ [Value.int .u8 ((k : Int) + 1)])) (hm : m ≤ 140737488355000) (hn : n ≤ 140737488355000) :
    Calls Tryd.prog 13 #[.slice K m mc, .slice A n c] w fun e w' => e = .returned (nextN key info last k).v ∧ St w w' [] := by
  refine mac_any key (last ++ info ++ [UInt8.ofNat (k + 1)]) K A m mc n c w hT h1 ?_ hm hn
  rw [bytesL_append, bytesL_append, ← byte_num (k + 1) hk]
  exact h2

set_option maxHeartbeats 2000000 in
set_option maxRecDepth 100000 in
theorem expand_any (key info : List UInt8) (K A : Option Addr) (m mc n c : Nat) (z : Nat) (w : World) (hT : Tb w) (hk : SlR w K m mc 1 (bytesL key)) (hx : SlR w A n c 1 (bytesL info)) (hm : m ≤ 140737488355000) (hn : n ≤ 140737488354000) (hz : z ≤ 2000) :
    Calls Tryd.prog 16 #[.slice K m mc, .slice A n c, .int .i64 (z : Int)] w fun e w' => ∃ B d, e = .returned (.tuple #[.slice B z d, .nilIface]) ∧ St w w' [.row B z d 5 1 (bytesL (expN key info z))] := by
  have hst := St.refl w
  have HT := Lib.hid hT
  have hxl := hx.1
  rw [length_bytesL, Nat.mul_one] at hxl
  have Hxl := Lib.hid hxl
  have h0 : ¬ (z : Int) < 0 := by omega
  have h1 : ¬ (2000 : Int) < (z : Int) := by omega
  clear hT hxl
  go_enter Tryd.func16, Tryd.ntmps16
  go_wp2_with (first
    | fail)
  clear h0 h1
  have hst : St w w [.row none 0 0 5 1 (bytesL (outN key info 0))] := hst.nilRow 5 1
  go_loopg [8, 9, 10] ((z + 31) / 32) (fun gk s8 s9 s10 wr => ∃ (k : Nat) (O B : Option Addr) (oc bn : Nat) (Lk : List Res), Hid (k + gk = (z + 31) / 32) ∧ Hid ((lastN key info k).length = bn) ∧ bn ≤ 32 ∧ s8 = .slice O (k * 32) oc ∧ s9 = .slice B bn bn ∧ s10 = .int .u8 ((k + 1 : Nat) : Int) ∧ Hid (Src w Lk B bn bn 1 (bytesL (lastN key info k))) ∧ St w wr (.row O (k * 32) oc 5 1 (bytesL (outN key info k)) :: Lk))
  case atStart => exact ⟨0, none, none, 0, 0, [], Lib.hid (by omega), Lib.hid rfl, Nat.zero_le _, rfl, rfl, rfl, Lib.hid (fun W _ => SlR.nil_ W 1), hst⟩
  case round =>
    clear hst
    obtain ⟨k, O, B, oc, bn, Lk, HI, HB, hb32, rfl, rfl, rfl, HS, hst⟩ := hrel
    have hi := HI.out
    by_cases hin : k * 32 < z
    · have hk63 : k < 63 := by omega
      have hgk : 0 < gk := by omega
      have Hlast := Lib.hid (show (nextN key info (lastN key info k) k).l = lastN key info (k + 1) from rfl)
      have Hout := Lib.hid (show outN key info k ++ lastN key info (k + 1) = outN key info (k + 1) from rfl)
      clear hi
      have hkb : k + 1 < 256 := by omega
      go_wp2_with (first
        | (go_at_call 13; (try clear hnew); with_reducible refine (mac_next key info (lastN key info k) k hkb _ _ _ _ _ _ _ (HT.out.of hst) (hst.old (by decide) hk) (hst.sl 1 rfl) hm (by omega)).mono ?_; rintro e W35 ⟨rfl, hnew⟩; replace hst := hst.keep hnew)
        | (refine L_appendO (d := some 27) rfl rfl (hst.nilRow 5 1) rfl (by rfl) (by rfl) Tryd.underlying33 el_uint8 rfl (by decide) (by decide) 0 rfl rfl (by first | exact HS.out _ (hst.tailN 1) | exact HS.out _ (hst.tailN 2) | exact hst.sl 0 rfl | exact hst.sl 1 rfl | exact hst.sl 2 rfl | exact hst.sl 3 rfl | exact hst.sl 4 rfl | exact hst.sl 5 rfl | assumption | exact hst.old (by decide) (by assumption)) (by first | exact oneCell_bytes | (simp [Value.oneCell']; done)) (by omega) ?_; clear hst; intro A27 c27 W27 hst; simp only [List.set_cons_zero, List.set_cons_succ, List.nil_append, Nat.zero_add] at hst)
        | (refine L_appendO (d := some 29) rfl rfl hst rfl (by rfl) (by rfl) Tryd.underlying33 el_uint8 rfl (by decide) (by decide) 0 rfl (by first | rfl | omega) (by first | exact HS.out _ (hst.tailN 1) | exact HS.out _ (hst.tailN 2) | exact hst.sl 0 rfl | exact hst.sl 1 rfl | exact hst.sl 2 rfl | exact hst.sl 3 rfl | exact hst.sl 4 rfl | exact hst.sl 5 rfl | assumption | exact hst.old (by decide) (by assumption)) (by first | exact oneCell_bytes | (simp [Value.oneCell']; done)) (by omega) ?_; clear hst; intro A29 c29 W29 hst; simp only [List.set_cons_zero, List.set_cons_succ, List.nil_append, Nat.zero_add] at hst)
        | (refine L_appendO (d := some 29) rfl rfl hst rfl (by rfl) (by rfl) Tryd.underlying33 el_uint8 rfl (by decide) (by decide) 1 rfl (by first | rfl | omega) (by first | exact HS.out _ (hst.tailN 1) | exact HS.out _ (hst.tailN 2) | exact hst.sl 0 rfl | exact hst.sl 1 rfl | exact hst.sl 2 rfl | exact hst.sl 3 rfl | exact hst.sl 4 rfl | exact hst.sl 5 rfl | assumption | exact hst.old (by decide) (by assumption)) (by first | exact oneCell_bytes | (simp [Value.oneCell']; done)) (by omega) ?_; clear hst; intro A29 c29 W29 hst; simp only [List.set_cons_zero, List.set_cons_succ, List.nil_append, Nat.zero_add] at hst)
        | (refine L_appendO (d := some 29) rfl rfl hst rfl (by rfl) (by rfl) Tryd.underlying33 el_uint8 rfl (by decide) (by decide) 2 rfl (by first | rfl | omega) (by first | exact HS.out _ (hst.tailN 1) | exact HS.out _ (hst.tailN 2) | exact hst.sl 0 rfl | exact hst.sl 1 rfl | exact hst.sl 2 rfl | exact hst.sl 3 rfl | exact hst.sl 4 rfl | exact hst.sl 5 rfl | assumption | exact hst.old (by decide) (by assumption)) (by first | exact oneCell_bytes | (simp [Value.oneCell']; done)) (by omega) ?_; clear hst; intro A29 c29 W29 hst; simp only [List.set_cons_zero, List.set_cons_succ, List.nil_append, Nat.zero_add] at hst)
        | (refine L_appendO (d := some 29) rfl rfl hst rfl (by rfl) (by rfl) Tryd.underlying33 el_uint8 rfl (by decide) (by decide) 3 rfl (by first | rfl | omega) (by first | exact HS.out _ (hst.tailN 1) | exact HS.out _ (hst.tailN 2) | exact hst.sl 0 rfl | exact hst.sl 1 rfl | exact hst.sl 2 rfl | exact hst.sl 3 rfl | exact hst.sl 4 rfl | exact hst.sl 5 rfl | assumption | exact hst.old (by decide) (by assumption)) (by first | exact oneCell_bytes | (simp [Value.oneCell']; done)) (by omega) ?_; clear hst; intro A29 c29 W29 hst; simp only [List.set_cons_zero, List.set_cons_succ, List.nil_append, Nat.zero_add] at hst)
        | (refine L_appendO (d := some 29) rfl rfl hst rfl (by rfl) (by rfl) Tryd.underlying33 el_uint8 rfl (by decide) (by decide) 4 rfl (by first | rfl | omega) (by first | exact HS.out _ (hst.tailN 1) | exact HS.out _ (hst.tailN 2) | exact hst.sl 0 rfl | exact hst.sl 1 rfl | exact hst.sl 2 rfl | exact hst.sl 3 rfl | exact hst.sl 4 rfl | exact hst.sl 5 rfl | assumption | exact hst.old (by decide) (by assumption)) (by first | exact oneCell_bytes | (simp [Value.oneCell']; done)) (by omega) ?_; clear hst; intro A29 c29 W29 hst; simp only [List.set_cons_zero, List.set_cons_succ, List.nil_append, Nat.zero_add] at hst)
        | (refine L_appendO (d := some 29) rfl rfl hst rfl (by rfl) (by rfl) Tryd.underlying33 el_uint8 rfl (by decide) (by decide) 5 rfl (by first | rfl | omega) (by first | exact HS.out _ (hst.tailN 1) | exact HS.out _ (hst.tailN 2) | exact hst.sl 0 rfl | exact hst.sl 1 rfl | exact hst.sl 2 rfl | exact hst.sl 3 rfl | exact hst.sl 4 rfl | exact hst.sl 5 rfl | assumption | exact hst.old (by decide) (by assumption)) (by first | exact oneCell_bytes | (simp [Value.oneCell']; done)) (by omega) ?_; clear hst; intro A29 c29 W29 hst; simp only [List.set_cons_zero, List.set_cons_succ, List.nil_append, Nat.zero_add] at hst)
        | (refine L_appendF (d := some 29) rfl rfl rfl (by rfl) (by rfl) Tryd.underlying33 el_uint8 rfl (by decide) (by assumption) (by first | assumption | exact HS.out _ (hst.tailN 1) | exact HS.out _ (hst.tailN 2) | exact hst.sl 0 rfl | exact hst.sl 1 rfl | exact hst.sl 2 rfl | exact hst.sl 3 rfl | exact hst.sl 4 rfl | exact hst.sl 5 rfl | assumption | exact hst.old (by decide) (by assumption)) (by omega) (by omega) (by omega) ?_; (try clear hnew); intro A29 c29 W29 hnew; replace hst := hst.trans hnew; simp only [List.cons_append, List.nil_append] at hst)
        | (refine L_buildS (d := some 31) rfl rfl rfl [_] (bs_1 (ev_tmp rfl)) rfl Tryd.underlying33 el_uint8 rfl (by first | (simp [Value.cells]; done) | (simp [Value.cells, Dig.size]; done)) (by decide) (by decide) ?_; (try clear hnew); intro g31 W31 hnew; replace hst := hst.trans hnew; simp only [List.cons_append, List.nil_append] at hst; simp only [List.flatMap_cons, List.flatMap_nil, List.append_nil, Value.cells, List.toList_toArray] at hst)
        | (refine L_appendO (d := some 32) rfl rfl hst rfl (by rfl) (by rfl) Tryd.underlying33 el_uint8 rfl (by decide) (by decide) 0 rfl (by first | rfl | omega) (by first | exact HS.out _ (hst.tailN 1) | exact HS.out _ (hst.tailN 2) | exact hst.sl 0 rfl | exact hst.sl 1 rfl | exact hst.sl 2 rfl | exact hst.sl 3 rfl | exact hst.sl 4 rfl | exact hst.sl 5 rfl | assumption | exact hst.old (by decide) (by assumption)) (by first | exact oneCell_bytes | (simp [Value.oneCell']; done)) (by omega) ?_; clear hst; intro A32 c32 W32 hst; simp only [List.set_cons_zero, List.set_cons_succ, List.nil_append, Nat.zero_add] at hst)
        | (refine L_appendO (d := some 32) rfl rfl hst rfl (by rfl) (by rfl) Tryd.underlying33 el_uint8 rfl (by decide) (by decide) 1 rfl (by first | rfl | omega) (by first | exact HS.out _ (hst.tailN 1) | exact HS.out _ (hst.tailN 2) | exact hst.sl 0 rfl | exact hst.sl 1 rfl | exact hst.sl 2 rfl | exact hst.sl 3 rfl | exact hst.sl 4 rfl | exact hst.sl 5 rfl | assumption | exact hst.old (by decide) (by assumption)) (by first | exact oneCell_bytes | (simp [Value.oneCell']; done)) (by omega) ?_; clear hst; intro A32 c32 W32 hst; simp only [List.set_cons_zero, List.set_cons_succ, List.nil_append, Nat.zero_add] at hst)
        | (refine L_appendO (d := some 32) rfl rfl hst rfl (by rfl) (by rfl) Tryd.underlying33 el_uint8 rfl (by decide) (by decide) 2 rfl (by first | rfl | omega) (by first | exact HS.out _ (hst.tailN 1) | exact HS.out _ (hst.tailN 2) | exact hst.sl 0 rfl | exact hst.sl 1 rfl | exact hst.sl 2 rfl | exact hst.sl 3 rfl | exact hst.sl 4 rfl | exact hst.sl 5 rfl | assumption | exact hst.old (by decide) (by assumption)) (by first | exact oneCell_bytes | (simp [Value.oneCell']; done)) (by omega) ?_; clear hst; intro A32 c32 W32 hst; simp only [List.set_cons_zero, List.set_cons_succ, List.nil_append, Nat.zero_add] at hst)
        | (refine L_appendO (d := some 32) rfl rfl hst rfl (by rfl) (by rfl) Tryd.underlying33 el_uint8 rfl (by decide) (by decide) 3 rfl (by first | rfl | omega) (by first | exact HS.out _ (hst.tailN 1) | exact HS.out _ (hst.tailN 2) | exact hst.sl 0 rfl | exact hst.sl 1 rfl | exact hst.sl 2 rfl | exact hst.sl 3 rfl | exact hst.sl 4 rfl | exact hst.sl 5 rfl | assumption | exact hst.old (by decide) (by assumption)) (by first | exact oneCell_bytes | (simp [Value.oneCell']; done)) (by omega) ?_; clear hst; intro A32 c32 W32 hst; simp only [List.set_cons_zero, List.set_cons_succ, List.nil_append, Nat.zero_add] at hst)
        | (refine L_appendO (d := some 32) rfl rfl hst rfl (by rfl) (by rfl) Tryd.underlying33 el_uint8 rfl (by decide) (by decide) 4 rfl (by first | rfl | omega) (by first | exact HS.out _ (hst.tailN 1) | exact HS.out _ (hst.tailN 2) | exact hst.sl 0 rfl | exact hst.sl 1 rfl | exact hst.sl 2 rfl | exact hst.sl 3 rfl | exact hst.sl 4 rfl | exact hst.sl 5 rfl | assumption | exact hst.old (by decide) (by assumption)) (by first | exact oneCell_bytes | (simp [Value.oneCell']; done)) (by omega) ?_; clear hst; intro A32 c32 W32 hst; simp only [List.set_cons_zero, List.set_cons_succ, List.nil_append, Nat.zero_add] at hst)
        | (refine L_appendO (d := some 32) rfl rfl hst rfl (by rfl) (by rfl) Tryd.underlying33 el_uint8 rfl (by decide) (by decide) 5 rfl (by first | rfl | omega) (by first | exact HS.out _ (hst.tailN 1) | exact HS.out _ (hst.tailN 2) | exact hst.sl 0 rfl | exact hst.sl 1 rfl | exact hst.sl 2 rfl | exact hst.sl 3 rfl | exact hst.sl 4 rfl | exact hst.sl 5 rfl | assumption | exact hst.old (by decide) (by assumption)) (by first | exact oneCell_bytes | (simp [Value.oneCell']; done)) (by omega) ?_; clear hst; intro A32 c32 W32 hst; simp only [List.set_cons_zero, List.set_cons_succ, List.nil_append, Nat.zero_add] at hst)
        | (refine L_appendF (d := some 32) rfl rfl rfl (by rfl) (by rfl) Tryd.underlying33 el_uint8 rfl (by decide) (by assumption) (by first | assumption | exact HS.out _ (hst.tailN 1) | exact HS.out _ (hst.tailN 2) | exact hst.sl 0 rfl | exact hst.sl 1 rfl | exact hst.sl 2 rfl | exact hst.sl 3 rfl | exact hst.sl 4 rfl | exact hst.sl 5 rfl | assumption | exact hst.old (by decide) (by assumption)) (by omega) (by omega) (by omega) ?_; (try clear hnew); intro A32 c32 W32 hnew; replace hst := hst.trans hnew; simp only [List.cons_append, List.nil_append] at hst)
        | (refine L_allocA (d := some 12) rfl rfl rfl el_api_Digest ?_; (try clear hnew); intro g12 W12 hnew; replace hst := hst.trans hnew; simp only [List.cons_append, List.nil_append] at hst)
        | (refine wpl_at (.store 23 (.tmp 12) (.tmp 35)) rfl ?_; first | (refine L_storeA rfl rfl hst rfl (by rfl) (ev_tmp rfl) (by first | rfl | exact Dig.one _ | (simp; done)) el_api_Digest (by first | rfl | exact Dig.size _ | (simp; done)) 0 rfl (by first | rfl | exact Dig.size _ | (simp; done)) ?_; clear hst; intro WS4 hst; simp only [List.set_cons_zero, List.set_cons_succ] at hst) | (refine L_storeA rfl rfl hst rfl (by rfl) (ev_tmp rfl) (by first | rfl | exact Dig.one _ | (simp; done)) el_api_Digest (by first | rfl | exact Dig.size _ | (simp; done)) 1 rfl (by first | rfl | exact Dig.size _ | (simp; done)) ?_; clear hst; intro WS4 hst; simp only [List.set_cons_zero, List.set_cons_succ] at hst) | (refine L_storeA rfl rfl hst rfl (by rfl) (ev_tmp rfl) (by first | rfl | exact Dig.one _ | (simp; done)) el_api_Digest (by first | rfl | exact Dig.size _ | (simp; done)) 2 rfl (by first | rfl | exact Dig.size _ | (simp; done)) ?_; clear hst; intro WS4 hst; simp only [List.set_cons_zero, List.set_cons_succ] at hst) | (refine L_storeA rfl rfl hst rfl (by rfl) (ev_tmp rfl) (by first | rfl | exact Dig.one _ | (simp; done)) el_api_Digest (by first | rfl | exact Dig.size _ | (simp; done)) 3 rfl (by first | rfl | exact Dig.size _ | (simp; done)) ?_; clear hst; intro WS4 hst; simp only [List.set_cons_zero, List.set_cons_succ] at hst) | (refine L_storeA rfl rfl hst rfl (by rfl) (ev_tmp rfl) (by first | rfl | exact Dig.one _ | (simp; done)) el_api_Digest (by first | rfl | exact Dig.size _ | (simp; done)) 4 rfl (by first | rfl | exact Dig.size _ | (simp; done)) ?_; clear hst; intro WS4 hst; simp only [List.set_cons_zero, List.set_cons_succ] at hst) | (refine L_storeA rfl rfl hst rfl (by rfl) (ev_tmp rfl) (by first | rfl | exact Dig.one _ | (simp; done)) el_api_Digest (by first | rfl | exact Dig.size _ | (simp; done)) 5 rfl (by first | rfl | exact Dig.size _ | (simp; done)) ?_; clear hst; intro WS4 hst; simp only [List.set_cons_zero, List.set_cons_succ] at hst) | (refine L_storeM rfl rfl hst rfl (by rfl) (ev_tmp rfl) (by first | rfl | exact Dig.one _ | (simp; done)) el_api_Digest (by first | rfl | exact Dig.size _ | (simp; done)) 0 rfl (by first | exact of_decide_eq_true rfl | (simp; done)) ?_; clear hst; intro WS4 hst; simp only [List.set_cons_zero, List.set_cons_succ] at hst)  | (refine L_storeM rfl rfl hst rfl (by rfl) (ev_tmp rfl) (by first | rfl | exact Dig.one _ | (simp; done)) el_api_Digest (by first | rfl | exact Dig.size _ | (simp; done)) 1 rfl (by first | exact of_decide_eq_true rfl | (simp; done)) ?_; clear hst; intro WS4 hst; simp only [List.set_cons_zero, List.set_cons_succ] at hst)  | (refine L_storeM rfl rfl hst rfl (by rfl) (ev_tmp rfl) (by first | rfl | exact Dig.one _ | (simp; done)) el_api_Digest (by first | rfl | exact Dig.size _ | (simp; done)) 2 rfl (by first | exact of_decide_eq_true rfl | (simp; done)) ?_; clear hst; intro WS4 hst; simp only [List.set_cons_zero, List.set_cons_succ] at hst)  | (refine L_storeM rfl rfl hst rfl (by rfl) (ev_tmp rfl) (by first | rfl | exact Dig.one _ | (simp; done)) el_api_Digest (by first | rfl | exact Dig.size _ | (simp; done)) 3 rfl (by first | exact of_decide_eq_true rfl | (simp; done)) ?_; clear hst; intro WS4 hst; simp only [List.set_cons_zero, List.set_cons_succ] at hst)  | (refine L_storeM rfl rfl hst rfl (by rfl) (ev_tmp rfl) (by first | rfl | exact Dig.one _ | (simp; done)) el_api_Digest (by first | rfl | exact Dig.size _ | (simp; done)) 4 rfl (by first | exact of_decide_eq_true rfl | (simp; done)) ?_; clear hst; intro WS4 hst; simp only [List.set_cons_zero, List.set_cons_succ] at hst)  | (refine L_storeM rfl rfl hst rfl (by rfl) (ev_tmp rfl) (by first | rfl | exact Dig.one _ | (simp; done)) el_api_Digest (by first | rfl | exact Dig.size _ | (simp; done)) 5 rfl (by first | exact of_decide_eq_true rfl | (simp; done)) ?_; clear hst; intro WS4 hst; simp only [List.set_cons_zero, List.set_cons_succ] at hst))
        | (refine L_sliceAll (d := some 36) rfl rfl rfl (by rfl) Tryd.underlying23 el_uint8 (by first | exact hst.get 0 rfl | exact hst.get 1 rfl | exact hst.get 2 rfl | exact hst.get 3 rfl | exact hst.get 4 rfl | exact hst.get 5 rfl) (by first | rfl | exact Dig.size _ | (simp; done)) (by decide) ?_; intro hs36)
        | (refine L_appendO (d := some 39) rfl rfl hst rfl (by rfl) (by rfl) Tryd.underlying33 el_uint8 rfl (by decide) (by decide) 0 rfl (by first | rfl | omega) (by first | exact HS.out _ (hst.tailN 1) | exact HS.out _ (hst.tailN 2) | exact hst.sl 0 rfl | exact hst.sl 1 rfl | exact hst.sl 2 rfl | exact hst.sl 3 rfl | exact hst.sl 4 rfl | exact hst.sl 5 rfl | assumption | exact hst.old (by decide) (by assumption)) (by first | exact oneCell_bytes | (simp [Value.oneCell']; done)) (by omega) ?_; clear hst; intro A39 c39 W39 hst; simp only [List.set_cons_zero, List.set_cons_succ, List.nil_append, Nat.zero_add] at hst)
        | (refine L_appendO (d := some 39) rfl rfl hst rfl (by rfl) (by rfl) Tryd.underlying33 el_uint8 rfl (by decide) (by decide) 1 rfl (by first | rfl | omega) (by first | exact HS.out _ (hst.tailN 1) | exact HS.out _ (hst.tailN 2) | exact hst.sl 0 rfl | exact hst.sl 1 rfl | exact hst.sl 2 rfl | exact hst.sl 3 rfl | exact hst.sl 4 rfl | exact hst.sl 5 rfl | assumption | exact hst.old (by decide) (by assumption)) (by first | exact oneCell_bytes | (simp [Value.oneCell']; done)) (by omega) ?_; clear hst; intro A39 c39 W39 hst; simp only [List.set_cons_zero, List.set_cons_succ, List.nil_append, Nat.zero_add] at hst)
        | (refine L_appendO (d := some 39) rfl rfl hst rfl (by rfl) (by rfl) Tryd.underlying33 el_uint8 rfl (by decide) (by decide) 2 rfl (by first | rfl | omega) (by first | exact HS.out _ (hst.tailN 1) | exact HS.out _ (hst.tailN 2) | exact hst.sl 0 rfl | exact hst.sl 1 rfl | exact hst.sl 2 rfl | exact hst.sl 3 rfl | exact hst.sl 4 rfl | exact hst.sl 5 rfl | assumption | exact hst.old (by decide) (by assumption)) (by first | exact oneCell_bytes | (simp [Value.oneCell']; done)) (by omega) ?_; clear hst; intro A39 c39 W39 hst; simp only [List.set_cons_zero, List.set_cons_succ, List.nil_append, Nat.zero_add] at hst)
        | (refine L_appendO (d := some 39) rfl rfl hst rfl (by rfl) (by rfl) Tryd.underlying33 el_uint8 rfl (by decide) (by decide) 3 rfl (by first | rfl | omega) (by first | exact HS.out _ (hst.tailN 1) | exact HS.out _ (hst.tailN 2) | exact hst.sl 0 rfl | exact hst.sl 1 rfl | exact hst.sl 2 rfl | exact hst.sl 3 rfl | exact hst.sl 4 rfl | exact hst.sl 5 rfl | assumption | exact hst.old (by decide) (by assumption)) (by first | exact oneCell_bytes | (simp [Value.oneCell']; done)) (by omega) ?_; clear hst; intro A39 c39 W39 hst; simp only [List.set_cons_zero, List.set_cons_succ, List.nil_append, Nat.zero_add] at hst)
        | (refine L_appendO (d := some 39) rfl rfl hst rfl (by rfl) (by rfl) Tryd.underlying33 el_uint8 rfl (by decide) (by decide) 4 rfl (by first | rfl | omega) (by first | exact HS.out _ (hst.tailN 1) | exact HS.out _ (hst.tailN 2) | exact hst.sl 0 rfl | exact hst.sl 1 rfl | exact hst.sl 2 rfl | exact hst.sl 3 rfl | exact hst.sl 4 rfl | exact hst.sl 5 rfl | assumption | exact hst.old (by decide) (by assumption)) (by first | exact oneCell_bytes | (simp [Value.oneCell']; done)) (by omega) ?_; clear hst; intro A39 c39 W39 hst; simp only [List.set_cons_zero, List.set_cons_succ, List.nil_append, Nat.zero_add] at hst)
        | (refine L_appendO (d := some 39) rfl rfl hst rfl (by rfl) (by rfl) Tryd.underlying33 el_uint8 rfl (by decide) (by decide) 5 rfl (by first | rfl | omega) (by first | exact HS.out _ (hst.tailN 1) | exact HS.out _ (hst.tailN 2) | exact hst.sl 0 rfl | exact hst.sl 1 rfl | exact hst.sl 2 rfl | exact hst.sl 3 rfl | exact hst.sl 4 rfl | exact hst.sl 5 rfl | assumption | exact hst.old (by decide) (by assumption)) (by first | exact oneCell_bytes | (simp [Value.oneCell']; done)) (by omega) ?_; clear hst; intro A39 c39 W39 hst; simp only [List.set_cons_zero, List.set_cons_succ, List.nil_append, Nat.zero_add] at hst)
        | (refine L_appendF (d := some 39) rfl rfl rfl (by rfl) (by rfl) Tryd.underlying33 el_uint8 rfl (by decide) (by assumption) (by first | assumption | exact HS.out _ (hst.tailN 1) | exact HS.out _ (hst.tailN 2) | exact hst.sl 0 rfl | exact hst.sl 1 rfl | exact hst.sl 2 rfl | exact hst.sl 3 rfl | exact hst.sl 4 rfl | exact hst.sl 5 rfl | assumption | exact hst.old (by decide) (by assumption)) (by omega) (by omega) (by omega) ?_; (try clear hnew); intro A39 c39 W39 hnew; replace hst := hst.trans hnew; simp only [List.cons_append, List.nil_append] at hst)
        | fail)
      go_roundg (gk - 1)
      case measure => omega
      case rel =>
        have hi := HI.out
        refine ⟨k + 1, A39, some ⟨g12, 0, none⟩, c39, 32, [.blk g12 23 (nextN key info (lastN key info k) k).arr], Lib.hid (by omega), Lib.hid (by rw [← Hlast.out, Dig.h]), Nat.le_refl _, by congr 1; omega, rfl, by go_num, Lib.hid ?_, ?_⟩
        · rw [← Hlast.out, ← Dig.toList]
          exact Src.blk (i := 0) rfl (Dig.size _) (by decide)
        · rw [show (k + 1) * 32 = k * 32 + 32 by omega, ← Hout.out, ← Hlast.out, bytesL_append, ← Dig.toList (nextN key info (lastN key info k) k)]
          exact (hst.pick [3, 0] (by decide))
    · clear hi
      have hk31 : (z + 31) / 32 ≤ k := by omega
      have Hfin := Lib.hid (show ((bytesL (outN key info k)).drop (0 * 1)).take ((z - 0) * 1) = bytesL (expN key info z) by
        rw [bytesL_cut, List.drop_zero, Nat.sub_zero]
        obtain ⟨t, ht⟩ := outN_pre key info hk31
        rw [expN, ← ht, List.take_append_of_le_length (by rw [length_outN]; omega)])
      have hzk : z ≤ k * 32 := by omega
      have hoc := (hst.sl 0 rfl).2.1
      clear hk31
      go_wp2_with (first
        | (first | (refine L_cutO (d := some 43) rfl rfl hst rfl (by rfl) Tryd.underlying33 el_uint8 0 rfl (by first | rfl | omega) 0 _ _ (Or.inl ⟨rfl, rfl⟩) (Or.inr ⟨_, _, rfl, by first | exact ev_tmp rfl | (rw [ev_tmp rfl]; congr 1; omega)⟩) (Or.inr ⟨_, _, rfl, by first | exact ev_tmp rfl | (rw [ev_tmp rfl]; congr 1; omega)⟩) (by omega) (by omega) (by omega) (by omega) ?_; clear hst; intro A43 c43 hst; simp only [List.set_cons_zero, List.set_cons_succ] at hst) | (refine L_cutO (d := some 43) rfl rfl hst rfl (by rfl) Tryd.underlying33 el_uint8 1 rfl (by first | rfl | omega) 0 _ _ (Or.inl ⟨rfl, rfl⟩) (Or.inr ⟨_, _, rfl, by first | exact ev_tmp rfl | (rw [ev_tmp rfl]; congr 1; omega)⟩) (Or.inr ⟨_, _, rfl, by first | exact ev_tmp rfl | (rw [ev_tmp rfl]; congr 1; omega)⟩) (by omega) (by omega) (by omega) (by omega) ?_; clear hst; intro A43 c43 hst; simp only [List.set_cons_zero, List.set_cons_succ] at hst) | (refine L_cutO (d := some 43) rfl rfl hst rfl (by rfl) Tryd.underlying33 el_uint8 2 rfl (by first | rfl | omega) 0 _ _ (Or.inl ⟨rfl, rfl⟩) (Or.inr ⟨_, _, rfl, by first | exact ev_tmp rfl | (rw [ev_tmp rfl]; congr 1; omega)⟩) (Or.inr ⟨_, _, rfl, by first | exact ev_tmp rfl | (rw [ev_tmp rfl]; congr 1; omega)⟩) (by omega) (by omega) (by omega) (by omega) ?_; clear hst; intro A43 c43 hst; simp only [List.set_cons_zero, List.set_cons_succ] at hst) | (refine L_cutO (d := some 43) rfl rfl hst rfl (by rfl) Tryd.underlying33 el_uint8 3 rfl (by first | rfl | omega) 0 _ _ (Or.inl ⟨rfl, rfl⟩) (Or.inr ⟨_, _, rfl, by first | exact ev_tmp rfl | (rw [ev_tmp rfl]; congr 1; omega)⟩) (Or.inr ⟨_, _, rfl, by first | exact ev_tmp rfl | (rw [ev_tmp rfl]; congr 1; omega)⟩) (by omega) (by omega) (by omega) (by omega) ?_; clear hst; intro A43 c43 hst; simp only [List.set_cons_zero, List.set_cons_succ] at hst) | (refine L_cutO (d := some 43) rfl rfl hst rfl (by rfl) Tryd.underlying33 el_uint8 4 rfl (by first | rfl | omega) 0 _ _ (Or.inl ⟨rfl, rfl⟩) (Or.inr ⟨_, _, rfl, by first | exact ev_tmp rfl | (rw [ev_tmp rfl]; congr 1; omega)⟩) (Or.inr ⟨_, _, rfl, by first | exact ev_tmp rfl | (rw [ev_tmp rfl]; congr 1; omega)⟩) (by omega) (by omega) (by omega) (by omega) ?_; clear hst; intro A43 c43 hst; simp only [List.set_cons_zero, List.set_cons_succ] at hst) | (refine L_cutO (d := some 43) rfl rfl hst rfl (by rfl) Tryd.underlying33 el_uint8 5 rfl (by first | rfl | omega) 0 _ _ (Or.inl ⟨rfl, rfl⟩) (Or.inr ⟨_, _, rfl, by first | exact ev_tmp rfl | (rw [ev_tmp rfl]; congr 1; omega)⟩) (Or.inr ⟨_, _, rfl, by first | exact ev_tmp rfl | (rw [ev_tmp rfl]; congr 1; omega)⟩) (by omega) (by omega) (by omega) (by omega) ?_; clear hst; intro A43 c43 hst; simp only [List.set_cons_zero, List.set_cons_succ] at hst) | (refine L_cutS (d := some 43) rfl rfl rfl (by rfl) Tryd.underlying33 el_uint8 (by decide) (by first | assumption | exact hst.old (by decide) (by assumption) | exact hst.sl 0 rfl | exact hst.sl 1 rfl | exact hst.sl 2 rfl | exact hst.sl 3 rfl | exact hst.sl 4 rfl | exact hst.sl 5 rfl) 0 _ _ (Or.inl ⟨rfl, rfl⟩) (Or.inr ⟨_, _, rfl, by first | exact ev_tmp rfl | (rw [ev_tmp rfl]; congr 1; omega)⟩) (Or.inr ⟨_, _, rfl, by first | exact ev_tmp rfl | (rw [ev_tmp rfl]; congr 1; omega)⟩) (by omega) (by omega) (by omega) (by omega) ?_; intro A43 c43 hs43))
        | fail)
      rw [Hfin.out] at hst
      exact bp_tmp2 rfl rfl rfl rfl ⟨_, _, rfl, hst.pick [0] (by decide)⟩
set_option maxHeartbeats 1000000 in
theorem expand_no (K A : Option Addr) (m mc n c : Nat) (z : Int) (w : World) (hz : z < 0 ∨ 2000 < z) :
    Calls Tryd.prog 16 #[.slice K m mc, .slice A n c, .int .i64 z] w fun e w' => e = .returned (.tuple #[.slice none 0 0, errV 2]) ∧ St w w' [] := by
  have hst := St.refl w
  rcases Int.lt_or_le z 0 with h0 | h0
  · go_enter Tryd.func16, Tryd.ntmps16
    go_wp2_with (first
      | fail)
    exact bp_tmp2 rfl rfl rfl rfl ⟨rfl, hst⟩
  · have h1 : 2000 < z := by omega
    have h0' : ¬ z < 0 := by omega
    go_enter Tryd.func16, Tryd.ntmps16
    go_wp2_with (first
      | fail)
    exact bp_tmp2 rfl rfl rfl rfl ⟨rfl, hst⟩
end Go.Proofs.YtplpmfmnlgepoaaDoor
