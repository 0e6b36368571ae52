/-
  Proved here: the contracts of a chain key's parts. Condition: the table of round constants stands.
-/
import Derived.Test.YtfpppmamkmaneaaDoorChain
import Derived.Test.YtfpppmamkmaneaaDoorLawC
import Derived.Test.YtfpppmamkmaneaaDoorDrawT
import Derived.Test.YtfpppmamkmaneaaDoorLawD
import Derived.Test.YtfpppmamkmaneaaDoorDigsL
set_option maxRecDepth 20000
namespace Go.Proofs.YtfpppmamkmaneaaDoor
open Go.RowKit

def wSecretN (seed : Dig) (i : Nat) : Dig := keyN seed [5, UInt8.ofNat i]

set_option maxHeartbeats 1000000 in
theorem wSecret_any (seed : Dig) (g i : Nat) (hi : i < 256) (w : World) (hT : Tb w) (hg : w.heap[g]? = some (.cells seed.arr 25 (0, 0))) :
    Calls Tryd.prog 93 #[.int .i64 (i : Int), .pointer (some ⟨g, 0, none⟩)] w fun e w' => e = .returned (wSecretN seed i).v ∧ St w w' [] := by
  have HT := Lib.hid hT
  have hst := St.refl w
  have HB := Lib.hid (show [Value.int .u8 5, .int .u8 (i : Int)] = bytesL [5, UInt8.ofNat i] by rw [byteV_of i hi]; rfl)
  clear hT
  go_enter Tryd.func93, Tryd.ntmps93
  go_wp2_with (first
    | (refine L_loadA (d := some 4) rfl rfl rfl (by rfl) Tryd.underlying25 rfl el_api_Digest ((hst.below.block g (Array.getElem?_eq_some_iff.1 hg).1).trans hg) (Dig.size _) ?_)
    | (go_at_call 94; (try clear hnew); refine (key_any seed [5, UInt8.ofNat i] _ _ _ _ (HT.out.of hst) (by rw [← HB.out]; exact hst.sl 0 rfl) (by decide)).mono ?_; rintro e W8 ⟨rfl, hnew⟩; replace hst := hst.keep hnew)
    | (refine L_allocA (d := some 3) rfl rfl rfl el_api_Digest ?_; (try clear hnew); intro g3 W3 hnew; replace hst := hst.trans hnew; simp only [List.cons_append, List.nil_append] at hst)
    | (first | (refine L_loadA (d := some 4) rfl rfl rfl (by rfl) Tryd.underlying25 rfl el_api_Digest (by first | exact hst.get 0 rfl | exact hst.get 1 rfl | exact hst.get 2 rfl) (by first | rfl | exact Dig.size _ | (simp; done)) ?_) | (refine L_loadM (d := some 4) rfl rfl rfl (by rfl) Tryd.underlying25 rfl el_api_Digest (by first | assumption) (by first | rfl | exact Dig.size _ | (simp; done)) ?_))
    | (refine L_buildS (d := some 7) rfl rfl rfl [_, _] (bs_2 ev_const (ev_tmp rfl)) rfl Tryd.underlying44 el_uint8 rfl (by first | (simp [Value.cells]; done) | (simp [Value.cells, Dig.size]; done)) (by decide) (by decide) ?_; (try clear hnew); intro g7 W7 hnew; replace hst := hst.trans hnew; simp only [List.cons_append, List.nil_append] at hst; simp only [List.flatMap_cons, List.flatMap_nil, List.append_nil, Value.cells, List.toList_toArray] at hst)
    | (refine wpl_at (.store 25 (.tmp 3) (.tmp 8)) rfl ?_; first | (refine L_storeA rfl rfl hst rfl (by rfl) (ev_tmp rfl) (by first | rfl | exact Dig.one _ | (simp; done)) el_api_Digest (by first | rfl | exact Dig.size _ | (simp; done)) 0 rfl (by first | rfl | exact Dig.size _ | (simp; done)) ?_; clear hst; intro WS5 hst; simp only [List.set_cons_zero, List.set_cons_succ] at hst) | (refine L_storeA rfl rfl hst rfl (by rfl) (ev_tmp rfl) (by first | rfl | exact Dig.one _ | (simp; done)) el_api_Digest (by first | rfl | exact Dig.size _ | (simp; done)) 1 rfl (by first | rfl | exact Dig.size _ | (simp; done)) ?_; clear hst; intro WS5 hst; simp only [List.set_cons_zero, List.set_cons_succ] at hst) | (refine L_storeA rfl rfl hst rfl (by rfl) (ev_tmp rfl) (by first | rfl | exact Dig.one _ | (simp; done)) el_api_Digest (by first | rfl | exact Dig.size _ | (simp; done)) 2 rfl (by first | rfl | exact Dig.size _ | (simp; done)) ?_; clear hst; intro WS5 hst; simp only [List.set_cons_zero, List.set_cons_succ] at hst) | (refine L_storeM rfl rfl hst rfl (by rfl) (ev_tmp rfl) (by first | rfl | exact Dig.one _ | (simp; done)) el_api_Digest (by first | rfl | exact Dig.size _ | (simp; done)) 0 rfl (by first | exact of_decide_eq_true rfl | (simp; done)) ?_; clear hst; intro WS5 hst; simp only [List.set_cons_zero, List.set_cons_succ] at hst)  | (refine L_storeM rfl rfl hst rfl (by rfl) (ev_tmp rfl) (by first | rfl | exact Dig.one _ | (simp; done)) el_api_Digest (by first | rfl | exact Dig.size _ | (simp; done)) 1 rfl (by first | exact of_decide_eq_true rfl | (simp; done)) ?_; clear hst; intro WS5 hst; simp only [List.set_cons_zero, List.set_cons_succ] at hst)  | (refine L_storeM rfl rfl hst rfl (by rfl) (ev_tmp rfl) (by first | rfl | exact Dig.one _ | (simp; done)) el_api_Digest (by first | rfl | exact Dig.size _ | (simp; done)) 2 rfl (by first | exact of_decide_eq_true rfl | (simp; done)) ?_; clear hst; intro WS5 hst; simp only [List.set_cons_zero, List.set_cons_succ] at hst))
    | fail)
  refine bp_cell rfl rfl rfl (hst.get 1 rfl) Tryd.underlying25 rfl el_api_Digest (by first | rfl | exact Dig.size _ | (simp; done)) ?_
  exact ⟨rfl, hst.forget⟩

theorem Dig.oneL (d : Dig) : ∀ u ∈ d.arr.toList, u.oneCell' = true := by
  rw [Dig.toList]
  exact oneCell_bytes
/-- a function value's contract: called with i in whatever later world, it returns what r says, and owns nothing new -/
def Gives (f : FuncId) (cap : Array Value) (n : Nat) (r : Nat → Value) (w : World) : Prop :=
  ∀ i, i < n → ∀ W L, St w W L → Calls Tryd.prog f (#[.int .i64 (i : Int)] ++ cap) W fun e w' => e = .returned (r i) ∧ St W w' []

set_option maxHeartbeats 1000000 in
theorem secrets_any (seed : Dig) (w : World) : Calls Tryd.prog 72 #[seed.v] w fun e w' => ∃ g, e = .returned (.func (.func 93) #[] #[.pointer (some ⟨g, 0, none⟩)]) ∧ St w w' [.blk g 25 seed.arr] := by
  have hst := St.refl w
  have hmf : ∀ (fn : Fn) (first cap : Array Value) (w : World), (Instr.makeFunc fn first cap).run Tryd.prog w = .ok (.func fn first cap) w := fun _ _ _ _ => rfl
  go_enter Tryd.func72, Tryd.ntmps72
  go_wp2_with (first
    | (refine L_boxA (d := some 1) rfl rfl rfl (ev_tmp rfl) ?_; (try clear hnew); intro g1 W1 hnew; replace hst := hst.trans hnew; simp only [List.cons_append, List.nil_append] at hst)
    | fail)
  go_ret
  exact ⟨_, rfl, hst⟩

set_option maxHeartbeats 2000000 in
theorem ends_any (f g : FuncId) (c1 c2 : Array Value) (ds : Nat → Dig) (ks : Nat → Nat) (w : World) (hT : Tb w) (hf : Gives f c1 67 (fun i => (ds i).v) w) (hg : Gives g c2 67 (fun i => .int .i64 (ks i : Int)) w) (hk : ∀ i, i < 67 → ks i ≤ 1000)
    (hcf : ∀ args w, (callFunc f args).run Tryd.prog w = .ok (.enter f args) w) (hcg : ∀ args w, (callFunc g args).run Tryd.prog w = .ok (.enter g args) w) :
    Calls Tryd.prog 71 #[.func (.func f) #[] c1, .func (.func g) #[] c2] w fun e w' => ∃ A c, e = .returned (.slice A 67 c) ∧ St w w' [.row A 67 c 25 32 (digsL ((List.range 67).map fun i => walkN (ds i) (ks i)))] := by
  have hst := St.refl w
  have HT := Lib.hid hT
  clear hT
  go_enter Tryd.func71, Tryd.ntmps71
  go_wp2_with (first
    | fail)
  have hst : St w w [.row none 0 0 25 32 (digsL ((List.range 0).map fun i => walkN (ds i) (ks i)))] := hst.nilRow 25 32
  go_loopg [5, 9] 67 (fun gk s5 s9 wr => ∃ (i : Nat) (O : Option Addr) (oc : Nat), Hid (i + gk = 67) ∧ s5 = .slice O i oc ∧ s9 = .int .i64 (i : Int) ∧ St w wr [.row O i oc 25 32 (digsL ((List.range i).map fun i => walkN (ds i) (ks i)))])
  case atStart => exact ⟨0, _, _, Lib.hid rfl, rfl, rfl, hst⟩
  case round =>
    clear hst
    obtain ⟨i, O, oc, HI, rfl, rfl, hst⟩ := hrel
    have hi := HI.out
    by_cases hin : i < 67
    · clear hi
      have hki := hk i hin
      go_wp2_with (first
        | (refine (hf i hin _ _ hst).mono ?_; rintro e W15 ⟨rfl, hnew⟩; replace hst := hst.keep hnew; clear hnew)
        | (refine (hg i hin _ _ hst).mono ?_; rintro e W18 ⟨rfl, hnew⟩; replace hst := hst.keep hnew; clear hnew)
        | (go_at_call 92; (try clear hnew); with_reducible refine (cwalk_any _ _ _ (HT.out.of hst) hki).mono ?_; rintro e W19 ⟨rfl, hnew⟩; replace hst := hst.keep hnew)
        | (refine L_allocA (d := some 7) rfl rfl rfl el_api_Digest ?_; (try clear hnew); intro g7 W7 hnew; replace hst := hst.trans hnew; simp only [List.cons_append, List.nil_append] at hst)
        | (refine wpl_at (.store 25 (.tmp 7) (.tmp 20)) rfl ?_; first | (refine L_storeA rfl rfl hst rfl (by rfl) (ev_tmp rfl) (by first | rfl | exact Dig.one _ | exact Dig.oneL _ | (simp; done)) el_api_Digest (by first | rfl | exact Dig.size _ | (simp; done)) 0 rfl (by first | rfl | exact Dig.size _ | (simp; done)) ?_; clear hst; intro WS11 hst; simp only [List.set_cons_zero, List.set_cons_succ] at hst) | (refine L_storeA rfl rfl hst rfl (by rfl) (ev_tmp rfl) (by first | rfl | exact Dig.one _ | exact Dig.oneL _ | (simp; done)) el_api_Digest (by first | rfl | exact Dig.size _ | (simp; done)) 1 rfl (by first | rfl | exact Dig.size _ | (simp; done)) ?_; clear hst; intro WS11 hst; simp only [List.set_cons_zero, List.set_cons_succ] at hst) | (refine L_storeA rfl rfl hst rfl (by rfl) (ev_tmp rfl) (by first | rfl | exact Dig.one _ | exact Dig.oneL _ | (simp; done)) el_api_Digest (by first | rfl | exact Dig.size _ | (simp; done)) 2 rfl (by first | rfl | exact Dig.size _ | (simp; done)) ?_; clear hst; intro WS11 hst; simp only [List.set_cons_zero, List.set_cons_succ] at hst) | (refine L_storeM rfl rfl hst rfl (by rfl) (ev_tmp rfl) (by first | rfl | exact Dig.one _ | exact Dig.oneL _ | (simp; done)) el_api_Digest (by first | rfl | exact Dig.size _ | (simp; done)) 0 rfl (by first | exact of_decide_eq_true rfl | (simp; done)) ?_; clear hst; intro WS11 hst; simp only [List.set_cons_zero, List.set_cons_succ] at hst)  | (refine L_storeM rfl rfl hst rfl (by rfl) (ev_tmp rfl) (by first | rfl | exact Dig.one _ | exact Dig.oneL _ | (simp; done)) el_api_Digest (by first | rfl | exact Dig.size _ | (simp; done)) 1 rfl (by first | exact of_decide_eq_true rfl | (simp; done)) ?_; clear hst; intro WS11 hst; simp only [List.set_cons_zero, List.set_cons_succ] at hst)  | (refine L_storeM rfl rfl hst rfl (by rfl) (ev_tmp rfl) (by first | rfl | exact Dig.one _ | exact Dig.oneL _ | (simp; done)) el_api_Digest (by first | rfl | exact Dig.size _ | (simp; done)) 2 rfl (by first | exact of_decide_eq_true rfl | (simp; done)) ?_; clear hst; intro WS11 hst; simp only [List.set_cons_zero, List.set_cons_succ] at hst))
        | (first | (refine L_loadA (d := some 23) rfl rfl rfl (by rfl) Tryd.underlying25 rfl el_api_Digest (by first | exact hst.get 0 rfl | exact hst.get 1 rfl | exact hst.get 2 rfl) (by first | rfl | exact Dig.size _ | (simp; done)) ?_) | (refine L_loadM (d := some 23) rfl rfl rfl (by rfl) Tryd.underlying25 rfl el_api_Digest (by first | assumption) (by first | rfl | exact Dig.size _ | (simp; done)) ?_))
        | (refine L_buildS (d := some 24) rfl rfl rfl [_] (bs_1 (ev_tmp rfl)) rfl Tryd.underlying22 el_api_Digest rfl (by first | (simp [Value.cells]; done) | (simp [Value.cells, Dig.size]; done)) (by decide) (by decide) ?_; (try clear hnew); intro g24 W24 hnew; replace hst := hst.trans hnew; simp only [List.cons_append, List.nil_append] at hst; simp only [List.flatMap_cons, List.flatMap_nil, List.append_nil, Value.cells, List.toList_toArray] at hst)
        | (refine L_appendO (d := some 25) rfl rfl hst rfl (by rfl) (by rfl) Tryd.underlying22 el_api_Digest rfl (by decide) (by decide) 0 rfl (by first | rfl | omega) (by first | exact hst.sl 0 rfl | exact hst.sl 1 rfl | exact hst.sl 2 rfl | assumption | exact hst.old (by decide) (by assumption)) (by first | exact oneCell_bytes | (simp [Value.oneCell']; done) | exact Dig.oneL _) (by omega) ?_; clear hst; intro A25 c25 W25 hst; simp only [List.set_cons_zero, List.set_cons_succ, List.nil_append, Nat.zero_add] at hst)
        | (refine L_appendO (d := some 25) rfl rfl hst rfl (by rfl) (by rfl) Tryd.underlying22 el_api_Digest rfl (by decide) (by decide) 1 rfl (by first | rfl | omega) (by first | exact hst.sl 0 rfl | exact hst.sl 1 rfl | exact hst.sl 2 rfl | assumption | exact hst.old (by decide) (by assumption)) (by first | exact oneCell_bytes | (simp [Value.oneCell']; done) | exact Dig.oneL _) (by omega) ?_; clear hst; intro A25 c25 W25 hst; simp only [List.set_cons_zero, List.set_cons_succ, List.nil_append, Nat.zero_add] at hst)
        | (refine L_appendO (d := some 25) rfl rfl hst rfl (by rfl) (by rfl) Tryd.underlying22 el_api_Digest rfl (by decide) (by decide) 2 rfl (by first | rfl | omega) (by first | exact hst.sl 0 rfl | exact hst.sl 1 rfl | exact hst.sl 2 rfl | assumption | exact hst.old (by decide) (by assumption)) (by first | exact oneCell_bytes | (simp [Value.oneCell']; done) | exact Dig.oneL _) (by omega) ?_; clear hst; intro A25 c25 W25 hst; simp only [List.set_cons_zero, List.set_cons_succ, List.nil_append, Nat.zero_add] at hst)
        | (refine L_appendF (d := some 25) rfl rfl rfl (by rfl) (by rfl) Tryd.underlying22 el_api_Digest rfl (by decide) (by assumption) (by first | assumption | exact hst.sl 0 rfl | exact hst.sl 1 rfl | exact hst.sl 2 rfl | assumption | exact hst.old (by decide) (by assumption)) (by omega) (by omega) (by omega) ?_; (try clear hnew); intro A25 c25 W25 hnew; replace hst := hst.trans hnew; simp only [List.cons_append, List.nil_append] at hst)
        | fail)
      go_roundg (gk - 1)
      case measure => have hi := HI.out; omega
      case rel =>
        have hi := HI.out
        refine ⟨i + 1, A25, c25, Lib.hid (by omega), rfl, by go_num, ?_⟩
        rw [List.range_succ, List.map_append, digsL_append]
        simp only [List.map_cons, List.map_nil, digsL_single]
        exact hst.pick [2] (by decide)
    · obtain rfl : i = 67 := by omega
      clear hi HI
      go_wp2_with (first
        | fail)
      go_ret
      exact ⟨_, _, rfl, hst⟩
theorem wSecret_gives (seed : Dig) (g : Nat) (w : World) (hT : Tb w) (hg : w.heap[g]? = some (.cells seed.arr 25 (0, 0))) : Gives 93 #[.pointer (some ⟨g, 0, none⟩)] 67 (fun i => (wSecretN seed i).v) w := by
  intro i hi W L hst
  exact wSecret_any seed g i (by omega) W (hT.of hst) ((hst.below.block g (Array.getElem?_eq_some_iff.1 hg).1).trans hg)
theorem fifteen_gives (w : World) : Gives 76 #[] 67 (fun _ => .int .i64 ((15 : Nat) : Int)) w := by
  intro i hi W L hst
  have hst := St.refl W
  show Calls Tryd.prog 76 #[.int .i64 (i : Int)] W _
  go_enter Tryd.func76, Tryd.ntmps76
  go_wp2_with fail
  go_ret
  exact ⟨rfl, hst⟩
def endsN (ds : Nat → Dig) (ks : Nat → Nat) : List Dig := (List.range 67).map fun i => walkN (ds i) (ks i)
def wotsN (seed : Dig) : Dig := ofN 7 (endsN (wSecretN seed) fun _ => 15)

set_option maxHeartbeats 1000000 in
theorem wPublic_any (seed : Dig) (w : World) (hT : Tb w) : Calls Tryd.prog 48 #[seed.v] w fun e w' => e = .returned (wotsN seed).v ∧ St w w' [] := by
  have hst := St.refl w
  have HT := Lib.hid hT
  clear hT
  go_enter Tryd.func48, Tryd.ntmps48
  go_wp2_with (first
    | (go_at_call 72; (try clear hnew); with_reducible refine (secrets_any seed _).mono ?_; rintro e W4 ⟨g4, rfl, hnew⟩; replace hst := hst.trans hnew; clear hnew; simp only [List.cons_append, List.nil_append] at hst)
    | (go_at_call 71; refine (ends_any 93 76 #[.pointer (some ⟨g4, 0, none⟩)] #[] (wSecretN seed) (fun _ => 15) _ (HT.out.of hst) (wSecret_gives seed g4 _ (HT.out.of hst) (hst.get 0 rfl)) (fifteen_gives _) (fun _ _ => by decide) (fun _ _ => by rfl) (fun _ _ => by rfl)).mono ?_; rintro e W5 ⟨A5, c5, rfl, hnew⟩; replace hst := hst.trans hnew; clear hnew; simp only [List.cons_append, List.nil_append] at hst)
    | (go_at_call 66; (try clear hnew); refine (of_any 7 (endsN (wSecretN seed) fun _ => 15) _ _ _ _ (HT.out.of hst) (hst.sl 0 rfl) (by decide)).mono ?_; rintro e W6 ⟨rfl, hnew⟩; replace hst := hst.keep hnew)
    | (refine L_boxA (d := some 1) rfl rfl rfl (ev_tmp rfl) ?_; (try clear hnew); intro g1 W1 hnew; replace hst := hst.trans hnew; simp only [List.cons_append, List.nil_append] at hst)
    | (refine L_allocA (d := some 2) rfl rfl rfl el_api_Digest ?_; (try clear hnew); intro g2 W2 hnew; replace hst := hst.trans hnew; simp only [List.cons_append, List.nil_append] at hst)
    | (first | (refine L_loadA (d := some 3) rfl rfl rfl (by rfl) Tryd.underlying25 rfl el_api_Digest (by first | exact hst.get 0 rfl | exact hst.get 1 rfl | exact hst.get 2 rfl | exact hst.get 3 rfl) (by first | rfl | exact Dig.size _ | (simp; done)) ?_) | (refine L_loadM (d := some 3) rfl rfl rfl (by rfl) Tryd.underlying25 rfl el_api_Digest (by first | assumption) (by first | rfl | exact Dig.size _ | (simp; done)) ?_))
    | (refine wpl_at (.store 25 (.tmp 2) (.tmp 6)) rfl ?_; first | (refine L_storeA rfl rfl hst rfl (by rfl) (ev_tmp rfl) (by first | rfl | exact Dig.one _ | (simp; done)) el_api_Digest (by first | rfl | exact Dig.size _ | (simp; done)) 0 rfl (by first | rfl | exact Dig.size _ | (simp; done)) ?_; clear hst; intro WS4 hst; simp only [List.set_cons_zero, List.set_cons_succ] at hst) | (refine L_storeA rfl rfl hst rfl (by rfl) (ev_tmp rfl) (by first | rfl | exact Dig.one _ | (simp; done)) el_api_Digest (by first | rfl | exact Dig.size _ | (simp; done)) 1 rfl (by first | rfl | exact Dig.size _ | (simp; done)) ?_; clear hst; intro WS4 hst; simp only [List.set_cons_zero, List.set_cons_succ] at hst) | (refine L_storeA rfl rfl hst rfl (by rfl) (ev_tmp rfl) (by first | rfl | exact Dig.one _ | (simp; done)) el_api_Digest (by first | rfl | exact Dig.size _ | (simp; done)) 2 rfl (by first | rfl | exact Dig.size _ | (simp; done)) ?_; clear hst; intro WS4 hst; simp only [List.set_cons_zero, List.set_cons_succ] at hst) | (refine L_storeA rfl rfl hst rfl (by rfl) (ev_tmp rfl) (by first | rfl | exact Dig.one _ | (simp; done)) el_api_Digest (by first | rfl | exact Dig.size _ | (simp; done)) 3 rfl (by first | rfl | exact Dig.size _ | (simp; done)) ?_; clear hst; intro WS4 hst; simp only [List.set_cons_zero, List.set_cons_succ] at hst) | (refine L_storeM rfl rfl hst rfl (by rfl) (ev_tmp rfl) (by first | rfl | exact Dig.one _ | (simp; done)) el_api_Digest (by first | rfl | exact Dig.size _ | (simp; done)) 0 rfl (by first | exact of_decide_eq_true rfl | (simp; done)) ?_; clear hst; intro WS4 hst; simp only [List.set_cons_zero, List.set_cons_succ] at hst)  | (refine L_storeM rfl rfl hst rfl (by rfl) (ev_tmp rfl) (by first | rfl | exact Dig.one _ | (simp; done)) el_api_Digest (by first | rfl | exact Dig.size _ | (simp; done)) 1 rfl (by first | exact of_decide_eq_true rfl | (simp; done)) ?_; clear hst; intro WS4 hst; simp only [List.set_cons_zero, List.set_cons_succ] at hst)  | (refine L_storeM rfl rfl hst rfl (by rfl) (ev_tmp rfl) (by first | rfl | exact Dig.one _ | (simp; done)) el_api_Digest (by first | rfl | exact Dig.size _ | (simp; done)) 2 rfl (by first | exact of_decide_eq_true rfl | (simp; done)) ?_; clear hst; intro WS4 hst; simp only [List.set_cons_zero, List.set_cons_succ] at hst)  | (refine L_storeM rfl rfl hst rfl (by rfl) (ev_tmp rfl) (by first | rfl | exact Dig.one _ | (simp; done)) el_api_Digest (by first | rfl | exact Dig.size _ | (simp; done)) 3 rfl (by first | exact of_decide_eq_true rfl | (simp; done)) ?_; clear hst; intro WS4 hst; simp only [List.set_cons_zero, List.set_cons_succ] at hst))
    | fail)
  refine bp_cell rfl rfl rfl (hst.get 2 rfl) Tryd.underlying25 rfl el_api_Digest (by first | rfl | exact Dig.size _ | (simp; done)) ?_
  exact ⟨rfl, hst.forget⟩
end Go.Proofs.YtfpppmamkmaneaaDoor
