/-
  Proved here, ahead of the law: PinHonest: the law returns true for every input, and leaves its arguments as they were.
-/
import Derived.Test.YtaebeemnipafbaaDoorPkPinHonestA
import Derived.Test.YtaebeemnipafbaaDoorMaps
import Derived.Shelf.SlSortCmp.WholeK
import Derived.Shelf.SlSortCmp.NoneTotal
import Derived.Lib.SliceRun
import Derived.Test.YtaebeemnipafbaaDoorLawD
import Derived.Test.YtaebeemnipafbaaDoorClone
import Derived.Test.YtaebeemnipafbaaDoorDigsL
import Derived.Test.YtaebeemnipafbaaDoorForkP
import Derived.Test.YtaebeemnipafbaaDoorLaw
import Derived.Test.YtaebeemnipafbaaDoorLawE
import Derived.Test.YtaebeemnipafbaaDoorLawF
import Derived.Test.YtaebeemnipafbaaDoorFork
import Derived.Test.YtaebeemnipafbaaDoorDrawT
import Derived.Test.YtaebeemnipafbaaDoorForkM
import Derived.Test.YtaebeemnipafbaaDoorFast
import Derived.Test.YtaebeemnipafbaaDoorChain
import Derived.Test.YtaebeemnipafbaaDoorLawC
import Derived.Test.YtaebeemnipafbaaDoorPick
import Derived.Test.YtaebeemnipafbaaDoorIdxK
import Derived.Defers
import Derived.Recover
set_option maxRecDepth 20000
set_option linter.unusedSimpArgs false
set_option linter.unusedVariables false
namespace Go.Proofs.YtaebeemnipafbaaDoor
open Go.RowKit
theorem cutI_mid {es : List (Nat × Dig)} {b q : Nat} (hr : ∀ e ∈ es, q * 2 ^ (b + 1) ≤ e.1 ∧ e.1 < q * 2 ^ (b + 1) + 2 ^ (b + 1)) : cutI b es = es.findIdx fun e => decide (q * 2 ^ (b + 1) + 2 ^ b ≤ e.1) := by
 unfold cutI
 induction es with
 | nil => rfl
 | cons e es ih =>
  rw [List.findIdx_cons, List.findIdx_cons, ih (fun x hx => hr x (List.mem_cons_of_mem _ hx)), bit_mid (hr e (by simp)).1 (hr e (by simp)).2]
theorem pw_nodup {es : List (Nat × Dig)} (h : es.Pairwise fun a b => a.1 < b.1) : (es.map (·.1)).Nodup := by
 rw [List.Nodup, List.pairwise_map]
 exact h.imp (fun h => Nat.ne_of_lt h)
attribute [local simp] prArr_size
set_option maxHeartbeats 4000000 in
set_option maxRecDepth 100000 in
theorem troot_any : ∀ (b : Nat) (es : List (Nat × Dig)) (A : Option Addr) (n c q : Nat) (w : World), Tb w → SlR w A n c 33 (entL es) → b ≤ 32 → (es.Pairwise fun x y => x.1 < y.1) → (∀ e ∈ es, q * 2 ^ b ≤ e.1 ∧ e.1 < q * 2 ^ b + 2 ^ b) → q * 2 ^ b + 2 ^ b ≤ 4294967296 →
  Calls Tryd.prog 84 #[.slice A n c, .int .i64 (b : Int)] w fun e w' => e = .returned (mRoot (leafAt es) b (q * 2 ^ b)).v ∧ St w w' [] := by
 intro b
 induction b with
 | zero =>
  intro es A n c q w hT hx _ hs hr hq
  have hst := St.refl w
  have hl : n = es.length := by have := hx.1; rw [length_entL] at this; omega
  cases es with
  | nil =>
   obtain rfl : n = 0 := hl
   have HM := Lib.hid (mRoot_empty 0 (q * 2 ^ 0))
   generalize mRoot (leafAt []) 0 (q * 2 ^ 0) = r at *
   clear hT hs hr hq
   go_enter Tryd.func84, Tryd.ntmps84
   go_upto_region 1 with (go_big_may; first
    | (refine L_allocA (d := some 4) rfl rfl rfl el_api_Digest ?_; (try clear hnew); intro g4 W4 hnew; replace hst := hst.trans hnew; simp only [List.cons_append, List.nil_append] at hst)
    | fail)
   go_upto_region 2 with (go_big_may; first
    | fail)
   go_wp2_with (first
    | (refine L_build0 (d := some 12) rfl rfl rfl Tryd.underlying30 el_uint8 el_api_Digest ?_)
    | (refine wpl_at (.store 30 (.tmp 4) (.tmp 12)) rfl ?_; first | (refine L_storeA rfl rfl hst rfl (by rfl) (ev_tmp rfl) (by first | rfl | exact Dig.one _ | (simp; done)) el_api_Digest (by first | rfl | exact Dig.size _ | (simp; done)) 0 rfl (by first | rfl | exact Dig.size _ | (simp; done)) ?_; clear hst; intro WS1 hst; simp only [List.set_cons_zero, List.set_cons_succ] at hst) | (refine L_storeM rfl rfl hst rfl (by rfl) (ev_tmp rfl) (by first | rfl | exact Dig.one _ | (simp; done)) el_api_Digest (by first | rfl | exact Dig.size _ | (simp; done)) 0 rfl (by first | exact of_decide_eq_true rfl | (simp; done)) ?_; clear hst; intro WS1 hst; simp only [List.set_cons_zero, List.set_cons_succ] at hst))
    | fail)
   refine bp_cell rfl rfl rfl (hst.get 0 rfl) Tryd.underlying30 rfl el_api_Digest (by first | rfl | exact Dig.size _ | (simp; done)) ?_
   rw [HM.out]
   exact ⟨rfl, hst.forget⟩
  | cons e es =>
   have h0 := hr e (by simp)
   have he : e.1 = q := by omega
   have HM := Lib.hid (show mRoot (leafAt (e :: es)) 0 (q * 2 ^ 0) = eLeaf e.1 e.2 from by
    show leafAt (e :: es) (q * 2 ^ 0) = _
    rw [show q * 2 ^ 0 = e.1 by omega]
    exact leafAt_some (pw_nodup hs) (by simp))
   generalize mRoot (leafAt (e :: es)) 0 (q * 2 ^ 0) = r at *
   have hn0 : ((n : Int) == 0) = false := by rw [beq_eq_false_iff_ne]; simp at hl; omega
   have hn1 : (0 : Int) < (n : Int) := by simp at hl; omega
   have HP := Lib.hid (entL_at (e :: es) 0 (by simp))
   have hnc := hx.2.1
   have HT := Lib.hid hT
   have hk : e.1 < 4294967296 := by omega
   have HL := Lib.hid (fun (w' : World) (h : Tb w') => tleafE_any e.1 e.2 w' h hk)
   obtain ⟨k, d⟩ := e
   simp only [List.getElem_cons_zero] at *
   generalize eLeaf k d = ld at *
   generalize entL ((k, d) :: es) = el at *
   clear hT hs hr hq hl h0 he hk
   go_enter Tryd.func84, Tryd.ntmps84
   go_upto_region 1 with (go_big_may; first
    | (refine L_allocA (d := some 4) rfl rfl rfl el_api_Digest ?_; (try clear hnew); intro g4 W4 hnew; replace hst := hst.trans hnew; simp only [List.cons_append, List.nil_append] at hst)
    | fail)
   go_upto_region 3 with (go_big_may; first
    | fail)
   go_upto_region 4 with (go_big_may; first
    | fail)
   go_upto_region 5 with (go_big_may; first
    | (refine L_loadM (d := some 18) rfl rfl rfl (by rfl) Tryd.underlying115 rfl el_api_Entry (cs := prArr (k : Int) d) (by rw [← HP.out]; exact hr17) (prArr_size _ _) ?_)
    | (go_at_call 92; (try clear hnew); refine (HL.out _ (HT.out.of hst)).mono ?_; rintro e Wk1 ⟨rfl, hnew⟩; replace hst := hst.keep hnew)
    | (refine L_idxS (d := some 17) rfl rfl rfl (by rfl) (by rfl) Tryd.underlying149 el_api_Entry (by first | exact hst.old (by decide) hx | assumption | exact hst.sl 0 rfl | exact hst.sl 1 rfl | exact hst.sl 2 rfl | exact hst.old (by decide) (by assumption)) (by omega) (by omega) ?_; intro o17 p17 ha17 hr17; (first | subst ha17 | (obtain ⟨h1, h2⟩ := some_addr ha17; subst h1; subst h2; clear ha17) | skip))
    | (first | (refine L_loadA (d := some 18) rfl rfl rfl (by rfl) Tryd.underlying115 rfl el_api_Entry (by first | exact hst.get 0 rfl | exact hst.get 1 rfl | exact hst.get 2 rfl) (by first | rfl | exact Dig.size _ | (simp; done)) ?_) | (refine L_loadM (d := some 18) rfl rfl rfl (by rfl) Tryd.underlying115 rfl el_api_Entry (by first | assumption) (by first | rfl | exact Dig.size _ | (simp; done)) ?_))
    | (refine L_allocA (d := some 5) rfl rfl rfl el_api_Digest ?_; (try clear hnew); intro g5 W5 hnew; replace hst := hst.trans hnew; simp only [List.cons_append, List.nil_append] at hst)
    | (refine wpl_at (.store 30 (.tmp 5) (.tmp 20)) rfl ?_; first | (refine L_storeA rfl rfl hst rfl (by rfl) (ev_tmp rfl) (by first | rfl | exact Dig.one _ | (simp; done)) el_api_Digest (by first | rfl | exact Dig.size _ | (simp; done)) 0 rfl (by first | rfl | exact Dig.size _ | (simp; done)) ?_; clear hst; intro WS8 hst; simp only [List.set_cons_zero, List.set_cons_succ] at hst) | (refine L_storeA rfl rfl hst rfl (by rfl) (ev_tmp rfl) (by first | rfl | exact Dig.one _ | (simp; done)) el_api_Digest (by first | rfl | exact Dig.size _ | (simp; done)) 1 rfl (by first | rfl | exact Dig.size _ | (simp; done)) ?_; clear hst; intro WS8 hst; simp only [List.set_cons_zero, List.set_cons_succ] at hst) | (refine L_storeA rfl rfl hst rfl (by rfl) (ev_tmp rfl) (by first | rfl | exact Dig.one _ | (simp; done)) el_api_Digest (by first | rfl | exact Dig.size _ | (simp; done)) 2 rfl (by first | rfl | exact Dig.size _ | (simp; done)) ?_; clear hst; intro WS8 hst; simp only [List.set_cons_zero, List.set_cons_succ] at hst) | (refine L_storeM rfl rfl hst rfl (by rfl) (ev_tmp rfl) (by first | rfl | exact Dig.one _ | (simp; done)) el_api_Digest (by first | rfl | exact Dig.size _ | (simp; done)) 0 rfl (by first | exact of_decide_eq_true rfl | (simp; done)) ?_; clear hst; intro WS8 hst; simp only [List.set_cons_zero, List.set_cons_succ] at hst)  | (refine L_storeM rfl rfl hst rfl (by rfl) (ev_tmp rfl) (by first | rfl | exact Dig.one _ | (simp; done)) el_api_Digest (by first | rfl | exact Dig.size _ | (simp; done)) 1 rfl (by first | exact of_decide_eq_true rfl | (simp; done)) ?_; clear hst; intro WS8 hst; simp only [List.set_cons_zero, List.set_cons_succ] at hst)  | (refine L_storeM rfl rfl hst rfl (by rfl) (ev_tmp rfl) (by first | rfl | exact Dig.one _ | (simp; done)) el_api_Digest (by first | rfl | exact Dig.size _ | (simp; done)) 2 rfl (by first | exact of_decide_eq_true rfl | (simp; done)) ?_; clear hst; intro WS8 hst; simp only [List.set_cons_zero, List.set_cons_succ] at hst))
    | fail)
   go_wp2_with (first
    | (first | (refine L_loadA (d := some 22) rfl rfl rfl (by rfl) Tryd.underlying30 rfl el_api_Digest (by first | exact hst.get 0 rfl | exact hst.get 1 rfl | exact hst.get 2 rfl) (by first | rfl | exact Dig.size _ | (simp; done)) ?_) | (refine L_loadM (d := some 22) rfl rfl rfl (by rfl) Tryd.underlying30 rfl el_api_Digest (by first | assumption) (by first | rfl | exact Dig.size _ | (simp; done)) ?_))
    | (refine wpl_at (.store 30 (.tmp 4) (.tmp 22)) rfl ?_; first | (refine L_storeA rfl rfl hst rfl (by rfl) (ev_tmp rfl) (by first | rfl | exact Dig.one _ | (simp; done)) el_api_Digest (by first | rfl | exact Dig.size _ | (simp; done)) 0 rfl (by first | rfl | exact Dig.size _ | (simp; done)) ?_; clear hst; intro WS1 hst; simp only [List.set_cons_zero, List.set_cons_succ] at hst) | (refine L_storeA rfl rfl hst rfl (by rfl) (ev_tmp rfl) (by first | rfl | exact Dig.one _ | (simp; done)) el_api_Digest (by first | rfl | exact Dig.size _ | (simp; done)) 1 rfl (by first | rfl | exact Dig.size _ | (simp; done)) ?_; clear hst; intro WS1 hst; simp only [List.set_cons_zero, List.set_cons_succ] at hst) | (refine L_storeA rfl rfl hst rfl (by rfl) (ev_tmp rfl) (by first | rfl | exact Dig.one _ | (simp; done)) el_api_Digest (by first | rfl | exact Dig.size _ | (simp; done)) 2 rfl (by first | rfl | exact Dig.size _ | (simp; done)) ?_; clear hst; intro WS1 hst; simp only [List.set_cons_zero, List.set_cons_succ] at hst) | (refine L_storeM rfl rfl hst rfl (by rfl) (ev_tmp rfl) (by first | rfl | exact Dig.one _ | (simp; done)) el_api_Digest (by first | rfl | exact Dig.size _ | (simp; done)) 0 rfl (by first | exact of_decide_eq_true rfl | (simp; done)) ?_; clear hst; intro WS1 hst; simp only [List.set_cons_zero, List.set_cons_succ] at hst)  | (refine L_storeM rfl rfl hst rfl (by rfl) (ev_tmp rfl) (by first | rfl | exact Dig.one _ | (simp; done)) el_api_Digest (by first | rfl | exact Dig.size _ | (simp; done)) 1 rfl (by first | exact of_decide_eq_true rfl | (simp; done)) ?_; clear hst; intro WS1 hst; simp only [List.set_cons_zero, List.set_cons_succ] at hst)  | (refine L_storeM rfl rfl hst rfl (by rfl) (ev_tmp rfl) (by first | rfl | exact Dig.one _ | (simp; done)) el_api_Digest (by first | rfl | exact Dig.size _ | (simp; done)) 2 rfl (by first | exact of_decide_eq_true rfl | (simp; done)) ?_; clear hst; intro WS1 hst; simp only [List.set_cons_zero, List.set_cons_succ] at hst))
    | fail)
   refine bp_cell rfl rfl rfl (hst.get 1 rfl) Tryd.underlying30 rfl el_api_Digest (by first | rfl | exact Dig.size _ | (simp; done)) ?_
   rw [HM.out]
   exact ⟨rfl, hst.forget⟩
 | succ b ih =>
  intro es A n c q w hT hx hb hs hr hq
  have hst := St.refl w
  have hl : n = es.length := by have := hx.1; rw [length_entL] at this; omega
  have e2 : 2 ^ (b + 1) = 2 ^ b + 2 ^ b := by rw [Nat.pow_succ]; omega
  have hp := Nat.two_pow_pos b
  have e3 : q * 2 ^ (b + 1) = 2 * q * 2 ^ b := by rw [Nat.pow_succ, Nat.mul_comm (2 ^ b) 2, ← Nat.mul_assoc, Nat.mul_comm q 2]
  have e4 : (2 * q + 1) * 2 ^ b = q * 2 ^ (b + 1) + 2 ^ b := by rw [Nat.add_mul, Nat.one_mul, e3]
  cases hes : es with
  | nil =>
   rw [hes] at hx hl
   obtain rfl : n = 0 := hl
   have HM := Lib.hid (mRoot_empty (b + 1) (q * 2 ^ (b + 1)))
   generalize mRoot (leafAt []) (b + 1) (q * 2 ^ (b + 1)) = r at *
   clear hT hs hr hq ih e2 e3 e4 hes hp
   go_enter Tryd.func84, Tryd.ntmps84
   go_upto_region 1 with (go_big_may; first
    | (refine L_allocA (d := some 4) rfl rfl rfl el_api_Digest ?_; (try clear hnew); intro g4 W4 hnew; replace hst := hst.trans hnew; simp only [List.cons_append, List.nil_append] at hst)
    | fail)
   go_upto_region 2 with (go_big_may; first
    | fail)
   go_wp2_with (first
    | (refine L_build0 (d := some 12) rfl rfl rfl Tryd.underlying30 el_uint8 el_api_Digest ?_)
    | (refine wpl_at (.store 30 (.tmp 4) (.tmp 12)) rfl ?_; first | (refine L_storeA rfl rfl hst rfl (by rfl) (ev_tmp rfl) (by first | rfl | exact Dig.one _ | (simp; done)) el_api_Digest (by first | rfl | exact Dig.size _ | (simp; done)) 0 rfl (by first | rfl | exact Dig.size _ | (simp; done)) ?_; clear hst; intro WS1 hst; simp only [List.set_cons_zero, List.set_cons_succ] at hst) | (refine L_storeM rfl rfl hst rfl (by rfl) (ev_tmp rfl) (by first | rfl | exact Dig.one _ | (simp; done)) el_api_Digest (by first | rfl | exact Dig.size _ | (simp; done)) 0 rfl (by first | exact of_decide_eq_true rfl | (simp; done)) ?_; clear hst; intro WS1 hst; simp only [List.set_cons_zero, List.set_cons_succ] at hst))
    | fail)
   refine bp_cell rfl rfl rfl (hst.get 0 rfl) Tryd.underlying30 rfl el_api_Digest (by first | rfl | exact Dig.size _ | (simp; done)) ?_
   rw [HM.out]
   exact ⟨rfl, hst.forget⟩
  | cons e0 es0 =>
   rw [← hes]
   have hn0 : ((n : Int) == 0) = false := by rw [beq_eq_false_iff_ne, hl, hes]; simp; omega
   have hb0 : (((b + 1 : Nat) : Int) == 0) = false := by rw [beq_eq_false_iff_ne]; omega
   clear hes
   have hcut := cutI_mid hr
   have hmr := mRoot_halves es b (q * 2 ^ (b + 1))
   rw [← cut_low es _ hs, ← cut_high es _ hs, ← hcut] at hmr
   have hlow : es.take (cutI b es) = es.filter fun e => decide (e.1 < q * 2 ^ (b + 1) + 2 ^ b) := by rw [hcut]; exact cut_low es _ hs
   have hhigh : es.drop (cutI b es) = es.filter fun e => decide (q * 2 ^ (b + 1) + 2 ^ b ≤ e.1) := by rw [hcut]; exact cut_high es _ hs
   have HH := Lib.hid (fun (w' : World) (h : SlR w' A n c 33 (entL es)) => halves_any es A n c b w' h (by omega) (fun e he => by have := hr e he; omega))
   have HL := Lib.hid (fun (w' : World) (A1 : Option Addr) (n1 c1 : Nat) (ht : Tb w') (h : SlR w' A1 n1 c1 33 (entL (es.take (cutI b es)))) => ih (es.take (cutI b es)) A1 n1 c1 (2 * q) w' ht h (by omega) (hs.sublist (List.take_sublist _ _)) (fun e he => by
    have h1 := hr e ((List.take_sublist _ _).subset he)
    rw [hlow] at he
    have h2 := of_decide_eq_true (List.mem_filter.1 he).2
    omega) (by omega))
   have HR := Lib.hid (fun (w' : World) (A1 : Option Addr) (n1 c1 : Nat) (ht : Tb w') (h : SlR w' A1 n1 c1 33 (entL (es.drop (cutI b es)))) => ih (es.drop (cutI b es)) A1 n1 c1 (2 * q + 1) w' ht h (by omega) (hs.sublist (List.drop_sublist _ _)) (fun e he => by
    have h1 := hr e ((List.drop_sublist _ _).subset he)
    rw [hhigh] at he
    have h2 := of_decide_eq_true (List.mem_filter.1 he).2
    omega) (by omega))
   rw [← e3] at HL
   rw [e4] at HR
   have HM := Lib.hid hmr
   have HT := Lib.hid hT
   have HS := Lib.hid (show wrap64 (((b + 1 : Nat) : Int) - 1) = (b : Int) by
    rw [show ((b + 1 : Nat) : Int) - 1 = (b : Int) by omega]
    unfold wrap64
    omega)
   generalize mRoot (leafAt es) (b + 1) (q * 2 ^ (b + 1)) = r at *
   generalize mRoot (leafAt (es.take (cutI b es))) b (q * 2 ^ (b + 1)) = r1 at *
   generalize mRoot (leafAt (es.drop (cutI b es))) b (q * 2 ^ (b + 1) + 2 ^ b) = r2 at *
   generalize entL (es.take (cutI b es)) = l1 at *
   generalize entL (es.drop (cutI b es)) = l2 at *
   generalize entL es = el at *
   clear hT ih hs hr hq e2 e3 e4 hcut hmr hlow hhigh hl hp
   have hb31 : b ≤ 31 := by omega
   clear hb
   go_enter Tryd.func84, Tryd.ntmps84
   go_upto_region 1 with (go_big_may; first
    | (refine L_allocA (d := some 4) rfl rfl rfl el_api_Digest ?_; (try clear hnew); intro g4 W4 hnew; replace hst := hst.trans hnew; simp only [List.cons_append, List.nil_append] at hst)
    | fail)
   go_upto_region 3 with (go_big_may; first
    | fail)
   go_upto_region 6 with (go_big_may; first
    | fail)
   go_upto_region 7 with (go_big_may; first
    | (go_at_call 103; (try clear hnew); refine (HH.out _ (hst.old (by decide) hx)).mono ?_; rintro e Wh ⟨A1, n1, c1, A2, n2, c2, rfl, hx1, hx2, hnew⟩; have HX1 := Lib.hid hx1; have HX2 := Lib.hid hx2; clear hx1 hx2; replace hst := hst.keep hnew; clear hnew)
    | fail)
   go_wp2_with (first
    | (go_at_call_of 84 (Value.slice A1 n1 c1); (try clear hnew); refine (HL.out _ _ _ _ (HT.out.of hst) (HX1.out _ (hst.old (by decide) hx))).mono ?_; rintro e W1 ⟨rfl, hnew⟩; replace hst := hst.keep hnew)
    | (go_at_call_of 84 (Value.slice A2 n2 c2); (try clear hnew); refine (HR.out _ _ _ _ (HT.out.of hst) (HX2.out _ (hst.old (by decide) hx))).mono ?_; rintro e W1 ⟨rfl, hnew⟩; replace hst := hst.keep hnew)
    | (go_at_call 90; (try clear hnew); refine (mnode_any _ _ _ (HT.out.of hst)).mono ?_; rintro e Wk2 ⟨rfl, hnew⟩; replace hst := hst.keep hnew)
    | (refine wpl_at (.store 30 (.tmp 4) (.tmp 38)) rfl ?_; first | (refine L_storeA rfl rfl hst rfl (by rfl) (ev_tmp rfl) (by first | rfl | exact Dig.one _ | (simp; done)) el_api_Digest (by first | rfl | exact Dig.size _ | (simp; done)) 0 rfl (by first | rfl | exact Dig.size _ | (simp; done)) ?_; clear hst; intro WS9 hst; simp only [List.set_cons_zero, List.set_cons_succ] at hst) | (refine L_storeA rfl rfl hst rfl (by rfl) (ev_tmp rfl) (by first | rfl | exact Dig.one _ | (simp; done)) el_api_Digest (by first | rfl | exact Dig.size _ | (simp; done)) 1 rfl (by first | rfl | exact Dig.size _ | (simp; done)) ?_; clear hst; intro WS9 hst; simp only [List.set_cons_zero, List.set_cons_succ] at hst) | (refine L_storeA rfl rfl hst rfl (by rfl) (ev_tmp rfl) (by first | rfl | exact Dig.one _ | (simp; done)) el_api_Digest (by first | rfl | exact Dig.size _ | (simp; done)) 2 rfl (by first | rfl | exact Dig.size _ | (simp; done)) ?_; clear hst; intro WS9 hst; simp only [List.set_cons_zero, List.set_cons_succ] at hst) | (refine L_storeM rfl rfl hst rfl (by rfl) (ev_tmp rfl) (by first | rfl | exact Dig.one _ | (simp; done)) el_api_Digest (by first | rfl | exact Dig.size _ | (simp; done)) 0 rfl (by first | exact of_decide_eq_true rfl | (simp; done)) ?_; clear hst; intro WS9 hst; simp only [List.set_cons_zero, List.set_cons_succ] at hst)  | (refine L_storeM rfl rfl hst rfl (by rfl) (ev_tmp rfl) (by first | rfl | exact Dig.one _ | (simp; done)) el_api_Digest (by first | rfl | exact Dig.size _ | (simp; done)) 1 rfl (by first | exact of_decide_eq_true rfl | (simp; done)) ?_; clear hst; intro WS9 hst; simp only [List.set_cons_zero, List.set_cons_succ] at hst)  | (refine L_storeM rfl rfl hst rfl (by rfl) (ev_tmp rfl) (by first | rfl | exact Dig.one _ | (simp; done)) el_api_Digest (by first | rfl | exact Dig.size _ | (simp; done)) 2 rfl (by first | exact of_decide_eq_true rfl | (simp; done)) ?_; clear hst; intro WS9 hst; simp only [List.set_cons_zero, List.set_cons_succ] at hst))
    | fail)
   refine bp_cell rfl rfl rfl (hst.get 0 rfl) Tryd.underlying30 rfl el_api_Digest (by first | rfl | exact Dig.size _ | (simp; done)) ?_
   rw [HM.out]
   exact ⟨rfl, hst.forget⟩
end Go.Proofs.YtaebeemnipafbaaDoor

set_option maxRecDepth 20000
set_option linter.unusedSimpArgs false
set_option linter.unusedVariables false
namespace Go.Proofs.YtaebeemnipafbaaDoor
open Go.RowKit Go.Shelf Go.Sort
open Go.Maps (Keyed)
def cmpE (x y : KD) : Int := ((x.1.val : Nat) : Int) - ((y.1.val : Nat) : Int)
theorem ltE (x y : KD) : ltOf cmpE x y = decide (x.1.val < y.1.val) := by
 unfold ltOf cmpE
 congr 1
 apply propext
 omega
theorem swoE : Sort.SWO (ltOf cmpE) where
 irrefl x := by rw [ltE]; simp
 trans x y z h1 h2 := by rw [ltE] at *; simp at *; omega
 ntrans x y z h1 h2 := by rw [ltE] at *; simp at *; omega
section
variable {P : Program} {ops : Array Oper} {rest : List Oper} {o : Oper} {a : Act} {W w0 : World} {Q : Exit → Act → World → Prop} {L : List Res} {d : Option Tmp}
theorem L_boxG (hst : St w0 W L) (hgr : ∃ os, W = Sort.grow w0 os) (hd : o.dst = d) (hw : Region.wanted o (yielded ops a.tmps) = true) {T : TypeId} {x : Operand} (ho : o.op = .box T x) {cs : Array Value} (hx : a.eval x = .agg cs)
  (h : ∀ (g : Nat) (W' : World), St w0 W' (.blk g T cs :: L) → (∃ os, W' = Sort.grow w0 os) → wpList P ops Q rest (a.put d (.pointer (some ⟨g, 0, none⟩))) W') : wpList P ops Q (o :: rest) a W := by
 obtain ⟨os, rfl⟩ := hgr
 refine L_val hd hw (exec_box T x ho) ?_
 rw [hx]
 refine h _ _ (hst.alloc cs T) ⟨os ++ #[.cells cs T], ?_⟩
 rw [Sort.alloc_eq_grow, Sort.grow_grow]
 rfl
end
set_option maxHeartbeats 1000000 in
theorem cmp_clos (x y : KD) (W : World) : Calls Tryd.prog 112 #[.agg (prArr ((x.1.val : Nat) : Int) x.2), .agg (prArr ((y.1.val : Nat) : Int) y.2)] W fun e w' => e = .returned (.int .i64 (cmpE x y)) ∧ ∃ os, w' = Sort.grow W os := by
 have hst := St.refl W
 have hgr : ∃ os, W = Sort.grow W os := ⟨#[], by simp⟩
 have lx := x.1.isLt
 have ly := y.1.isLt
 go_enter Tryd.func112, Tryd.ntmps112
 go_wp2_with (first
  | (refine L_boxG hst hgr (d := some 2) rfl rfl rfl (ev_tmp rfl) ?_; clear hst hgr; intro g2 W2 hst hgr)
  | (refine L_boxG hst hgr (d := some 3) rfl rfl rfl (ev_tmp rfl) ?_; clear hst hgr; intro g3 W3 hst hgr)
  | (refine L_load1 (d := some 6) rfl rfl rfl (by rfl) Tryd.underlying3 rfl (cell_of (hst.get 1 rfl) prArr_0) ?_)
  | (refine L_load1 (d := some 8) rfl rfl rfl (by rfl) Tryd.underlying3 rfl (cell_of (hst.get 0 rfl) prArr_0) ?_)
  | fail)
 go_ret
 exact ⟨rfl, hgr⟩
theorem ent_get {ks : List KD} {j : Nat} {v : Value} (h : (entL (ks.map kdN))[j]? = some v) : j / 33 < ks.length ∧ (encE (ks[j / 33]!))[j % 33]? = some v := by
 have hj := (List.getElem?_eq_some_iff.1 h).1
 rw [length_entL, List.length_map] at hj
 have h1 : j / 33 < ks.length := by omega
 refine ⟨h1, ?_⟩
 rw [← kd_at h1, List.getElem?_take, if_pos (by omega), List.getElem?_drop, show j / 33 * 33 + j % 33 = j by omega]
 exact h
theorem St.sortRows {w0 W : World} {L : List Res} (h : St w0 W L) (k : Nat) {blk off n c e : Nat} {xs : List Value} (hk : L[k]? = some (.row (some ⟨blk, off, none⟩) n c e 33 xs)) (q : Nat) (d : Array KD) (hd : d.size = n) (os : Array Obj) :
  St w0 (sortWorldK encE 33 W blk off q d os) (L.set k (.row (some ⟨blk, off, none⟩) n c e 33 (entL (d.toList.map kdN)))) := by
 have hlt : blk < W.heap.size := h.lt (List.mem_of_getElem? hk) rfl
 have hsz : (putRowK encE 33 (Sort.ahead W q) blk off d).heap.size = W.heap.size := by simp [putRowK, Sort.putRow, mapBlock, Sort.ahead]
 have hold : ∀ i, i < W.heap.size → (sortWorldK encE 33 W blk off q d os).heap[i]? = (putRowK encE 33 (Sort.ahead W q) blk off d).heap[i]? := fun i hi => heap_grow_old _ _ (by rw [hsz]; exact hi)
 refine h.turnAt k hk rfl rfl rfl (by simp [sortWorldK, putRowK, Sort.putRow, mapBlock, Sort.ahead, Sort.grow]) (fun i hi hne => ?_) (fun g hg => .inl hg) ?_
 ·rw [hold i hi]
  have hne : blk ≠ i := fun e => hne (by simp [Res.dom, e])
  simp [putRowK, Sort.putRow, mapBlock, Sort.ahead, Array.getElem?_modify, hne]
 ·rcases h.at_ k hk with ⟨h0, _⟩ | ⟨g, off', cur, hA, hh, hr⟩
  ·cases h0
  ·simp only [Option.some.injEq, Addr.mk.injEq, and_true] at hA
   obtain ⟨rfl, rfl⟩ := hA
   refine .inr ⟨blk, off, putCells id off (flatK encE 33 d) cur, rfl, ?_, ?_⟩
   ·rw [hold blk hlt]
    show ((Sort.ahead W q).heap.modify blk _)[blk]? = _
    rw [Array.getElem?_modify, if_pos rfl]
    show (W.heap[blk]?).map _ = _
    rw [hh]
    rfl
   ·have hrm := hr.room
    have hnc := hr.nc
    have hl : (entL (d.toList.map kdN)).length = n * 33 := by rw [length_entL, List.length_map, Array.length_toList, hd]
    refine ⟨hl, hnc, hr.cm, by simpa [putCells] using hrm, fun j v hv => ?_⟩
    have hj : j < n * 33 := by rw [← hl]; exact (List.getElem?_eq_some_iff.1 hv).1
    have hroom : n * 33 ≤ c * 33 := Nat.mul_le_mul_right _ hnc
    rw [putCells, Array.getElem?_mapIdx]
    have hlt2 : off + j < cur.size := by omega
    rw [Array.getElem?_eq_getElem hlt2]
    obtain ⟨h1, h2⟩ := ent_get hv
    have h3 : off ≤ off + j ∧ off + j < off + (flatK encE 33 d).size := by rw [size_flatK, hd]; omega
    simp only [Option.map_some, h3, and_self, if_true, id]
    rw [show off + j - off = j by omega, get_flatK _ _ _ _ (by rw [hd]; exact hj)]
    have h4 : d[j / 33]! = d.toList[j / 33]! := by simp [getElem!_def]
    rw [h4]
    congr 1
    rw [getElem!_def, h2]
theorem frozen_row {w0 W : World} {L : List Res} (h : St w0 W L) (k : Nat) {blk off n c e s : Nat} {xs : List Value} (hk : L[k]? = some (.row (some ⟨blk, off, none⟩) n c e s xs)) (j : Nat) (hj : j < n * s) : W.frozen? ⟨blk, off + j, none⟩ = false := by
 rcases h.at_ k hk with ⟨h0, _⟩ | ⟨g, off', cur, hA, hh, hr⟩
 ·cases h0
 ·simp only [Option.some.injEq, Addr.mk.injEq, and_true] at hA
  obtain ⟨rfl, rfl⟩ := hA
  have hrm := hr.room
  have : n * s ≤ c * s := Nat.mul_le_mul_right _ hr.nc
  exact (there_of_block (o := off) (n := n * s) hh (by omega) j hj).2
set_option maxHeartbeats 1000000 in
theorem sort_some (ks : List KD) (blk off n c : Nat) (w0 w : World) (L : List Res) (hst : St w0 w (.row (some ⟨blk, off, none⟩) n c 115 33 (entL (ks.map kdN)) :: L)) (hn : n ≤ 64) :
  Calls Tryd.prog 111 #[.slice (some ⟨blk, off, none⟩) n c, .func (.func 112) #[] #[]] w fun e w' => e = .returned (.tuple #[]) ∧
   ∃ ds : List KD, ds.Perm ks ∧ (ds.Pairwise fun a b => ¬ b.1.val < a.1.val) ∧ St w0 w' (.row (some ⟨blk, off, none⟩) n c 115 33 (entL (ds.map kdN)) :: L) := by
 have hx := hst.sl 0 rfl
 have hl : n = ks.length := by have := hx.1; rw [length_entL, List.length_map] at this; omega
 have hlt : blk < w.heap.size := hst.lt (List.mem_cons_self ..) rfl
 have h := AnyQ.slices_SortFunc Tryd.laysSortE 33 Tryd.isAgg115 Tryd.sizeOf115 encE length_encE (fun x => prArr_one _ _) cmpE swoE 112 #[] blk off c ks.toArray w (enters_of Tryd.func112 (by kernel_rfl) rfl)
  (fun m os dk hs x y => (cmp_clos x y _).mono fun e w' ⟨he, os', hw⟩ => ⟨he, 0, os', hw⟩)
  (fun t ht => by
   rw [size_flatK] at ht
   have ht' : t < ks.length * 33 := by simpa using ht
   refine ⟨?_, frozen_row hst 0 rfl t (by rw [hl]; exact ht')⟩
   rw [get_flatK _ _ _ _ ht]
   have h1 : t / 33 < ks.length := by omega
   have h2 : t % 33 < (encE (ks[t / 33]!)).length := by rw [length_encE]; omega
   have h3 := ent_cells hx (j := t / 33) h1 (i := t % 33) (v := (encE (ks[t / 33]!))[t % 33]) (List.getElem?_eq_getElem h2)
   rw [show off + t / 33 * 33 + t % 33 = off + t by omega] at h3
   rw [h3]
   have h4 : ks.toArray[t / 33]! = ks[t / 33]! := by simp [getElem!_def]
   rw [h4]
   simp only [id]
   generalize encE (ks[t / 33]!) = ee at h2 ⊢
   simp [getElem!_def, List.getElem?_eq_getElem h2])
  hlt (by simp; omega)
 have hz : ks.toArray.size = n := by simp [hl]
 rw [hz] at h
 refine h.mono ?_
 rintro e w' ⟨rfl, d', q, os, hp, hs, rfl⟩
 refine ⟨rfl, d'.toList, ?_, ?_, ?_⟩
 ·have := (list_perm (by rw [hz]; exact hp)).2
  simpa using this
 ·have h1 := (list_perm (by rw [hz]; exact hp)).1
  have := list_sorted (lt := ltOf cmpE) (d := d') (by rw [h1, hz]; exact hs)
  refine this.imp (fun {a b} hab => ?_)
  rw [ltE] at hab
  exact of_decide_eq_false hab
 ·have h1 := (list_perm (by rw [hz]; exact hp)).1
  exact hst.sortRows 0 rfl q d' (by rw [h1, hz]) os
theorem sort_any (ks : List KD) (A : Option Addr) (n c : Nat) (w0 w : World) (L : List Res) (hst : St w0 w (.row A n c 115 33 (entL (ks.map kdN)) :: L)) (hn : n ≤ 64) :
  Calls Tryd.prog 111 #[.slice A n c, .func (.func 112) #[] #[]] w fun e w' => e = .returned (.tuple #[]) ∧
   ∃ ds : List KD, ds.Perm ks ∧ (ds.Pairwise fun a b => ¬ b.1.val < a.1.val) ∧ St w0 w' (.row A n c 115 33 (entL (ds.map kdN)) :: L) := by
 have hx := hst.sl 0 rfl
 have hl : n = ks.length := by have := hx.1; rw [length_entL, List.length_map] at this; omega
 rcases Nat.eq_zero_or_pos n with h0 | h0
 ·obtain rfl : ks = [] := List.eq_nil_of_length_eq_zero (by omega)
  subst h0
  refine (AnyF.slices_SortFunc_none Tryd.laysSortE A c _ w).mono ?_
  rintro e w' ⟨rfl, rfl⟩
  exact ⟨rfl, [], List.Perm.refl _, List.Pairwise.nil, hst⟩
 ·obtain ⟨b, o, rfl, _⟩ := hx.2.2.2 h0
  exact sort_some ks b o n c w0 w L hst hn
end Go.Proofs.YtaebeemnipafbaaDoor

set_option maxRecDepth 20000
set_option linter.unusedSimpArgs false
set_option linter.unusedVariables false
namespace Go.Proofs.YtaebeemnipafbaaDoor
open Go.RowKit Go.Shelf Go.Sort
open Go.Maps (Keyed)
theorem entL_ones (es : List (Nat × Dig)) : ∀ u ∈ entL es, u.oneCell' = true := by
 intro u hu
 unfold entL pairsL at hu
 obtain ⟨p, _, hp⟩ := List.mem_flatMap.1 hu
 exact prArr_one p.1 p.2 u (by rw [prArr_list]; exact hp)
set_option maxHeartbeats 1000000 in
theorem cloneE_any (es : List (Nat × Dig)) (A : Option Addr) (n c : Nat) (w : World) (hx : SlR w A n c 33 (entL es)) (hn : n ≤ 64) :
  Calls Tryd.prog 110 #[.slice A n c] w fun e w' => ∃ O oc, e = .returned (.slice O n oc) ∧ St w w' [.row O n oc 115 33 (entL es)] := by
 have hst := St.refl w
 have q49 : ∀ (w : World) (a : Option Addr) (n c n' c' : Nat), (binOp .eql 100 (.slice a n c) (.slice none n' c')).run Tryd.prog w = .ok (.bool a.isNone) w := fun w a n c n' c' => Lib.run_eql_slice_nil w _ _ a n c n' c' Tryd.underlying100
 cases A with
 | none =>
  obtain rfl : n = 0 := by
   rcases Nat.eq_zero_or_pos n with h | h
   ·exact h
   ·obtain ⟨b, o, h1, _⟩ := hx.2.2.2 h
    cases h1
  obtain rfl : es = [] := List.eq_nil_of_length_eq_zero (by have := hx.1; rw [length_entL] at this; omega)
  go_enter Tryd.func110, Tryd.ntmps110
  go_wp2_with (first
   | fail)
  go_ret
  exact ⟨none, 0, rfl, hst.nilRow _ 33⟩
 | some a =>
  go_enter Tryd.func110, Tryd.ntmps110
  go_wp2_with (first
   | (refine L_buildS (d := some 5) rfl rfl rfl [] (bs_0 ) rfl Tryd.underlying100 el_api_Entry rfl (by first | (simp [Value.cells]; done) | (simp [Value.cells, Dig.size]; done)) (by decide) (by decide) ?_; (try clear hnew); intro g5 W5 hnew; replace hst := hst.trans hnew; simp only [List.cons_append, List.nil_append] at hst; simp only [List.flatMap_cons, List.flatMap_nil, List.append_nil, Value.cells, List.toList_toArray] at hst)
   | (refine L_appendO (d := some 7) rfl rfl hst rfl (by rfl) (by rfl) Tryd.underlying100 el_api_Entry rfl (by decide) (by decide) 0 rfl (by first | rfl | omega) (by first | exact hst.old (by decide) hx | exact hst.sl 0 rfl | assumption | exact hst.old (by decide) (by assumption)) (by first | exact oneCell_bytes | (simp [Value.oneCell']; done) | exact entL_ones _) (by omega) ?_; clear hst; intro A7 c7 W7 hst; simp only [List.set_cons_zero, List.set_cons_succ, List.nil_append, Nat.zero_add] at hst)
   | (refine L_appendF (d := some 7) rfl rfl rfl (by rfl) (by rfl) Tryd.underlying100 el_api_Entry rfl (by decide) (by assumption) (by first | assumption | exact hst.old (by decide) hx | exact hst.sl 0 rfl | assumption | exact hst.old (by decide) (by assumption)) (by omega) (by omega) (by omega) ?_; (try clear hnew); intro A7 c7 W7 hnew; replace hst := hst.trans hnew; simp only [List.cons_append, List.nil_append] at hst)
   | fail)
  go_ret
  exact ⟨_, _, rfl, by simpa using hst⟩
def kInt (n : Nat) : Value := .int .i64 (n : Int)
theorem kInt_inj (x y : Nat) (h : kInt x = kInt y) : x = y := by simp only [kInt, Value.int.injEq, true_and] at h; omega
theorem keyed_int : Keyed Tryd.prog 3 := Go.Maps.int_keyed Tryd.underlying3
theorem kInt_ok {n : Nat} (h : n < 9223372036854775808) : KeyOk Tryd.prog 3 kInt n := ⟨_, Go.Maps.keyOf_int_mk Tryd.underlying3 (WalkArith.wf_i64 (by omega))⟩
def metL (es : List (Nat × Dig)) (j : Nat) : List (Nat × Nat) := (es.take j).mapIdx fun i e => (e.1, i)
theorem metL_keys (es : List (Nat × Dig)) (j : Nat) : (metL es j).map (·.1) = (es.take j).map (·.1) := by
 unfold metL
 apply List.ext_getElem?
 intro i
 rw [List.getElem?_map, List.getElem?_mapIdx, List.getElem?_map, Option.map_map]
 rfl
theorem metL_succ {es : List (Nat × Dig)} {j : Nat} (hj : j < es.length) : metL es (j + 1) = metL es j ++ [(es[j].1, j)] := by
 unfold metL
 rw [List.take_succ_eq_append_getElem hj, List.mapIdx_append]
 simp [Nat.min_eq_left (Nat.le_of_lt hj)]
set_option maxHeartbeats 4000000 in
set_option maxRecDepth 100000 in
theorem tsorted_any (es : List (Nat × Dig)) (A : Option Addr) (n c : Nat) (w : World) (hx : SlR w A n c 33 (entL es)) (hn : n ≤ 64) (hk : ∀ e ∈ es, e.1 < 4294967296) (hd : (es.map (·.1)).Nodup) :
  Calls Tryd.prog 83 #[.slice A n c] w fun e w' => ∃ (ss : List (Nat × Dig)) (O : Option Addr) (oc : Nat), e = .returned (.tuple #[.slice O n oc, .nilIface]) ∧ (ss.Pairwise fun a b => a.1 < b.1) ∧ ss.Perm es ∧ St w w' [.row O n oc 115 33 (entL ss)] := by
 have hst := St.refl w
 have hl : n = es.length := by have := hx.1; rw [length_entL] at this; omega
 have h64 : ¬ (64 : Int) < (n : Int) := by omega
 have hnc := hx.2.1
 have hcm := hx.2.2.1
 simp only [maxLen] at hcm
 have HA := Lib.hid (fun j (hj : j < n) => show ∃ (k : Nat) (d : Dig), k < 4294967296 ∧ ((entL es).drop ((j : Int).toNat * 33)).take 33 = (prArr (k : Int) d).toList ∧ k ∉ (metL es j).map (·.1) ∧ metL es (j + 1) = metL es j ++ [(k, j)] from by
  have hj' : j < es.length := by omega
  refine ⟨es[j].1, es[j].2, hk _ (List.getElem_mem _), entL_at es j hj', ?_, metL_succ hj'⟩
  rw [metL_keys]
  intro hm
  obtain ⟨e, he, hee⟩ := List.mem_map.1 hm
  obtain ⟨i, hi, hie⟩ := List.mem_iff_getElem.1 he
  rw [List.length_take] at hi
  have hdi := List.pairwise_iff_getElem.1 hd i j (by simp; omega) (by simpa using hj') (by omega)
  rw [List.getElem_map, List.getElem_map] at hdi
  rw [List.getElem_take] at hie
  exact hdi (by rw [hie, hee]))
 have HK := Lib.hid (fun j => show ∀ p ∈ metL es j, KeyOk Tryd.prog 3 kInt p.1 from fun p hp => by
  have h1 : p.1 ∈ (metL es j).map (·.1) := List.mem_map.2 ⟨p, hp, rfl⟩
  rw [metL_keys] at h1
  obtain ⟨e, he, hee⟩ := List.mem_map.1 h1
  have := hk e ((List.take_sublist _ _).subset he)
  exact kInt_ok (by omega))
 have HD := Lib.hid (fun j => show ((metL es j).map (·.1)).Nodup from by
  rw [metL_keys]
  exact hd.sublist ((List.take_sublist _ _).map _))
 obtain ⟨ks, hks⟩ := kd_of hk
 have HS := Lib.hid (show ∀ ds : List KD, ds.Perm ks → (ds.Pairwise fun a b => ¬ b.1.val < a.1.val) → ((ds.map kdN).Pairwise fun a b => a.1 < b.1) ∧ (ds.map kdN).Perm es from fun ds h1 h2 => by
  rw [hks]
  exact sorted_kd h1 h2 (by rw [← hks]; exact hd))
 have HC := Lib.hid (fun (w' : World) (h : SlR w' A n c 33 (entL es)) => cloneE_any es A n c w' h hn)
 have HO := Lib.hid (fun (O : Option Addr) (oc : Nat) (w0 w' : World) (L : List Res) (h : St w0 w' (.row O n oc 115 33 (entL es) :: L)) => sort_any ks O n oc w0 w' L (by rw [← hks]; exact h) hn)
 have hm0 : metL es 0 = [] := rfl
 clear hk hd hks hn hl
 go_enter Tryd.func83, Tryd.ntmps83
 go_wp2_with (first
  | (refine L_makeMap kInt kInt (d := some 14) rfl rfl rfl ?_; intro gm W14 hnew; replace hst := hst.trans hnew; simp only [List.cons_append, List.nil_append] at hst)
  | fail)
 (try clear hnew)
 rw [← hm0] at hst
 generalize entL es = el at *
 generalize metL es = mt at *
 clear hm0 h64
 go_loopg [17] n (fun gk s17 wr => ∃ j : Nat, Hid (j + gk = n) ∧ s17 = .int .i64 (j : Int) ∧ St w wr [.obj gm (mpO kInt kInt (mt j))])
 case atStart => exact ⟨0, Lib.hid (by omega), rfl, hst⟩
 case round =>
  clear hst
  obtain ⟨j, HI, rfl, hst⟩ := hrel
  have hi := HI.out
  by_cases hjm : j < n
  ·clear hi
   obtain ⟨k, d, hk, hp, hkm, hms⟩ := HA.out j hjm
   have HP := Lib.hid hp
   have HM := Lib.hid hms
   have HN := Lib.hid (lookA_none.2 hkm)
   have HKk := Lib.hid (fun w : World => by have h := tkey_any (k : Int) w; rw [decide_eq_true (show 0 ≤ (k : Int) ∧ (k : Int) < 4294967296 by omega)] at h; exact h)
   have HU := Lib.hid (show updA k j (mt j) = mt (j + 1) from by rw [hms]; exact if_neg hkm)
   have HKO := Lib.hid (show KeyOk Tryd.prog 3 kInt k from kInt_ok (by omega))
   clear hp hms hkm hk
   go_wp2_with (first
    | (refine L_loadM (d := some 21) rfl rfl rfl (by rfl) Tryd.underlying115 rfl el_api_Entry (cs := prArr (k : Int) d) (by rw [← HP.out]; exact hr20) (prArr_size _ _) ?_)
    | (go_at_call 89; (try clear hnew); refine (HKk.out _).mono ?_; rintro e Wk1 ⟨rfl, hnew⟩; replace hst := hst.keep hnew)
    | (refine L_look2 (fk := kInt) (fv := kInt) (y := k) (l := mt j) (d := some 31) rfl rfl rfl keyed_int Tryd.underlying177 el_int (ev_tmp rfl) (ev_tmp rfl) kInt_inj (HK.out j) (HD.out j) HKO.out (by first | exact hst.obj 0 rfl | exact hst.obj 1 rfl) HN.out ?_)
    | (refine L_mapUpd (fk := kInt) (fv := kInt) (l := mt j) (u := k) (v := j) rfl rfl hst rfl keyed_int Tryd.underlying177 (ev_tmp rfl) (ev_tmp rfl) (ev_tmp rfl) kInt_inj (HK.out j) (HD.out j) HKO.out 1 rfl ?_; clear hst; intro WM hst; simp only [List.set_cons_zero, List.set_cons_succ] at hst; rw [HU.out] at hst)
    | (refine L_idxS (d := some 20) rfl rfl rfl (by rfl) (by rfl) Tryd.underlying100 el_api_Entry (by first | exact hst.old (by decide) hx | assumption | exact hst.sl 0 rfl | exact hst.sl 1 rfl | exact hst.sl 2 rfl | exact hst.old (by decide) (by assumption)) (by omega) (by omega) ?_; intro o20 p20 ha20 hr20; (first | subst ha20 | (obtain ⟨h1, h2⟩ := some_addr ha20; subst h1; subst h2; clear ha20) | skip))
    | (first | (refine L_loadA (d := some 21) rfl rfl rfl (by rfl) Tryd.underlying115 rfl el_api_Entry (by first | exact hst.get 0 rfl | exact hst.get 1 rfl | exact hst.get 2 rfl) (by first | exact Dig.size _ | exact prArr_size _ _ | rfl | (simp; done)) ?_) | (refine L_loadM (d := some 21) rfl rfl rfl (by rfl) Tryd.underlying115 rfl el_api_Entry (by first | assumption) (by first | exact Dig.size _ | exact prArr_size _ _ | rfl | (simp; done)) ?_))
    | (refine L_allocA (d := some 6) rfl rfl rfl el_api_Entry ?_; (try clear hnew); intro g6 W6 hnew; replace hst := hst.trans hnew; simp only [List.cons_append, List.nil_append] at hst)
    | (refine wpl_at (.store 115 (.tmp 6) (.tmp 21)) rfl ?_; first | (refine L_storeA rfl rfl hst rfl (by rfl) (ev_tmp rfl) (by first | rfl | exact Dig.one _ | exact prArr_all _ _ | (simp; done)) el_api_Entry (by first | rfl | exact Dig.size _ | exact prArr_size _ _ | (simp; done)) 0 rfl (by first | rfl | exact Dig.size _ | exact prArr_size _ _ | (simp; done)) ?_; clear hst; intro WS5 hst; simp only [List.set_cons_zero, List.set_cons_succ] at hst) | (refine L_storeA rfl rfl hst rfl (by rfl) (ev_tmp rfl) (by first | rfl | exact Dig.one _ | exact prArr_all _ _ | (simp; done)) el_api_Entry (by first | rfl | exact Dig.size _ | exact prArr_size _ _ | (simp; done)) 1 rfl (by first | rfl | exact Dig.size _ | exact prArr_size _ _ | (simp; done)) ?_; clear hst; intro WS5 hst; simp only [List.set_cons_zero, List.set_cons_succ] at hst) | (refine L_storeA rfl rfl hst rfl (by rfl) (ev_tmp rfl) (by first | rfl | exact Dig.one _ | exact prArr_all _ _ | (simp; done)) el_api_Entry (by first | rfl | exact Dig.size _ | exact prArr_size _ _ | (simp; done)) 2 rfl (by first | rfl | exact Dig.size _ | exact prArr_size _ _ | (simp; done)) ?_; clear hst; intro WS5 hst; simp only [List.set_cons_zero, List.set_cons_succ] at hst) | (refine L_storeM rfl rfl hst rfl (by rfl) (ev_tmp rfl) (by first | rfl | exact Dig.one _ | exact prArr_all _ _ | (simp; done)) el_api_Entry (by first | rfl | exact Dig.size _ | exact prArr_size _ _ | (simp; done)) 0 rfl (by first | exact of_decide_eq_true rfl | (simp; done)) ?_; clear hst; intro WS5 hst; simp only [List.set_cons_zero, List.set_cons_succ] at hst)  | (refine L_storeM rfl rfl hst rfl (by rfl) (ev_tmp rfl) (by first | rfl | exact Dig.one _ | exact prArr_all _ _ | (simp; done)) el_api_Entry (by first | rfl | exact Dig.size _ | exact prArr_size _ _ | (simp; done)) 1 rfl (by first | exact of_decide_eq_true rfl | (simp; done)) ?_; clear hst; intro WS5 hst; simp only [List.set_cons_zero, List.set_cons_succ] at hst)  | (refine L_storeM rfl rfl hst rfl (by rfl) (ev_tmp rfl) (by first | rfl | exact Dig.one _ | exact prArr_all _ _ | (simp; done)) el_api_Entry (by first | rfl | exact Dig.size _ | exact prArr_size _ _ | (simp; done)) 2 rfl (by first | exact of_decide_eq_true rfl | (simp; done)) ?_; clear hst; intro WS5 hst; simp only [List.set_cons_zero, List.set_cons_succ] at hst))
    | (refine L_load1 (d := some 23) rfl rfl rfl (by rfl) Tryd.underlying3 rfl (by first | assumption | exact cell_of (hst.get 0 rfl) prArr_0 | exact cell_of (hst.get 0 rfl) rfl | exact cell_of (hst.get 1 rfl) prArr_0 | exact cell_of (hst.get 1 rfl) rfl | exact cell_of (hst.get 2 rfl) prArr_0 | exact cell_of (hst.get 2 rfl) rfl) ?_)
    | (refine L_load1 (d := some 30) rfl rfl rfl (by rfl) Tryd.underlying3 rfl (by first | assumption | exact cell_of (hst.get 0 rfl) prArr_0 | exact cell_of (hst.get 0 rfl) rfl | exact cell_of (hst.get 1 rfl) prArr_0 | exact cell_of (hst.get 1 rfl) rfl | exact cell_of (hst.get 2 rfl) prArr_0 | exact cell_of (hst.get 2 rfl) rfl) ?_)
    | (refine L_load1 (d := some 38) rfl rfl rfl (by rfl) Tryd.underlying3 rfl (by first | assumption | exact cell_of (hst.get 0 rfl) prArr_0 | exact cell_of (hst.get 0 rfl) rfl | exact cell_of (hst.get 1 rfl) prArr_0 | exact cell_of (hst.get 1 rfl) rfl | exact cell_of (hst.get 2 rfl) prArr_0 | exact cell_of (hst.get 2 rfl) rfl) ?_)
    | fail)
   go_roundg (gk - 1)
   case measure => have hi := HI.out; omega
   case rel =>
    have hi := HI.out
    exact ⟨j + 1, Lib.hid (by omega), by go_num, hst.pick [1] (by decide)⟩
  ·clear hi HI
   go_wp2_with (first
    | (go_at_call 110; (try clear hnew); refine (HC.out _ (hst.old (by decide) hx)).mono ?_; rintro e Wc ⟨O, oc, rfl, hnew⟩; replace hst := hst.trans hnew; simp only [List.cons_append, List.nil_append] at hst)
    | (go_at_call 111; (try clear hnew); refine (HO.out _ _ _ _ _ hst).mono ?_; rintro e Ws ⟨rfl, ds, hp, hs, hst'⟩; clear hst; have hst := hst'; clear hst')
    | fail)
   go_ret2
   obtain ⟨h1, h2⟩ := HS.out ds hp hs
   exact ⟨ds.map kdN, O, oc, rfl, h1, h2, hst.pick [0] (by decide)⟩
end Go.Proofs.YtaebeemnipafbaaDoor

set_option maxRecDepth 20000
set_option linter.unusedSimpArgs false
set_option linter.unusedVariables false
namespace Go.Proofs.YtaebeemnipafbaaDoor
open Go.RowKit
open Go.Maps (Keyed)
def sV (l : List UInt8) : Value := .string (bsOf l)
def lsV (x : NoteN × Nat × Dig) : Value := .agg (lsArr x.1.name x.1.key x.1.turn (x.2.1 : Int) x.2.2)
theorem sV_inj (x y : List UInt8) (h : sV x = sV y) : x = y := by
 simp only [sV, Value.string.injEq] at h
 exact bsOf_inj h
theorem keyed_str : Keyed Tryd.prog 9 := Go.Maps.string_keyed Tryd.underlying9
theorem sV_ok {l : List UInt8} (h : isNm l = true) : KeyOk Tryd.prog 9 sV l := ⟨_, Go.WideMaps.keyOf_string_mk Tryd.underlying9 (by rw [bsOf_size]; have := isNm_len h; simp only [maxLen]; omega)⟩
theorem el_string : ElemIs Tryd.prog 9 (.string (bsOf [])) 1 16 := by unfold ElemIs; kernel_rfl
structure LgP where
 (g m c lc Mn Ma : Nat)
 (A O : Option Addr)
 nm : List (List UInt8 × (NoteN × Nat × Dig))
 am : List (Nat × List UInt8)
def lgL (p : LgP) (key : List UInt8) (ns : List NoteN) : List Res :=
 [.blk p.g 96 (lgArr p.A p.m p.c p.O ns.length p.lc p.Mn p.Ma), .row p.A p.m p.c 5 1 (bytesL key), .row p.O ns.length p.lc 30 32 (digsL (lvN ns)), .obj p.Mn (mpO sV lsV p.nm), .obj p.Ma (mpO kInt sV p.am)]
theorem MapsOf.ksO {ns : List NoteN} {nm : List (List UInt8 × (NoteN × Nat × Dig))} {am : List (Nat × List UInt8)} (h : MapsOf ns nm am) : ∀ p ∈ nm, KeyOk Tryd.prog 9 sV p.1 := fun p hp => sV_ok (h.ks p hp)
theorem MapsOf.ksOA {ns : List NoteN} {nm : List (List UInt8 × (NoteN × Nat × Dig))} {am : List (Nat × List UInt8)} (h : MapsOf ns nm am) : ∀ p ∈ am, KeyOk Tryd.prog 3 kInt p.1 := fun p hp => kInt_ok (by have := (h.ksA p hp).1; omega)
section
variable {ops : Array Oper} {rest : List Oper} {o : Oper} {a : Act} {W : World} {Q : Exit → Act → World → Prop} {d : Option Tmp}
theorem L_buildLg (hd : o.dst = d) (hw : Region.wanted o (yielded ops a.tmps) = true) {x y z : Operand} (ho : o.op = .build 96 #[(0, x), (2, y), (3, z)]) {A : Option Addr} {m c u v : Nat} (hx : a.eval x = .slice A m c) (hy : a.eval y = .map (some u)) (hz : a.eval z = .map (some v))
  (h : wpList Tryd.prog ops Q rest (a.put d (.agg (lgArr A m c none 0 0 u v))) W) : wpList Tryd.prog ops Q (o :: rest) a W :=
 L_buildT hd hw ho Tryd.underlying96 el_log_Log [(0, 1), (1, 1), (2, 1), (3, 1)] (by kernel_rfl) (ps := [(0, .slice A m c), (2, .map (some u)), (3, .map (some v))]) (by simp [hx, hy, hz]) (qs := [(0, [.slice A m c]), (2, [.map (some u)]), (3, [.map (some v)])])
  ⟨rfl, rfl, by simp, rfl, rfl, by simp, rfl, rfl, by simp, trivial⟩ rfl h
end
theorem lgArr_all (A : Option Addr) (m c : Nat) (B : Option Addr) (p q x y : Nat) : (lgArr A m c B p q x y).all (·.oneCell') = true := by simp [lgArr, Value.oneCell']
set_option maxHeartbeats 1000000 in
theorem lnew_any (key : List UInt8) (K : Option Addr) (m c : Nat) (w : World) (hk : SlR w K m c 1 (bytesL key)) (hm : m ≤ 140737488355000) :
  Calls Tryd.prog 22 #[.slice K m c] w fun e w' => ∃ p : LgP, e = .returned (.pointer (some ⟨p.g, 0, none⟩)) ∧ p.m = m ∧ MapsOf [] p.nm p.am ∧ St w w' (lgL p key []) := by
 have hst := St.refl w
 have HC := Lib.hid (fun (w' : World) (h : SlR w' K m c 1 (bytesL key)) => cloneB_any key K m c w' h (by omega))
 go_enter Tryd.func22, Tryd.ntmps22
 go_upto_region 1 with (go_big_may; first
  | fail)
 go_wp2_with (first
  | (go_at_call 63; (try clear hnew); refine (HC.out _ (hst.old (by decide) hk)).mono ?_; rintro e Wc ⟨O, oc, rfl, hnew⟩; replace hst := hst.trans hnew; simp only [List.cons_append, List.nil_append] at hst)
  | (refine L_makeMap sV lsV (d := some 5) rfl rfl rfl ?_; (try clear hnew); intro Mn W5 hnew; replace hst := hst.trans hnew; simp only [List.cons_append, List.nil_append] at hst)
  | (refine L_makeMap kInt sV (d := some 6) rfl rfl rfl ?_; (try clear hnew); intro Ma W6 hnew; replace hst := hst.trans hnew; simp only [List.cons_append, List.nil_append] at hst)
  | (refine L_buildLg (d := some 7) rfl rfl rfl (ev_tmp rfl) (ev_tmp rfl) (ev_tmp rfl) ?_)
  | (refine L_boxA (d := some 8) rfl rfl rfl (ev_tmp rfl) ?_; (try clear hnew); intro g8 W8 hnew; replace hst := hst.trans hnew; simp only [List.cons_append, List.nil_append] at hst)
  | fail)
 go_ret
 exact ⟨⟨g8, m, oc, 0, Mn, Ma, O, none, [], []⟩, rfl, rfl, MapsOf.nil, (hst.nilRow 30 32).pick [1, 4, 0, 3, 2] (by decide)⟩
end Go.Proofs.YtaebeemnipafbaaDoor

set_option maxRecDepth 20000
set_option linter.unusedSimpArgs false
set_option linter.unusedVariables false
namespace Go.Proofs.YtaebeemnipafbaaDoor
open Go.RowKit
theorem len_byte (n : Nat) (h : n < 256) : IntKind.u8.wrap (n : Int) = ((UInt8.ofNat n).toNat : Int) := by
 rw [UInt8.toNat_ofNat']
 show (n : Int) % 256 = _
 omega
def writeE (n : NoteN) : Nat := if isNm n.name = true then (if 0 ≤ n.turn ∧ n.turn < 4294967296 then 0 else 2) else 1
attribute [local simp] ntArr_size
theorem ntKey_sl {W : World} {g t : Nat} {s : List UInt8} {k : Dig} {n : Int} {fr : Nat × Nat} (h : W.heap[g]? = some (.cells (ntArr s k n) t fr)) : SlR W (some ⟨g, 1, none⟩) 32 32 1 (bytesL k.l) :=
 ⟨by rw [length_bytesL, k.h], Nat.le_refl _, by decide, fun _ => ⟨g, 1, rfl, by have := ntArr_key h; rwa [Dig.toList] at this⟩⟩
set_option maxHeartbeats 4000000 in
set_option maxRecDepth 100000 in
theorem nwrite_any (n : NoteN) (w : World) (h : noteOk n = true) :
  Calls Tryd.prog 37 #[.agg (ntArr n.name n.key n.turn)] w fun e w' => ∃ A c, e = .returned (.tuple #[.slice A (noteB n).length c, .nilIface]) ∧ St w w' [.row A (noteB n).length c 5 1 (bytesL (noteB n))] := by
 have hst := St.refl w
 have h' := h
 unfold noteOk at h'
 rw [Bool.and_eq_true] at h'
 obtain ⟨h1, h3⟩ := h'
 have h2 := of_decide_eq_true h3
 clear h3
 have hl := isNm_len h1
 have HN := Lib.hid (fun w => by have := named_any n.name w; rw [h1] at this; exact this)
 obtain ⟨t, ht⟩ := Int.eq_ofNat_of_zero_le h2.1
 have hB := length_noteB n
 have HB := Lib.hid (show noteB n = [UInt8.ofNat n.name.length] ++ (n.name ++ (n.key.l ++ bigE 4 t)) by rw [noteB, ht]; rfl)
 have HP := Lib.hid (fun w : World => oput_any t 4 w (by decide) (by decide) (by omega) (fun _ => by rw [Nat.shiftRight_eq_div_pow]; omega))
 generalize noteB n = bs at *
 obtain ⟨s, k, m⟩ := n
 simp only at *
 have HL := Lib.hid (len_byte s.length (by omega))
 have hz := Lib.hid (bsOf_size s)
 have HBl := Lib.hid hB
 clear hB
 subst ht
 clear h h1 h2
 go_enter Tryd.func37, Tryd.ntmps37
 go_upto_region 1 with (go_big_may; (refine L_boxA (d := some 1) rfl rfl rfl (ev_tmp rfl) ?_; (try clear hnew); intro g1 W1 hnew; replace hst := hst.trans hnew; simp only [List.cons_append, List.nil_append] at hst))
 go_upto_region 3 with (go_big_may; first | (go_at_call 52; (try clear hnew); refine (HN.out _).mono ?_; rintro e Wk1 ⟨rfl, hnew⟩; replace hst := hst.keep hnew) | (refine L_load1 (d := some 7) rfl rfl rfl (by rfl) Tryd.underlying9 rfl (by (exact cell_of (hst.get 0 rfl) ntArr_0)) ?_))
 go_upto_region 4 with (go_big_may; first | (go_at_call 66; refine (HP.out _).mono ?_; rintro e Wp ⟨Op, rfl, hnew⟩; replace hst := hst.trans hnew; simp only [List.cons_append, List.nil_append] at hst; clear hnew) | (refine L_load1 (d := some 13) rfl rfl rfl (by rfl) Tryd.underlying3 rfl (by (exact cell_of (hst.get 0 rfl) ntArr_33)) ?_))
 go_upto_region 6 with (go_big_may; fail)
 have HU := Lib.hid (show [Value.int .u8 (((bsOf s).size : Int) % 256)] = bytesL [UInt8.ofNat s.length] from by
  rw [hz.out]
  exact congrArg (fun x => [Value.int .u8 x]) HL.out)
 refine wp_region_pm (.one 10 3 (.one 0 0 (.one 1 0 (.one 2 0 (.one 3 3 (.one 5 0 (.one 6 0 (.one 8 0 (.one 9 0 (.two 4 2 (.one 7 2 (.one 11 2 (.one 12 2 (.one 13 2 (.one 14 2 .nil))))) 7 2 (.one 4 2 (.one 11 2 (.one 12 2 (.one 13 2 (.one 14 2 .nil))))))))))))))) (by kernel_rfl) (by kernel_rfl) ?_
 replace hst := hst.drew
 refine pm_p rfl rfl ?_; go_wp2_with fail
 refine pm_qf rfl rfl (by kernel_rfl) ?_; go_wp2_with fail
 refine pm_q rfl rfl ?_; go_wp2_with ((refine L_load1 (d := some 21) rfl rfl rfl (by rfl) Tryd.underlying9 rfl (by (exact cell_of (hst.get 1 rfl) ntArr_0)) ?_))
 refine pm_q rfl rfl ?_; go_wp2_with (fail)
 refine pm_pv rfl (pureV_convert rfl (by rfl) Tryd.underlying3 Tryd.underlying5) ?_; go_wp2_with fail
 refine pm_qf rfl rfl (by kernel_rfl) ?_; go_wp2_with fail
 refine pm_q rfl rfl ?_; go_wp2_with ((refine L_load1 (d := some 26) rfl rfl rfl (by rfl) Tryd.underlying9 rfl (by (exact cell_of (hst.get 1 rfl) ntArr_0)) ?_))
 refine pm_qf rfl rfl (by kernel_rfl) ?_; go_wp2_with fail
 refine pm_q rfl rfl ?_; go_wp2_with ((refine L_sliceMid (d := some 29) rfl rfl rfl (by rfl) Tryd.underlying30 el_uint8 (by (exact ntArr_key (hst.get 1 rfl))) (Dig.size _) (by decide) ?_; intro hs29))
 refine pm_two (ki := 2) (kj := 2) rfl rfl ?_ ?_
 ·go_wp2_with ((refine L_buildS (d := some 24) rfl rfl rfl [_] (bs_1 (ev_tmp rfl)) rfl Tryd.underlying22 el_uint8 rfl (by (simp [Value.cells]; done)) (by decide) (by decide) ?_; (try clear hnew); intro g24 W24 hnew; replace hst := hst.trans hnew; simp only [List.cons_append, List.nil_append] at hst; simp only [List.flatMap_cons, List.flatMap_nil, List.append_nil, Value.cells, List.toList_toArray] at hst)); refine ⟨fun _ => (by (exact hnew.below)), ?_⟩
  refine pm_g rfl ?_; go_wp2_with ((refine L_convSB (d := some 27) rfl rfl rfl (ev_tmp rfl) Tryd.underlying22 Tryd.underlying9 Tryd.underlying5 (by (omega)) ?_; (try clear hnew); intro g27 cap27 ob27 W27 hnew hsb27; replace hst := hst.trans hnew; simp only [List.cons_append, List.nil_append] at hst)); refine ⟨by (exact hnew.below), ?_⟩
  refine pm_g rfl ?_; go_wp2_with ((refine L_buildS (d := some 31) rfl rfl rfl [_, _, _, _] (bs_4 (ev_tmp rfl) (ev_tmp rfl) (ev_tmp rfl) (ev_tmp rfl)) rfl Tryd.underlying83 el_S_uint8 rfl (by (simp [Value.cells]; done)) (by decide) (by decide) ?_; (try clear hnew); intro g31 W31 hnew; replace hst := hst.trans hnew; simp only [List.cons_append, List.nil_append] at hst; simp only [List.flatMap_cons, List.flatMap_nil, List.append_nil, Value.cells, List.toList_toArray] at hst)); refine ⟨by (exact hnew.below), ?_⟩
  refine pm_g rfl ?_; go_wp2_with ((go_at_call 68; (try clear hnew); ((refine (concat4_any [UInt8.ofNat s.length] s k.l (bigE 4 t) _ _ _ _ _ _ _ _ _ _ _ _ _ _ _ (hst.sl 0 rfl) (by rw [← HU.out]; exact hst.sl 2 rfl) (hsb27 _ (hst.at_ 1 rfl)) (ntKey_sl (hst.get 4 rfl)) (hst.sl 3 rfl) (by omega)).mono ?_)); rintro e Wc ⟨Oc, oc, rfl, hnew⟩; replace hst := hst.trans hnew; simp only [List.cons_append, List.nil_append] at hst)); refine ⟨by (exact hnew.below), ?_⟩
  refine pm_g rfl ?_; go_wp2_with fail; refine ⟨by (exact Below.refl _ _), ?_⟩
  refine pm_g rfl ?_; go_wp2_with fail; refine ⟨by (exact Below.refl _ _), ?_⟩
  refine pm_nil ?_
  go_wp2_with fail
  go_ret2
  rw [HBl.out, show s.length + 37 = 1 + s.length + 32 + 4 by omega, HB.out]
  exact ⟨Oc, oc, rfl, hst.pick [0] (by decide)⟩
 ·go_wp2_with ((refine L_convSB (d := some 27) rfl rfl rfl (ev_tmp rfl) Tryd.underlying22 Tryd.underlying9 Tryd.underlying5 (by (omega)) ?_; (try clear hnew); intro g27 cap27 ob27 W27 hnew hsb27; replace hst := hst.trans hnew; simp only [List.cons_append, List.nil_append] at hst)); refine ⟨fun _ => (by (exact hnew.below)), ?_⟩
  refine pm_g rfl ?_; go_wp2_with ((refine L_buildS (d := some 24) rfl rfl rfl [_] (bs_1 (ev_tmp rfl)) rfl Tryd.underlying22 el_uint8 rfl (by (simp [Value.cells]; done)) (by decide) (by decide) ?_; (try clear hnew); intro g24 W24 hnew; replace hst := hst.trans hnew; simp only [List.cons_append, List.nil_append] at hst; simp only [List.flatMap_cons, List.flatMap_nil, List.append_nil, Value.cells, List.toList_toArray] at hst)); refine ⟨by (exact hnew.below), ?_⟩
  refine pm_g rfl ?_; go_wp2_with ((refine L_buildS (d := some 31) rfl rfl rfl [_, _, _, _] (bs_4 (ev_tmp rfl) (ev_tmp rfl) (ev_tmp rfl) (ev_tmp rfl)) rfl Tryd.underlying83 el_S_uint8 rfl (by (simp [Value.cells]; done)) (by decide) (by decide) ?_; (try clear hnew); intro g31 W31 hnew; replace hst := hst.trans hnew; simp only [List.cons_append, List.nil_append] at hst; simp only [List.flatMap_cons, List.flatMap_nil, List.append_nil, Value.cells, List.toList_toArray] at hst)); refine ⟨by (exact hnew.below), ?_⟩
  refine pm_g rfl ?_; go_wp2_with ((go_at_call 68; (try clear hnew); ((refine (concat4_any [UInt8.ofNat s.length] s k.l (bigE 4 t) _ _ _ _ _ _ _ _ _ _ _ _ _ _ _ (hst.sl 0 rfl) (by rw [← HU.out]; exact hst.sl 1 rfl) (hsb27 _ (hst.at_ 2 rfl)) (ntKey_sl (hst.get 4 rfl)) (hst.sl 3 rfl) (by omega)).mono ?_)); rintro e Wc ⟨Oc, oc, rfl, hnew⟩; replace hst := hst.trans hnew; simp only [List.cons_append, List.nil_append] at hst)); refine ⟨by (exact hnew.below), ?_⟩
  refine pm_g rfl ?_; go_wp2_with fail; refine ⟨by (exact Below.refl _ _), ?_⟩
  refine pm_g rfl ?_; go_wp2_with fail; refine ⟨by (exact Below.refl _ _), ?_⟩
  refine pm_nil ?_
  go_wp2_with fail
  go_ret2
  rw [HBl.out, show s.length + 37 = 1 + s.length + 32 + 4 by omega, HB.out]
  exact ⟨Oc, oc, rfl, hst.pick [0] (by decide)⟩
set_option maxHeartbeats 4000000 in
set_option maxRecDepth 100000 in
theorem nwrite_no (n : NoteN) (w : World) (h : noteOk n = false) (hn1 : -9223372036854775808 ≤ n.turn) (hn2 : n.turn ≤ 9223372036854775807) :
  Calls Tryd.prog 37 #[.agg (ntArr n.name n.key n.turn)] w fun e w' => ∃ r, r ≠ 0 ∧ e = .returned (.tuple #[.slice none 0 0, errV r]) ∧ St w w' [] := by
 have hst := St.refl w
 obtain ⟨s, k, m⟩ := n
 simp only [noteOk] at h hn1 hn2
 cases hN : isNm s with
 | false =>
  have HN := Lib.hid (fun w => by have := named_any s w; rw [hN] at this; exact this)
  clear h hN
  go_enter Tryd.func37, Tryd.ntmps37
  go_upto_region 1 with (go_big_may; (refine L_boxA (d := some 1) rfl rfl rfl (ev_tmp rfl) ?_; (try clear hnew); intro g1 W1 hnew; replace hst := hst.trans hnew; simp only [List.cons_append, List.nil_append] at hst))
  go_upto_region 2 with (go_big_may; first | (go_at_call 52; (try clear hnew); refine (HN.out _).mono ?_; rintro e Wk2 ⟨rfl, hnew⟩; replace hst := hst.keep hnew) | (refine L_load1 (d := some 7) rfl rfl rfl (by rfl) Tryd.underlying9 rfl (by (exact cell_of (hst.get 0 rfl) ntArr_0)) ?_))
  go_wp2_with (fail)
  go_ret2
  exact ⟨1, by decide, rfl, hst.forget⟩
 | true =>
  rw [hN, Bool.true_and] at h
  have h1 := of_decide_eq_false h
  have HN := Lib.hid (fun w => by have := named_any s w; rw [hN] at this; exact this)
  have HP := Lib.hid (fun w => oput_no m 4 w hn1 hn2 (by decide) (by decide) (by
   unfold putNo
   by_cases h0 : m < 0
   ·exact .inr (.inr (.inl h0))
   ·refine .inr (.inr (.inr ⟨by decide, ?_⟩))
    show 0 < m / 4294967296
    omega))
  clear h hN h1 hn1 hn2
  go_enter Tryd.func37, Tryd.ntmps37
  go_upto_region 1 with (go_big_may; (refine L_boxA (d := some 1) rfl rfl rfl (ev_tmp rfl) ?_; (try clear hnew); intro g1 W1 hnew; replace hst := hst.trans hnew; simp only [List.cons_append, List.nil_append] at hst))
  go_upto_region 3 with (go_big_may; first | (go_at_call 52; (try clear hnew); refine (HN.out _).mono ?_; rintro e Wk3 ⟨rfl, hnew⟩; replace hst := hst.keep hnew) | (refine L_load1 (d := some 7) rfl rfl rfl (by rfl) Tryd.underlying9 rfl (by (exact cell_of (hst.get 0 rfl) ntArr_0)) ?_))
  go_upto_region 4 with (go_big_may; first | (go_at_call 66; refine (HP.out _).mono ?_; unfold errV; rintro e Wp ⟨rfl, hnew⟩; replace hst := hst.keep hnew; clear hnew) | (refine L_load1 (d := some 13) rfl rfl rfl (by rfl) Tryd.underlying3 rfl (by (exact cell_of (hst.get 0 rfl) ntArr_33)) ?_))
  go_upto_region 5 with (go_big_may; fail)
  go_wp2_with (fail)
  go_ret2
  exact ⟨2, by decide, rfl, hst.forget⟩
set_option maxHeartbeats 2000000 in
set_option maxRecDepth 100000 in
theorem leafOf_any (n : NoteN) (w : World) (hT : Tb w) (h : noteOk n = true) :
  Calls Tryd.prog 55 #[.agg (ntArr n.name n.key n.turn)] w fun e w' => e = .returned (.tuple #[(ntLeaf n).v, .nilIface]) ∧ St w w' [] := by
 have hst := St.refl w
 have HT := Lib.hid hT
 have HW := Lib.hid (fun w => nwrite_any n w h)
 have hl : (noteB n).length ≤ 67 := by
  have h1 := h
  unfold noteOk at h1
  rw [Bool.and_eq_true] at h1
  have := isNm_len h1.1
  rw [length_noteB]
  omega
 have HD := Lib.hid (show ntLeaf n = leafBN (noteB n) from rfl)
 obtain ⟨s, k, m⟩ := n
 generalize ntLeaf ⟨s, k, m⟩ = df at *
 generalize noteB ⟨s, k, m⟩ = bs at *
 simp only at HW
 clear hT h
 go_enter Tryd.func55, Tryd.ntmps55
 go_upto_region 1 with (go_big_may; first | (refine L_boxA (d := some 1) rfl rfl rfl (ev_tmp rfl) ?_; (try clear hnew); intro g1 W1 hnew; replace hst := hst.trans hnew; simp only [List.cons_append, List.nil_append] at hst) | (refine L_allocA (d := some 2) rfl rfl rfl el_api_Digest ?_; (try clear hnew); intro g2 W2 hnew; replace hst := hst.trans hnew; simp only [List.cons_append, List.nil_append] at hst))
 go_upto_region 2 with (go_big_may; first | (go_at_call 37; (try clear hnew); refine (HW.out _).mono ?_; rintro e Wp ⟨Ow, cw, rfl, hnew⟩; replace hst := hst.trans hnew; simp only [List.cons_append, List.nil_append] at hst) | ((refine L_loadA (d := some 7) rfl rfl rfl (by rfl) Tryd.underlying35 rfl el_api_Note (by (exact hst.get 1 rfl)) (by (exact ntArr_size _ _ _)) ?_)))
 go_upto_region 4 with (go_big_may; fail)
 go_wp2_with (first | (go_at_call 91; (try clear hnew); refine (tleaf_any bs _ _ _ _ (HT.out.of hst) (hst.sl 0 rfl) (by omega)).mono ?_; rintro e Wk4 ⟨rfl, hnew⟩; replace hst := hst.keep hnew) | (refine wpl_at (.store 30 (.tmp 2) (.tmp 16)) rfl ?_; (refine L_storeA rfl rfl hst rfl (by rfl) (ev_tmp rfl) (by (exact Dig.one _)) el_api_Digest (by (rfl)) 1 rfl (by (rfl)) ?_; clear hst; intro WS2 hst; simp only [List.set_cons_zero, List.set_cons_succ] at hst)))
 refine bp_cell_tmp rfl rfl rfl rfl (hst.get 1 rfl) Tryd.underlying30 rfl el_api_Digest (by (rfl)) ?_
 rw [HD.out]
 exact ⟨rfl, hst.forget⟩
set_option maxHeartbeats 2000000 in
set_option maxRecDepth 100000 in
theorem leafOf_no (n : NoteN) (w : World) (h : noteOk n = false) (hn1 : -9223372036854775808 ≤ n.turn) (hn2 : n.turn ≤ 9223372036854775807) :
  Calls Tryd.prog 55 #[.agg (ntArr n.name n.key n.turn)] w fun e w' => ∃ r, r ≠ 0 ∧ e = .returned (.tuple #[zeroD.v, errV r]) ∧ St w w' [] := by
 have hst := St.refl w
 have HW := Lib.hid (fun w => nwrite_no n w h hn1 hn2)
 obtain ⟨s, k, m⟩ := n
 simp only at HW
 clear h hn1 hn2
 go_enter Tryd.func55, Tryd.ntmps55
 go_upto_region 1 with (go_big_may; first | (refine L_boxA (d := some 1) rfl rfl rfl (ev_tmp rfl) ?_; (try clear hnew); intro g1 W1 hnew; replace hst := hst.trans hnew; simp only [List.cons_append, List.nil_append] at hst) | (refine L_allocA (d := some 2) rfl rfl rfl el_api_Digest ?_; (try clear hnew); intro g2 W2 hnew; replace hst := hst.trans hnew; simp only [List.cons_append, List.nil_append] at hst))
 go_upto_region 2 with (go_big_may; first | (go_at_call 37; (try clear hnew); refine (HW.out _).mono ?_; unfold errV; rintro e Wp ⟨r, hr, rfl, hnew⟩; replace hst := hst.keep hnew) | ((refine L_loadA (d := some 7) rfl rfl rfl (by rfl) Tryd.underlying35 rfl el_api_Note (by (exact hst.get 1 rfl)) (by (exact ntArr_size _ _ _)) ?_)))
 go_upto_region 3 with (go_big_may; fail)
 go_wp2_with (first | (refine L_build0 (d := some 13) rfl rfl rfl Tryd.underlying30 el_uint8 el_api_Digest ?_) | (refine wpl_at (.store 30 (.tmp 2) (.tmp 13)) rfl ?_; (refine L_storeA rfl rfl hst rfl (by rfl) (ev_tmp rfl) (by (exact Dig.one _)) el_api_Digest (by (rfl)) 0 rfl (by (rfl)) ?_; clear hst; intro WS2 hst; simp only [List.set_cons_zero, List.set_cons_succ] at hst)))
 refine bp_cell_tmp rfl rfl rfl rfl (hst.get 0 rfl) Tryd.underlying30 rfl el_api_Digest (by (rfl)) ?_
 exact ⟨r, hr, rfl, hst.forget⟩
end Go.Proofs.YtaebeemnipafbaaDoor

set_option maxRecDepth 20000
set_option linter.unusedSimpArgs false
set_option linter.unusedVariables false
namespace Go.Proofs.YtaebeemnipafbaaDoor
open Go.RowKit
attribute [local simp] prArr_size
theorem lgArr_fit (A : Option Addr) (m c : Nat) (B : Option Addr) (p q x y : Nat) : (lgArr A m c B p q x y).size = 4 := rfl
def AddEnd (key : List UInt8) (ns : List NoteN) (s : List UInt8) (k : Dig) (p : LgP) (w0 : World) (L : List Res) (e : Ending) (w' : World) : Prop :=
 (addE ns s = 0 ∧ e = .returned (.tuple #[.int .i64 (ns.length : Int), .nilIface]) ∧ ∃ p' : LgP, p'.g = p.g ∧ p'.m = p.m ∧ MapsOf (ns ++ [newN ns s k]) p'.nm p'.am ∧ St w0 w' (lgL p' key (ns ++ [newN ns s k]) ++ L)) ∨
 (addE ns s ≠ 0 ∧ e = .returned (.tuple #[.int .i64 0, errV (addE ns s)]) ∧ St w0 w' (lgL p key ns ++ L))
set_option maxHeartbeats 2000000 in
set_option maxRecDepth 100000 in
theorem add_unnamed (key : List UInt8) (ns : List NoteN) (s : List UInt8) (k : Dig) (p : LgP) (w0 w : World) (L : List Res) (hst : St w0 w (lgL p key ns ++ L)) (hs : isNm s = false) :
  Calls Tryd.prog 24 #[.pointer (some ⟨p.g, 0, none⟩), .string (bsOf s), k.v] w (AddEnd key ns s k p w0 L) := by
 have HN := Lib.hid (fun w => by have := named_any s w; rw [hs] at this; exact this)
 have HE := Lib.hid (show addE ns s = 1 by unfold addE; rw [hs]; rfl)
 generalize hres : lgL p key ns ++ L = R at *
 have HR := Lib.hid hres
 clear hs hres
 go_enter Tryd.func24, Tryd.ntmps24
 go_upto_region 1 with (go_big_may; first
  | (refine L_boxA (d := some 5) rfl rfl rfl (ev_tmp rfl) ?_; (try clear hnew); intro g5 W5 hnew; replace hst := hst.trans hnew; simp only [List.cons_append, List.nil_append] at hst)
  | fail)
 go_upto_region 2 with (go_big_may; first
  | (go_at_call 52; (try clear hnew); refine (HN.out _).mono ?_; rintro e Wk1 ⟨rfl, hnew⟩; replace hst := hst.keep hnew)
  | fail)
 go_wp2_with (first
  | fail)
 go_ret2
 refine .inr ⟨by rw [HE.out]; decide, by rw [HE.out]; rfl, ?_⟩
 rw [HR.out]
 exact hst.tail
set_option maxHeartbeats 4000000 in
set_option maxRecDepth 100000 in
theorem add_full1 (key : List UInt8) (ns : List NoteN) (s : List UInt8) (k : Dig) (p : LgP) (w0 w : World) (L : List Res) (hst : St w0 w (lgL p key ns ++ L)) (hm : MapsOf ns p.nm p.am) (hs : isNm s = true) (hf : 256 ≤ ns.length) :
  Calls Tryd.prog 24 #[.pointer (some ⟨p.g, 0, none⟩), .string (bsOf s), k.v] w (AddEnd key ns s k p w0 L) := by
 have HN := Lib.hid (fun w => by have := named_any s w; rw [hs] at this; exact this)
 have HE := Lib.hid (show addE ns s = 4 by unfold addE; rw [if_pos hs, if_pos (.inl hf)])
 have HO := Lib.hid hm.ksO
 have HD := Lib.hid hm.nd
 have HS := Lib.hid (sV_ok hs)
 have hf2 : (256 : Int) ≤ (ns.length : Int) := by omega
 simp only [lgL, List.cons_append, List.nil_append] at hst
 obtain ⟨g, m, c, lc, Mn, Ma, A, O, nm, am⟩ := p
 simp only at *
 cases hr : lookA s nm with
 | none =>
  have HL := Lib.hid hr
  clear hs hf hm hr
  go_enter Tryd.func24, Tryd.ntmps24
  go_upto_region 1 with (go_big_may; first
   | (refine L_boxA (d := some 5) rfl rfl rfl (ev_tmp rfl) ?_; (try clear hnew); intro g5 W5 hnew; replace hst := hst.trans hnew; simp only [List.cons_append, List.nil_append] at hst)
   | fail)
  go_upto_region 3 with (go_big_may; first
   | (go_at_call 52; (try clear hnew); refine (HN.out _).mono ?_; rintro e Wk2 ⟨rfl, hnew⟩; replace hst := hst.keep hnew)
   | fail)
  go_upto_region 4 with (go_big_may; first
   | (refine L_look2n (fk := sV) (fv := lsV) (y := s) (l := nm) (d := some 26) rfl rfl rfl keyed_str Tryd.underlying93 el_log_last (ev_tmp rfl) (ev_tmp rfl) sV_inj HO.out HD.out HS.out (hst.obj 4 rfl) HL.out ?_)
   | (refine L_load1 (d := some 24) rfl rfl rfl (by rfl) Tryd.underlying93 rfl (by first | assumption | exact cell_of (hst.get 0 rfl) lgArr_0 | exact cell_of (hst.get 0 rfl) lgArr_1 | exact cell_of (hst.get 0 rfl) lgArr_2 | exact cell_of (hst.get 0 rfl) lgArr_3 | exact cell_of (hst.get 0 rfl) rfl | exact cell_of (hst.get 1 rfl) lgArr_0 | exact cell_of (hst.get 1 rfl) lgArr_1 | exact cell_of (hst.get 1 rfl) lgArr_2 | exact cell_of (hst.get 1 rfl) lgArr_3 | exact cell_of (hst.get 1 rfl) rfl | exact cell_of (hst.get 2 rfl) lgArr_0 | exact cell_of (hst.get 2 rfl) lgArr_1 | exact cell_of (hst.get 2 rfl) lgArr_2 | exact cell_of (hst.get 2 rfl) lgArr_3 | exact cell_of (hst.get 2 rfl) rfl) ?_)
   | (refine L_allocA (d := some 8) rfl rfl rfl el_log_last ?_; (try clear hnew); intro g8 W8 hnew; replace hst := hst.trans hnew; simp only [List.cons_append, List.nil_append] at hst)
   | (refine wpl_at (.store 123 (.tmp 8) (.tmp 27)) rfl ?_; first | (refine L_storeA rfl rfl hst rfl (by rfl) (ev_tmp rfl) (by first | rfl | exact Dig.one _ | exact lsArr_all _ _ _ _ _ | (simp; done)) el_log_last (by first | rfl | exact Dig.size _ | exact lsArr_size _ _ _ _ _ | (simp; done)) 0 rfl (by first | rfl | exact Dig.size _ | exact lsArr_size _ _ _ _ _ | (simp; done)) ?_; clear hst; intro WS10 hst; simp only [List.set_cons_zero, List.set_cons_succ] at hst) | (refine L_storeA rfl rfl hst rfl (by rfl) (ev_tmp rfl) (by first | rfl | exact Dig.one _ | exact lsArr_all _ _ _ _ _ | (simp; done)) el_log_last (by first | rfl | exact Dig.size _ | exact lsArr_size _ _ _ _ _ | (simp; done)) 1 rfl (by first | rfl | exact Dig.size _ | exact lsArr_size _ _ _ _ _ | (simp; done)) ?_; clear hst; intro WS10 hst; simp only [List.set_cons_zero, List.set_cons_succ] at hst) | (refine L_storeA rfl rfl hst rfl (by rfl) (ev_tmp rfl) (by first | rfl | exact Dig.one _ | exact lsArr_all _ _ _ _ _ | (simp; done)) el_log_last (by first | rfl | exact Dig.size _ | exact lsArr_size _ _ _ _ _ | (simp; done)) 2 rfl (by first | rfl | exact Dig.size _ | exact lsArr_size _ _ _ _ _ | (simp; done)) ?_; clear hst; intro WS10 hst; simp only [List.set_cons_zero, List.set_cons_succ] at hst) | (refine L_storeM rfl rfl hst rfl (by rfl) (ev_tmp rfl) (by first | rfl | exact Dig.one _ | exact lsArr_all _ _ _ _ _ | (simp; done)) el_log_last (by first | rfl | exact Dig.size _ | exact lsArr_size _ _ _ _ _ | (simp; done)) 0 rfl (by first | exact of_decide_eq_true rfl | (simp; done)) ?_; clear hst; intro WS10 hst; simp only [List.set_cons_zero, List.set_cons_succ] at hst)  | (refine L_storeM rfl rfl hst rfl (by rfl) (ev_tmp rfl) (by first | rfl | exact Dig.one _ | exact lsArr_all _ _ _ _ _ | (simp; done)) el_log_last (by first | rfl | exact Dig.size _ | exact lsArr_size _ _ _ _ _ | (simp; done)) 1 rfl (by first | exact of_decide_eq_true rfl | (simp; done)) ?_; clear hst; intro WS10 hst; simp only [List.set_cons_zero, List.set_cons_succ] at hst)  | (refine L_storeM rfl rfl hst rfl (by rfl) (ev_tmp rfl) (by first | rfl | exact Dig.one _ | exact lsArr_all _ _ _ _ _ | (simp; done)) el_log_last (by first | rfl | exact Dig.size _ | exact lsArr_size _ _ _ _ _ | (simp; done)) 2 rfl (by first | exact of_decide_eq_true rfl | (simp; done)) ?_; clear hst; intro WS10 hst; simp only [List.set_cons_zero, List.set_cons_succ] at hst))
   | fail)
  go_upto_region 5 with (first
   | (with_reducible refine L_pass (t := 36) rfl (by kernel_rfl) ?_)
   | (with_reducible refine L_pass (t := 37) rfl (by kernel_rfl) ?_)
   | (with_reducible refine L_pass (t := 38) rfl (by kernel_rfl) ?_)
   | (with_reducible refine L_pass (t := 39) rfl (by kernel_rfl) ?_)
   | (with_reducible refine L_pass (t := 40) rfl (by kernel_rfl) ?_)
   | (with_reducible refine L_pass (t := 41) rfl (by kernel_rfl) ?_)
   | (with_reducible refine L_pass (t := 42) rfl (by kernel_rfl) ?_)
   | (with_reducible refine L_pass (t := 43) rfl (by kernel_rfl) ?_)
   | (with_reducible refine L_pass (t := 44) rfl (by kernel_rfl) ?_)
   | (with_reducible refine L_pass (t := 45) rfl (by kernel_rfl) ?_)
   | (go_big_may; first
    | (refine L_load1 (d := some 32) rfl rfl rfl (by rfl) Tryd.underlying36 rfl (by first | assumption | exact cell_of (hst.get 0 rfl) lgArr_0 | exact cell_of (hst.get 0 rfl) lgArr_1 | exact cell_of (hst.get 0 rfl) lgArr_2 | exact cell_of (hst.get 0 rfl) lgArr_3 | exact cell_of (hst.get 0 rfl) rfl | exact cell_of (hst.get 1 rfl) lgArr_0 | exact cell_of (hst.get 1 rfl) lgArr_1 | exact cell_of (hst.get 1 rfl) lgArr_2 | exact cell_of (hst.get 1 rfl) lgArr_3 | exact cell_of (hst.get 1 rfl) rfl | exact cell_of (hst.get 2 rfl) lgArr_0 | exact cell_of (hst.get 2 rfl) lgArr_1 | exact cell_of (hst.get 2 rfl) lgArr_2 | exact cell_of (hst.get 2 rfl) lgArr_3 | exact cell_of (hst.get 2 rfl) rfl) ?_)
    | fail))
  go_wp2_with (first
   | fail)
  go_ret2
  refine .inr ⟨by rw [HE.out]; decide, by rw [HE.out]; rfl, ?_⟩
  simp only [lgL, List.cons_append, List.nil_append]
  exact hst.tail.tail
 | some x =>
  have HL := Lib.hid hr
  obtain ⟨⟨a1, a2, a3⟩, a4, a5⟩ := x
  clear hs hf hm hr
  go_enter Tryd.func24, Tryd.ntmps24
  go_upto_region 1 with (go_big_may; first
   | (refine L_boxA (d := some 5) rfl rfl rfl (ev_tmp rfl) ?_; (try clear hnew); intro g5 W5 hnew; replace hst := hst.trans hnew; simp only [List.cons_append, List.nil_append] at hst)
   | fail)
  go_upto_region 3 with (go_big_may; first
   | (go_at_call 52; (try clear hnew); refine (HN.out _).mono ?_; rintro e Wk3 ⟨rfl, hnew⟩; replace hst := hst.keep hnew)
   | fail)
  go_upto_region 4 with (go_big_may; first
   | (refine L_look2s (fk := sV) (fv := lsV) (y := s) (l := nm) (d := some 26) rfl rfl rfl keyed_str Tryd.underlying93 el_log_last (ev_tmp rfl) (ev_tmp rfl) sV_inj HO.out HD.out HS.out (hst.obj 4 rfl) HL.out ?_)
   | (refine L_load1 (d := some 24) rfl rfl rfl (by rfl) Tryd.underlying93 rfl (by first | assumption | exact cell_of (hst.get 0 rfl) lgArr_0 | exact cell_of (hst.get 0 rfl) lgArr_1 | exact cell_of (hst.get 0 rfl) lgArr_2 | exact cell_of (hst.get 0 rfl) lgArr_3 | exact cell_of (hst.get 0 rfl) rfl | exact cell_of (hst.get 1 rfl) lgArr_0 | exact cell_of (hst.get 1 rfl) lgArr_1 | exact cell_of (hst.get 1 rfl) lgArr_2 | exact cell_of (hst.get 1 rfl) lgArr_3 | exact cell_of (hst.get 1 rfl) rfl | exact cell_of (hst.get 2 rfl) lgArr_0 | exact cell_of (hst.get 2 rfl) lgArr_1 | exact cell_of (hst.get 2 rfl) lgArr_2 | exact cell_of (hst.get 2 rfl) lgArr_3 | exact cell_of (hst.get 2 rfl) rfl) ?_)
   | (refine L_allocA (d := some 8) rfl rfl rfl el_log_last ?_; (try clear hnew); intro g8 W8 hnew; replace hst := hst.trans hnew; simp only [List.cons_append, List.nil_append] at hst)
   | (refine wpl_at (.store 123 (.tmp 8) (.tmp 27)) rfl ?_; first | (refine L_storeA rfl rfl hst rfl (by rfl) (ev_tmp rfl) (by first | rfl | exact Dig.one _ | exact lsArr_all _ _ _ _ _ | (simp; done)) el_log_last (by first | rfl | exact Dig.size _ | exact lsArr_size _ _ _ _ _ | (simp; done)) 0 rfl (by first | rfl | exact Dig.size _ | exact lsArr_size _ _ _ _ _ | (simp; done)) ?_; clear hst; intro WS10 hst; simp only [List.set_cons_zero, List.set_cons_succ] at hst) | (refine L_storeA rfl rfl hst rfl (by rfl) (ev_tmp rfl) (by first | rfl | exact Dig.one _ | exact lsArr_all _ _ _ _ _ | (simp; done)) el_log_last (by first | rfl | exact Dig.size _ | exact lsArr_size _ _ _ _ _ | (simp; done)) 1 rfl (by first | rfl | exact Dig.size _ | exact lsArr_size _ _ _ _ _ | (simp; done)) ?_; clear hst; intro WS10 hst; simp only [List.set_cons_zero, List.set_cons_succ] at hst) | (refine L_storeA rfl rfl hst rfl (by rfl) (ev_tmp rfl) (by first | rfl | exact Dig.one _ | exact lsArr_all _ _ _ _ _ | (simp; done)) el_log_last (by first | rfl | exact Dig.size _ | exact lsArr_size _ _ _ _ _ | (simp; done)) 2 rfl (by first | rfl | exact Dig.size _ | exact lsArr_size _ _ _ _ _ | (simp; done)) ?_; clear hst; intro WS10 hst; simp only [List.set_cons_zero, List.set_cons_succ] at hst) | (refine L_storeM rfl rfl hst rfl (by rfl) (ev_tmp rfl) (by first | rfl | exact Dig.one _ | exact lsArr_all _ _ _ _ _ | (simp; done)) el_log_last (by first | rfl | exact Dig.size _ | exact lsArr_size _ _ _ _ _ | (simp; done)) 0 rfl (by first | exact of_decide_eq_true rfl | (simp; done)) ?_; clear hst; intro WS10 hst; simp only [List.set_cons_zero, List.set_cons_succ] at hst)  | (refine L_storeM rfl rfl hst rfl (by rfl) (ev_tmp rfl) (by first | rfl | exact Dig.one _ | exact lsArr_all _ _ _ _ _ | (simp; done)) el_log_last (by first | rfl | exact Dig.size _ | exact lsArr_size _ _ _ _ _ | (simp; done)) 1 rfl (by first | exact of_decide_eq_true rfl | (simp; done)) ?_; clear hst; intro WS10 hst; simp only [List.set_cons_zero, List.set_cons_succ] at hst)  | (refine L_storeM rfl rfl hst rfl (by rfl) (ev_tmp rfl) (by first | rfl | exact Dig.one _ | exact lsArr_all _ _ _ _ _ | (simp; done)) el_log_last (by first | rfl | exact Dig.size _ | exact lsArr_size _ _ _ _ _ | (simp; done)) 2 rfl (by first | exact of_decide_eq_true rfl | (simp; done)) ?_; clear hst; intro WS10 hst; simp only [List.set_cons_zero, List.set_cons_succ] at hst))
   | fail)
  go_upto_region 5 with (first
   | (with_reducible refine L_pass (t := 36) rfl (by kernel_rfl) ?_)
   | (with_reducible refine L_pass (t := 37) rfl (by kernel_rfl) ?_)
   | (with_reducible refine L_pass (t := 38) rfl (by kernel_rfl) ?_)
   | (with_reducible refine L_pass (t := 39) rfl (by kernel_rfl) ?_)
   | (with_reducible refine L_pass (t := 40) rfl (by kernel_rfl) ?_)
   | (with_reducible refine L_pass (t := 41) rfl (by kernel_rfl) ?_)
   | (with_reducible refine L_pass (t := 42) rfl (by kernel_rfl) ?_)
   | (with_reducible refine L_pass (t := 43) rfl (by kernel_rfl) ?_)
   | (with_reducible refine L_pass (t := 44) rfl (by kernel_rfl) ?_)
   | (with_reducible refine L_pass (t := 45) rfl (by kernel_rfl) ?_)
   | (go_big_may; first
    | (refine L_load1 (d := some 32) rfl rfl rfl (by rfl) Tryd.underlying36 rfl (by first | assumption | exact cell_of (hst.get 0 rfl) lgArr_0 | exact cell_of (hst.get 0 rfl) lgArr_1 | exact cell_of (hst.get 0 rfl) lgArr_2 | exact cell_of (hst.get 0 rfl) lgArr_3 | exact cell_of (hst.get 0 rfl) rfl | exact cell_of (hst.get 1 rfl) lgArr_0 | exact cell_of (hst.get 1 rfl) lgArr_1 | exact cell_of (hst.get 1 rfl) lgArr_2 | exact cell_of (hst.get 1 rfl) lgArr_3 | exact cell_of (hst.get 1 rfl) rfl | exact cell_of (hst.get 2 rfl) lgArr_0 | exact cell_of (hst.get 2 rfl) lgArr_1 | exact cell_of (hst.get 2 rfl) lgArr_2 | exact cell_of (hst.get 2 rfl) lgArr_3 | exact cell_of (hst.get 2 rfl) rfl) ?_)
    | fail))
  go_wp2_with (first
   | fail)
  go_ret2
  refine .inr ⟨by rw [HE.out]; decide, by rw [HE.out]; rfl, ?_⟩
  simp only [lgL, List.cons_append, List.nil_append]
  exact hst.tail.tail
end Go.Proofs.YtaebeemnipafbaaDoor

set_option maxRecDepth 20000
set_option linter.unusedSimpArgs false
set_option linter.unusedVariables false
namespace Go.Proofs.YtaebeemnipafbaaDoor
open Go.RowKit
theorem bsOf_toList (l : List UInt8) : (bsOf l).toList = l := by rw [ByteArray.toList_eq]; exact bsOf_list l
theorem eqG_str : Tryd.prog.eqGuardType Tryd.prog.depth 9 = false := by kernel_rfl
theorem bsOf_beq (s u : List UInt8) : ((bsOf s).toList == (bsOf u).toList) = decide (s = u) := by
 rw [bsOf_toList, bsOf_toList]
 by_cases h : s = u <;> simp [h]
section
variable {P : Program} {ops : Array Oper} {rest : List Oper} {o : Oper} {a : Act} {W : World} {Q : Exit → Act → World → Prop} {d : Option Tmp}
theorem run_eqStr {t : TypeId} (ht : P.underlying t = some .string) (s u : List UInt8) (W : World) : (Op.equalIn 10000 t (.string (bsOf s)) (.string (bsOf u))).run P W = .ok (decide (s = u)) W := by
 have := run_equalIn_string (P := P) W 9999 t (bsOf s) (bsOf u) ht
 rw [bsOf_toList, bsOf_toList] at this
 rw [this]
 congr 1
 by_cases h : s = u <;> simp [h]
theorem L_eqStr (hd : o.dst = d) (hw : Region.wanted o (yielded ops a.tmps) = true) {t t' : TypeId} {x y : Operand} (ho : o.op = .binOp .eql t x y t') {s u : List UInt8} (hg : P.eqGuardType P.depth t = false) (ht : P.underlying t = some .string) (hx : a.eval x = .string (bsOf s)) (hy : a.eval y = .string (bsOf u))
  (h : wpList P ops Q rest (a.put d (.bool (decide (s = u)))) W) : wpList P ops Q (o :: rest) a W := by
 refine L_val hd hw ?_ h
 unfold execOp
 simp only [ho, hx, hy]
 have h1 : (eqGuard .eql t x y (.string (bsOf s)) (.string (bsOf u))).run P W = .ok () W := by simp [eqGuard, program, Sem.run, hg]
 have h2 : (Go.binOp .eql t (.string (bsOf s)) (.string (bsOf u))).run P W = .ok (.bool (decide (s = u))) W := by
  have := bsOf_beq s u
  simp only [Go.binOp, Op.stringOp, this, Sem.run_pure]
 simp [h1, h2]
theorem L_neStr (hd : o.dst = d) (hw : Region.wanted o (yielded ops a.tmps) = true) {t t' : TypeId} {x y : Operand} (ho : o.op = .binOp .neq t x y t') {s u : List UInt8} (hg : P.eqGuardType P.depth t = false) (ht : P.underlying t = some .string) (hx : a.eval x = .string (bsOf s)) (hy : a.eval y = .string (bsOf u))
  (h : wpList P ops Q rest (a.put d (.bool (!decide (s = u)))) W) : wpList P ops Q (o :: rest) a W := by
 refine L_val hd hw ?_ h
 unfold execOp
 simp only [ho, hx, hy]
 have h1 : (eqGuard .neq t x y (.string (bsOf s)) (.string (bsOf u))).run P W = .ok () W := by simp [eqGuard, program, Sem.run, hg]
 have h2 : (Go.binOp .neq t (.string (bsOf s)) (.string (bsOf u))).run P W = .ok (.bool (!decide (s = u))) W := by
  have := bsOf_beq s u
  simp only [Go.binOp, Op.stringOp, this, Sem.run_pure]
 simp [h1, h2]
end
end Go.Proofs.YtaebeemnipafbaaDoor

set_option linter.unusedSimpArgs false
set_option linter.unusedVariables false
namespace Go.Proofs.YtaebeemnipafbaaDoor
open Go.RowKit
set_option maxHeartbeats 4000000 in
set_option maxRecDepth 100000 in
theorem add_full2 (key : List UInt8) (ns : List NoteN) (s : List UInt8) (k : Dig) (p : LgP) (w0 w : World) (L : List Res) (hst : St w0 w (lgL p key ns ++ L)) (hm : MapsOf ns p.nm p.am) (hs : isNm s = true) (hf : ¬ 256 ≤ ns.length) (hn : lastI ns s = none) (hc : 64 ≤ namesC ns) :
  Calls Tryd.prog 24 #[.pointer (some ⟨p.g, 0, none⟩), .string (bsOf s), k.v] w (AddEnd key ns s k p w0 L) := by
 have HN := Lib.hid (fun w => by have := named_any s w; rw [hs] at this; exact this)
 have HE := Lib.hid (show addE ns s = 4 by unfold addE; rw [if_pos hs, if_pos (.inr ⟨hn, hc⟩)])
 have HO := Lib.hid hm.ksO
 have HD := Lib.hid hm.nd
 have HS := Lib.hid (sV_ok hs)
 have hf2 : ¬ (256 : Int) ≤ (ns.length : Int) := by omega
 have hr : lookA s p.nm = none := by rw [hm.look, atName, hn]; rfl
 have hcc : (64 : Int) ≤ (p.nm.length : Int) := by rw [hm.len]; omega
 simp only [lgL, List.cons_append, List.nil_append] at hst
 obtain ⟨g, m, c, lc, Mn, Ma, A, O, nm, am⟩ := p
 simp only at *
 have HL := Lib.hid hr
 clear hs hf hm hr hn hc
 go_enter Tryd.func24, Tryd.ntmps24
 go_upto_region 1 with (go_big_may; (refine L_boxA (d := some 5) rfl rfl rfl (ev_tmp rfl) ?_; (try clear hnew); intro g5 W5 hnew; replace hst := hst.trans hnew; simp only [List.cons_append, List.nil_append] at hst))
 go_upto_region 3 with (go_big_may; (go_at_call 52; (try clear hnew); refine (HN.out _).mono ?_; rintro e Wk1 ⟨rfl, hnew⟩; replace hst := hst.keep hnew))
 go_upto_region 4 with (go_big_may; first | (refine L_look2n (fk := sV) (fv := lsV) (y := s) (l := nm) (d := some 26) rfl rfl rfl keyed_str Tryd.underlying93 el_log_last (ev_tmp rfl) (ev_tmp rfl) sV_inj HO.out HD.out HS.out (hst.obj 4 rfl) HL.out ?_) | (refine L_load1 (d := some 24) rfl rfl rfl (by rfl) Tryd.underlying93 rfl (by (exact cell_of (hst.get 1 rfl) lgArr_2)) ?_) | (refine L_allocA (d := some 8) rfl rfl rfl el_log_last ?_; (try clear hnew); intro g8 W8 hnew; replace hst := hst.trans hnew; simp only [List.cons_append, List.nil_append] at hst) | (refine wpl_at (.store 123 (.tmp 8) (.tmp 27)) rfl ?_; (refine L_storeA rfl rfl hst rfl (by rfl) (ev_tmp rfl) (by (exact lsArr_all _ _ _ _ _)) el_log_last (by (rfl)) 0 rfl (by (rfl)) ?_; clear hst; intro WS10 hst; simp only [List.set_cons_zero, List.set_cons_succ] at hst)))
 go_upto_region 5 with (go_big_may; first | (refine L_lenM (fk := sV) (fv := lsV) (l := nm) (d := some 43) rfl rfl rfl Tryd.underlying93 (ev_tmp rfl) (hst.obj 5 rfl) ?_) | (refine L_load1 (d := some 32) rfl rfl rfl (by rfl) Tryd.underlying36 rfl (by (exact cell_of (hst.get 2 rfl) lgArr_1)) ?_) | (refine L_load1 (d := some 42) rfl rfl rfl (by rfl) Tryd.underlying93 rfl (by (exact cell_of (hst.get 2 rfl) lgArr_2)) ?_))
 go_wp2_with (fail)
 go_ret2
 refine .inr ⟨by rw [HE.out]; decide, by rw [HE.out]; rfl, ?_⟩
 simp only [lgL, List.cons_append, List.nil_append]
 exact hst.tail.tail
set_option maxHeartbeats 8000000 in
set_option maxRecDepth 100000 in
theorem add_twice (key : List UInt8) (ns : List NoteN) (s : List UInt8) (k : Dig) (p : LgP) (w0 w : World) (L : List Res) (hT : Tb w0) (hst : St w0 w (lgL p key ns ++ L)) (hm : MapsOf ns p.nm p.am) (hs : isNm s = true) (hf : ¬ 256 ≤ ns.length) (hc : ¬ (lastI ns s = none ∧ 64 ≤ namesC ns)) (ht : takenN ns s = true) :
  Calls Tryd.prog 24 #[.pointer (some ⟨p.g, 0, none⟩), .string (bsOf s), k.v] w (AddEnd key ns s k p w0 L) := by
 have HT := Lib.hid hT
 have HN := Lib.hid (fun w => by have := named_any s w; rw [hs] at this; exact this)
 have HE := Lib.hid (show addE ns s = 7 by unfold addE; rw [if_pos hs, if_neg (not_or.2 ⟨hf, hc⟩), if_pos ht])
 have HI := Lib.hid (fun (w' : World) (h : Tb w') => index_any s w' h (by have := isNm_len hs; omega))
 have HO := Lib.hid hm.ksO
 have HD := Lib.hid hm.nd
 have HOA := Lib.hid hm.ksOA
 have HDA := Lib.hid hm.ndA
 have HS := Lib.hid (sV_ok hs)
 have HSA := Lib.hid (kInt_ok (n := idxN s) (by have := idxN_lt s; omega))
 obtain ⟨t, ht1, ht2⟩ := (hm.taken s).1 ht
 have HL2 := Lib.hid ht1
 have HNE := Lib.hid (show (!decide (t = s)) = true by rw [decide_eq_false ht2]; rfl)
 have hf2 : ¬ (256 : Int) ≤ (ns.length : Int) := by omega
 have hlen := hm.len
 have hlk := hm.look s
 simp only [lgL, List.cons_append, List.nil_append] at hst
 obtain ⟨g, m, c, lc, Mn, Ma, A, O, nm, am⟩ := p
 simp only at *
 generalize idxN s = ix at *
 cases hr : lookA s nm with
 | none =>
  have hcc : ¬ (64 : Int) ≤ (nm.length : Int) := by
   have h1 : lastI ns s = none := by
    have h2 := atName_isSome ns s
    rw [← hlk, hr] at h2
    cases h3 : lastI ns s with
    | none => rfl
    | some j => rw [h3] at h2; cases h2
   have h4 : ¬ 64 ≤ namesC ns := fun h => hc ⟨h1, h⟩
   rw [hlen]
   omega
  have HL := Lib.hid hr
  clear hT hs hf hm hr hc ht ht1 ht2 hlk hlen
  go_enter Tryd.func24, Tryd.ntmps24
  go_upto_region 1 with (go_big_may; (refine L_boxA (d := some 5) rfl rfl rfl (ev_tmp rfl) ?_; (try clear hnew); intro g5 W5 hnew; replace hst := hst.trans hnew; simp only [List.cons_append, List.nil_append] at hst))
  go_upto_region 3 with (go_big_may; (go_at_call 52; (try clear hnew); refine (HN.out _).mono ?_; rintro e Wk2 ⟨rfl, hnew⟩; replace hst := hst.keep hnew))
  go_upto_region 4 with (go_big_may; first | (refine L_look2n (fk := sV) (fv := lsV) (y := s) (l := nm) (d := some 26) rfl rfl rfl keyed_str Tryd.underlying93 el_log_last (ev_tmp rfl) (ev_tmp rfl) sV_inj HO.out HD.out HS.out (hst.obj 4 rfl) HL.out ?_) | (refine L_load1 (d := some 24) rfl rfl rfl (by rfl) Tryd.underlying93 rfl (by (exact cell_of (hst.get 1 rfl) lgArr_2)) ?_) | (refine L_allocA (d := some 8) rfl rfl rfl el_log_last ?_; (try clear hnew); intro g8 W8 hnew; replace hst := hst.trans hnew; simp only [List.cons_append, List.nil_append] at hst) | (refine wpl_at (.store 123 (.tmp 8) (.tmp 27)) rfl ?_; (refine L_storeA rfl rfl hst rfl (by rfl) (ev_tmp rfl) (by (exact lsArr_all _ _ _ _ _)) el_log_last (by (rfl)) 0 rfl (by (rfl)) ?_; clear hst; intro WS10 hst; simp only [List.set_cons_zero, List.set_cons_succ] at hst)))
  go_upto_region 6 with (go_big_may; first | (refine L_lenM (fk := sV) (fv := lsV) (l := nm) (d := some 43) rfl rfl rfl Tryd.underlying93 (ev_tmp rfl) (hst.obj 5 rfl) ?_) | (refine L_load1 (d := some 32) rfl rfl rfl (by rfl) Tryd.underlying36 rfl (by (exact cell_of (hst.get 2 rfl) lgArr_1)) ?_) | (refine L_load1 (d := some 42) rfl rfl rfl (by rfl) Tryd.underlying93 rfl (by (exact cell_of (hst.get 2 rfl) lgArr_2)) ?_))
  go_upto_region 7 with (go_big_may; (go_at_call 54; (try clear hnew); refine (HI.out _ (HT.out.of hst)).mono ?_; rintro e Wk3 ⟨rfl, hnew⟩; replace hst := hst.keep hnew))
  go_upto_region 8 with (go_big_may; first | (refine L_look2s (fk := kInt) (fv := sV) (y := ix) (l := am) (d := some 56) rfl rfl rfl keyed_int Tryd.underlying94 el_string (ev_tmp rfl) (ev_tmp rfl) kInt_inj HOA.out HDA.out HSA.out (hst.obj 6 rfl) HL2.out ?_) | (refine L_load1 (d := some 54) rfl rfl rfl (by rfl) Tryd.underlying94 rfl (by (exact cell_of (hst.get 2 rfl) lgArr_3)) ?_))
  go_upto_region 9 with (go_big_may; (refine L_neStr (d := some 63) rfl rfl rfl eqG_str Tryd.underlying9 (ev_tmp rfl) (ev_tmp rfl) ?_; (try rw [HNE.out])))
  go_wp2_with (fail)
  go_ret2
  refine .inr ⟨by rw [HE.out]; decide, by rw [HE.out]; rfl, ?_⟩
  simp only [lgL, List.cons_append, List.nil_append]
  exact hst.tail.tail
 | some x =>
  have HL := Lib.hid hr
  obtain ⟨⟨a1, a2, a3⟩, a4, a5⟩ := x
  clear hT hs hf hm hr hc ht ht1 ht2 hlk hlen
  go_enter Tryd.func24, Tryd.ntmps24
  go_upto_region 1 with (go_big_may; (refine L_boxA (d := some 5) rfl rfl rfl (ev_tmp rfl) ?_; (try clear hnew); intro g5 W5 hnew; replace hst := hst.trans hnew; simp only [List.cons_append, List.nil_append] at hst))
  go_upto_region 3 with (go_big_may; (go_at_call 52; (try clear hnew); refine (HN.out _).mono ?_; rintro e Wk4 ⟨rfl, hnew⟩; replace hst := hst.keep hnew))
  go_upto_region 4 with (go_big_may; first | (refine L_look2s (fk := sV) (fv := lsV) (y := s) (l := nm) (d := some 26) rfl rfl rfl keyed_str Tryd.underlying93 el_log_last (ev_tmp rfl) (ev_tmp rfl) sV_inj HO.out HD.out HS.out (hst.obj 4 rfl) HL.out ?_) | (refine L_load1 (d := some 24) rfl rfl rfl (by rfl) Tryd.underlying93 rfl (by (exact cell_of (hst.get 1 rfl) lgArr_2)) ?_) | (refine L_allocA (d := some 8) rfl rfl rfl el_log_last ?_; (try clear hnew); intro g8 W8 hnew; replace hst := hst.trans hnew; simp only [List.cons_append, List.nil_append] at hst) | (refine wpl_at (.store 123 (.tmp 8) (.tmp 27)) rfl ?_; (refine L_storeA rfl rfl hst rfl (by rfl) (ev_tmp rfl) (by (exact lsArr_all _ _ _ _ _)) el_log_last (by (exact lsArr_size _ _ _ _ _)) 0 rfl (by (rfl)) ?_; clear hst; intro WS10 hst; simp only [List.set_cons_zero, List.set_cons_succ] at hst)))
  go_upto_region 6 with (first | (with_reducible refine L_pass (t := 39) rfl (by kernel_rfl) ?_) | (with_reducible refine L_pass (t := 40) rfl (by kernel_rfl) ?_) | (with_reducible refine L_pass (t := 41) rfl (by kernel_rfl) ?_) | (with_reducible refine L_pass (t := 42) rfl (by kernel_rfl) ?_) | (with_reducible refine L_pass (t := 43) rfl (by kernel_rfl) ?_) | (with_reducible refine L_pass (t := 44) rfl (by kernel_rfl) ?_) | (go_big_may; (refine L_load1 (d := some 32) rfl rfl rfl (by rfl) Tryd.underlying36 rfl (by (exact cell_of (hst.get 2 rfl) lgArr_1)) ?_)))
  go_upto_region 7 with (go_big_may; (go_at_call 54; (try clear hnew); refine (HI.out _ (HT.out.of hst)).mono ?_; rintro e Wk5 ⟨rfl, hnew⟩; replace hst := hst.keep hnew))
  go_upto_region 8 with (go_big_may; first | (refine L_look2s (fk := kInt) (fv := sV) (y := ix) (l := am) (d := some 56) rfl rfl rfl keyed_int Tryd.underlying94 el_string (ev_tmp rfl) (ev_tmp rfl) kInt_inj HOA.out HDA.out HSA.out (hst.obj 6 rfl) HL2.out ?_) | (refine L_load1 (d := some 54) rfl rfl rfl (by rfl) Tryd.underlying94 rfl (by (exact cell_of (hst.get 2 rfl) lgArr_3)) ?_))
  go_upto_region 9 with (go_big_may; (refine L_neStr (d := some 63) rfl rfl rfl eqG_str Tryd.underlying9 (ev_tmp rfl) (ev_tmp rfl) ?_; (try rw [HNE.out])))
  go_wp2_with (fail)
  go_ret2
  refine .inr ⟨by rw [HE.out]; decide, by rw [HE.out]; rfl, ?_⟩
  simp only [lgL, List.cons_append, List.nil_append]
  exact hst.tail.tail
end Go.Proofs.YtaebeemnipafbaaDoor

set_option linter.unusedSimpArgs false
set_option linter.unusedVariables false
namespace Go.Proofs.YtaebeemnipafbaaDoor
def longN (i n : Nat) : Nat :=
 if _h : n < 2 then 0
 else if i < halfN n then longN i (halfN n) + 1
 else longN (i - halfN n) (n - halfN n) + 1
termination_by n
decreasing_by
 ·exact halfN_lt n (by omega)
 ·have := halfN_pos n
  omega
theorem longN_one (i : Nat) {n : Nat} (h : n < 2) : longN i n = 0 := by rw [longN, dif_pos h]
theorem longN_left {i n : Nat} (h : 2 ≤ n) (hi : i < halfN n) : longN i n = longN i (halfN n) + 1 := by rw [longN, dif_neg (by omega), if_pos hi]
theorem longN_right {i n : Nat} (h : 2 ≤ n) (hi : ¬ i < halfN n) : longN i n = longN (i - halfN n) (n - halfN n) + 1 := by rw [longN, dif_neg (by omega), if_neg hi]
def sidesN (i n : Nat) : List Bool :=
 if _h : n < 2 then []
 else if i < halfN n then true :: sidesN i (halfN n)
 else false :: sidesN (i - halfN n) (n - halfN n)
termination_by n
decreasing_by
 ·exact halfN_lt n (by omega)
 ·have := halfN_pos n
  omega
theorem sidesN_one (i : Nat) {n : Nat} (h : n < 2) : sidesN i n = [] := by rw [sidesN, dif_pos h]
theorem sidesN_left {i n : Nat} (h : 2 ≤ n) (hi : i < halfN n) : sidesN i n = true :: sidesN i (halfN n) := by rw [sidesN, dif_neg (by omega), if_pos hi]
theorem sidesN_right {i n : Nat} (h : 2 ≤ n) (hi : ¬ i < halfN n) : sidesN i n = false :: sidesN (i - halfN n) (n - halfN n) := by rw [sidesN, dif_neg (by omega), if_neg hi]
theorem length_sidesN : ∀ (n i : Nat), (sidesN i n).length = longN i n := by
 intro n
 induction n using Nat.strongRecOn with
 | ind n ih =>
 intro i
 by_cases h : n < 2
 ·rw [sidesN_one i h, longN_one i h]
  rfl
 ·have h1 := halfN_lt n (by omega)
  have h2 := halfN_pos n
  by_cases hi : i < halfN n
  ·rw [sidesN_left (by omega) hi, longN_left (by omega) hi, List.length_cons, ih _ h1]
  ·rw [sidesN_right (by omega) hi, longN_right (by omega) hi, List.length_cons, ih _ (by omega)]
def pathN (ls : List Dig) (i : Nat) : List Dig :=
 if _h : ls.length < 2 then []
 else if i < halfN ls.length then pathN (ls.take (halfN ls.length)) i ++ [rootN (ls.drop (halfN ls.length))]
 else pathN (ls.drop (halfN ls.length)) (i - halfN ls.length) ++ [rootN (ls.take (halfN ls.length))]
termination_by ls.length
decreasing_by
 ·have := halfN_lt ls.length (by omega)
  rw [List.length_take]
  omega
 ·have := halfN_pos ls.length
  rw [List.length_drop]
  omega
theorem pathN_one {ls : List Dig} (i : Nat) (h : ls.length < 2) : pathN ls i = [] := by rw [pathN, dif_pos h]
theorem pathN_left {ls : List Dig} {i : Nat} (h : 2 ≤ ls.length) (hi : i < halfN ls.length) : pathN ls i = pathN (ls.take (halfN ls.length)) i ++ [rootN (ls.drop (halfN ls.length))] := by
 rw [pathN, dif_neg (by omega), if_pos hi]
theorem pathN_right {ls : List Dig} {i : Nat} (h : 2 ≤ ls.length) (hi : ¬ i < halfN ls.length) : pathN ls i = pathN (ls.drop (halfN ls.length)) (i - halfN ls.length) ++ [rootN (ls.take (halfN ls.length))] := by
 rw [pathN, dif_neg (by omega), if_neg hi]
theorem length_pathN : ∀ (n : Nat) (ls : List Dig) (i : Nat), ls.length = n → (pathN ls i).length = longN i n := by
 intro n
 induction n using Nat.strongRecOn with
 | ind n ih =>
 intro ls i hl
 by_cases h : n < 2
 ·rw [pathN_one i (by omega), longN_one i h]
  rfl
 ·have h1 := halfN_lt n (by omega)
  have h2 := halfN_pos n
  by_cases hi : i < halfN n
  ·rw [pathN_left (by omega) (by rw [hl]; exact hi), longN_left (by omega) hi, List.length_append, hl, ih _ h1 (ls.take (halfN n)) i (by rw [List.length_take]; omega), List.length_singleton]
  ·rw [pathN_right (by omega) (by rw [hl]; exact hi), longN_right (by omega) hi, List.length_append, hl, ih (n - halfN n) (by omega) (ls.drop (halfN n)) (i - halfN n) (by rw [List.length_drop]; omega), List.length_singleton]
def foldN (l : Dig) : List (Dig × Bool) → Dig
 | [] => l
 | (p, s) :: r => foldN (if s then nodeN l p else nodeN p l) r
theorem foldN_append (l : Dig) (a b : List (Dig × Bool)) : foldN l (a ++ b) = foldN (foldN l a) b := by
 induction a generalizing l with
 | nil => rfl
 | cons x a ih =>
  obtain ⟨p, s⟩ := x
  exact ih _
def foldedN (l : Dig) (i n : Nat) (path : List Dig) : Dig := foldN l (path.zip (sidesN i n).reverse)
theorem foldedN_one (l : Dig) (i : Nat) {n : Nat} (h : n < 2) (path : List Dig) : foldedN l i n path = l := by
 unfold foldedN
 rw [sidesN_one i h, List.reverse_nil, List.zip_nil_right]
 rfl
theorem foldedN_left (l : Dig) {i n : Nat} (h : 2 ≤ n) (hi : i < halfN n) (path : List Dig) (p : Dig) (hp : path.length = longN i (halfN n)) :
  foldedN l i n (path ++ [p]) = nodeN (foldedN l i (halfN n) path) p := by
 unfold foldedN
 rw [sidesN_left h hi, List.reverse_cons, List.zip_append (by rw [List.length_reverse, length_sidesN, hp]), foldN_append]
 rfl
theorem foldedN_right (l : Dig) {i n : Nat} (h : 2 ≤ n) (hi : ¬ i < halfN n) (path : List Dig) (p : Dig) (hp : path.length = longN (i - halfN n) (n - halfN n)) :
  foldedN l i n (path ++ [p]) = nodeN p (foldedN l (i - halfN n) (n - halfN n) path) := by
 unfold foldedN
 rw [sidesN_right h hi, List.reverse_cons, List.zip_append (by rw [List.length_reverse, length_sidesN, hp]), foldN_append]
 rfl
theorem folded_path : ∀ (n : Nat) (ls : List Dig) (i : Nat) (hl : ls.length = n) (hi : i < n), foldedN (ls[i]'(by omega)) i n (pathN ls i) = rootN ls := by
 intro n
 induction n using Nat.strongRecOn with
 | ind n ih =>
 intro ls i hl hi
 by_cases h : n < 2
 ·obtain rfl : n = 1 := by omega
  obtain rfl : i = 0 := by omega
  obtain ⟨d, rfl⟩ : ∃ d, ls = [d] := by
   match ls, hl with
   | [d], _ => exact ⟨d, rfl⟩
  rw [foldedN_one _ _ (by omega), rootN_one]
  rfl
 ·have h1 := halfN_lt n (by omega)
  have h2 := halfN_pos n
  obtain ⟨x, hx⟩ : ∃ x, x = ls[i]'(by omega) := ⟨_, rfl⟩
  rw [← hx]
  rw [rootN_more ls (by omega), hl]
  by_cases hk : i < halfN n
  ·rw [pathN_left (by omega) (by rw [hl]; exact hk), hl, foldedN_left _ (by omega) hk (pathN (ls.take (halfN n)) i) _ (length_pathN _ (ls.take (halfN n)) _ (by rw [List.length_take]; omega))]
   have := ih _ h1 (ls.take (halfN n)) i (by rw [List.length_take]; omega) hk
   rw [List.getElem_take, ← hx] at this
   rw [this]
  ·rw [pathN_right (by omega) (by rw [hl]; exact hk), hl, foldedN_right _ (by omega) hk (pathN (ls.drop (halfN n)) (i - halfN n)) _ (length_pathN _ (ls.drop (halfN n)) _ (by rw [List.length_drop]; omega))]
   have := ih (n - halfN n) (by omega) (ls.drop (halfN n)) (i - halfN n) (by rw [List.length_drop]; omega) (by omega)
   rw [List.getElem_drop] at this
   simp only [show halfN n + (i - halfN n) = i by omega] at this
   rw [← hx] at this
   rw [this]
def hvN (n : Nat) : Nat := if _h : n = 0 then 0 else hvN (n / 2) + 1
termination_by n
theorem hvN_zero : hvN 0 = 0 := by rw [hvN]; rfl
theorem hvN_pos {n : Nat} (h : n ≠ 0) : hvN n = hvN (n / 2) + 1 := by rw [hvN, dif_neg h]
theorem hvN_mono : ∀ (n m : Nat), m ≤ n → hvN m ≤ hvN n := by
 intro n
 induction n using Nat.strongRecOn with
 | ind n ih =>
 intro m hm
 by_cases h0 : m = 0
 ·subst h0
  rw [hvN_zero]
  exact Nat.zero_le _
 ·rw [hvN_pos h0, hvN_pos (n := n) (by omega)]
  have := ih (n / 2) (by omega) (m / 2) (by omega)
  omega
theorem hvN_pow : ∀ k, hvN (2 ^ k - 1) = k
 | 0 => hvN_zero
 | k + 1 => by
  have hp := Nat.two_pow_pos k
  rw [hvN_pos (by rw [Nat.pow_succ]; omega), show (2 ^ (k + 1) - 1) / 2 = 2 ^ k - 1 by rw [Nat.pow_succ]; omega, hvN_pow k]
theorem hvN_full (k : Nat) : hvN (2 ^ k) = k + 1 := by
 rw [hvN_pos (by have := Nat.two_pow_pos k; omega)]
 cases k with
 | zero => rw [show 2 ^ 0 / 2 = 0 by decide, hvN_zero]
 | succ k => rw [show 2 ^ (k + 1) / 2 = 2 ^ k by rw [Nat.pow_succ]; omega, hvN_full k]
theorem long_le : ∀ (n i : Nat), longN i n ≤ hvN (n - 1) := by
 intro n
 induction n using Nat.strongRecOn with
 | ind n ih =>
 intro i
 by_cases h : n < 2
 ·rw [longN_one i h]
  exact Nat.zero_le _
 ·have h1 := halfN_lt n (by omega)
  have h2 := halfN_pos n
  have hk : halfN n ≤ n - 1 := by omega
  have hb := hvN_mono (n - 1) (halfN n) hk
  have hp : halfN n = 2 ^ Nat.log2 (n - 1) := rfl
  rw [hp, hvN_full] at hb
  have hu : n - 1 < 2 ^ (Nat.log2 (n - 1) + 1) := Nat.lt_log2_self
  by_cases hi : i < halfN n
  ·have := ih _ h1 i
   rw [longN_left (by omega) hi]
   rw [hp, hvN_pow] at this
   rw [hp]
   omega
  ·have := ih (n - halfN n) (by omega) (i - halfN n)
   rw [longN_right (by omega) hi]
   have hm := hvN_mono (2 ^ Nat.log2 (n - 1) - 1) (n - halfN n - 1) (by rw [Nat.pow_succ] at hu; omega)
   rw [hvN_pow] at hm
   omega
end Go.Proofs.YtaebeemnipafbaaDoor

set_option maxRecDepth 20000
set_option linter.unusedSimpArgs false
set_option linter.unusedVariables false
namespace Go.Proofs.YtaebeemnipafbaaDoor
def plN (n m : Nat) (own : Bool) : Nat :=
 if m = n then (if own then 0 else 1)
 else if _h : n < 2 then 0
 else if m ≤ halfN n then plN (halfN n) m own + 1
 else plN (n - halfN n) (m - halfN n) false + 1
termination_by n
decreasing_by
 ·exact halfN_lt n (by omega)
 ·have := halfN_pos n
  omega
theorem plN_all (n : Nat) (own : Bool) : plN n n own = if own then 0 else 1 := by rw [plN, if_pos rfl]
theorem plN_left {n m : Nat} {own : Bool} (h : m ≠ n) (h2 : 2 ≤ n) (hk : m ≤ halfN n) : plN n m own = plN (halfN n) m own + 1 := by rw [plN, if_neg h, dif_neg (by omega), if_pos hk]
theorem plN_right {n m : Nat} {own : Bool} (h : m ≠ n) (h2 : 2 ≤ n) (hk : ¬ m ≤ halfN n) : plN n m own = plN (n - halfN n) (m - halfN n) false + 1 := by rw [plN, if_neg h, dif_neg (by omega), if_neg hk]
theorem plN_le : ∀ (n m : Nat) (own : Bool), plN n m own ≤ n + 1 := by
 intro n
 induction n using Nat.strongRecOn with
 | ind n ih =>
 intro m own
 by_cases h : m = n
 ·subst h
  rw [plN_all]
  split <;> omega
 ·by_cases h2 : n < 2
  ·rw [plN, if_neg h, dif_pos h2]
   omega
  ·have h1 := halfN_lt n (by omega)
   have h3 := halfN_pos n
   by_cases hk : m ≤ halfN n
   ·have := ih _ h1 m own
    rw [plN_left h (by omega) hk]
    omega
   ·have := ih (n - halfN n) (by omega) (m - halfN n) false
    rw [plN_right h (by omega) hk]
    omega
def gpN (ls : List Dig) (m : Nat) (own : Bool) : List Dig :=
 if m = ls.length then (if own then [] else [rootN ls])
 else if _h : ls.length < 2 then []
 else if m ≤ halfN ls.length then gpN (ls.take (halfN ls.length)) m own ++ [rootN (ls.drop (halfN ls.length))]
 else gpN (ls.drop (halfN ls.length)) (m - halfN ls.length) false ++ [rootN (ls.take (halfN ls.length))]
termination_by ls.length
decreasing_by
 ·have := halfN_lt ls.length (by omega)
  rw [List.length_take]
  omega
 ·have := halfN_pos ls.length
  rw [List.length_drop]
  omega
theorem gpN_all (ls : List Dig) {m : Nat} (own : Bool) (h : m = ls.length) : gpN ls m own = if own then [] else [rootN ls] := by rw [gpN, if_pos h]
theorem gpN_left {ls : List Dig} {m : Nat} {own : Bool} (h : m ≠ ls.length) (h2 : 2 ≤ ls.length) (hk : m ≤ halfN ls.length) : gpN ls m own = gpN (ls.take (halfN ls.length)) m own ++ [rootN (ls.drop (halfN ls.length))] := by
 rw [gpN, if_neg h, dif_neg (by omega), if_pos hk]
theorem gpN_right {ls : List Dig} {m : Nat} {own : Bool} (h : m ≠ ls.length) (h2 : 2 ≤ ls.length) (hk : ¬ m ≤ halfN ls.length) : gpN ls m own = gpN (ls.drop (halfN ls.length)) (m - halfN ls.length) false ++ [rootN (ls.take (halfN ls.length))] := by
 rw [gpN, if_neg h, dif_neg (by omega), if_neg hk]
theorem length_gpN : ∀ (n : Nat) (ls : List Dig) (m : Nat) (own : Bool), ls.length = n → (gpN ls m own).length = plN n m own := by
 intro n
 induction n using Nat.strongRecOn with
 | ind n ih =>
 intro ls m own hl
 by_cases h : m = n
 ·subst h
  rw [gpN_all ls own hl.symm, plN_all]
  split <;> rfl
 ·by_cases h2 : n < 2
  ·rw [gpN, if_neg (by omega), dif_pos (by omega), plN, if_neg h, dif_pos h2]
   rfl
  ·have h1 := halfN_lt n (by omega)
   have h3 := halfN_pos n
   by_cases hk : m ≤ halfN n
   ·rw [gpN_left (by omega) (by omega) (by rw [hl]; exact hk), plN_left h (by omega) hk, List.length_append, hl, ih _ h1 (ls.take (halfN n)) m own (by rw [List.length_take]; omega), List.length_singleton]
   ·rw [gpN_right (by omega) (by omega) (by rw [hl]; exact hk), plN_right h (by omega) hk, List.length_append, hl, ih (n - halfN n) (by omega) (ls.drop (halfN n)) (m - halfN n) false (by rw [List.length_drop]; omega), List.length_singleton]
def grN (n m : Nat) (own : Bool) (old : Dig) (p : List Dig) : Dig × Dig :=
 if m = n then (if own then (old, old) else (p.getLastD zeroD, p.getLastD zeroD))
 else if _h : n < 2 then (old, old)
 else if m ≤ halfN n then
  ((grN (halfN n) m own old p.dropLast).1, nodeN (grN (halfN n) m own old p.dropLast).2 (p.getLastD zeroD))
 else
  (nodeN (p.getLastD zeroD) (grN (n - halfN n) (m - halfN n) false old p.dropLast).1, nodeN (p.getLastD zeroD) (grN (n - halfN n) (m - halfN n) false old p.dropLast).2)
termination_by n
decreasing_by
 all_goals first
  | exact halfN_lt n (by omega)
  | (have := halfN_pos n; omega)
theorem grN_all (n : Nat) (own : Bool) (old : Dig) (p : List Dig) : grN n n own old p = if own then (old, old) else (p.getLastD zeroD, p.getLastD zeroD) := by rw [grN, if_pos rfl]
theorem grN_left {n m : Nat} {own : Bool} {old : Dig} (h : m ≠ n) (h2 : 2 ≤ n) (hk : m ≤ halfN n) (q : List Dig) (d : Dig) : grN n m own old (q ++ [d]) = ((grN (halfN n) m own old q).1, nodeN (grN (halfN n) m own old q).2 d) := by
 rw [grN, if_neg h, dif_neg (by omega), if_pos hk]
 simp
theorem grN_right {n m : Nat} {own : Bool} {old : Dig} (h : m ≠ n) (h2 : 2 ≤ n) (hk : ¬ m ≤ halfN n) (q : List Dig) (d : Dig) : grN n m own old (q ++ [d]) = (nodeN d (grN (n - halfN n) (m - halfN n) false old q).1, nodeN d (grN (n - halfN n) (m - halfN n) false old q).2) := by
 rw [grN, if_neg h, dif_neg (by omega), if_neg hk]
 simp
theorem root_take {ls : List Dig} {m : Nat} (h2 : 2 ≤ ls.length) (hk : ¬ m ≤ halfN ls.length) (hm : m ≤ ls.length) :
  rootN (ls.take m) = nodeN (rootN (ls.take (halfN ls.length))) (rootN ((ls.drop (halfN ls.length)).take (m - halfN ls.length))) := by
 have h3 := halfN_pos ls.length
 have hl : (ls.take m).length = m := by rw [List.length_take]; omega
 have hh : halfN m = halfN ls.length := by
  have hu : ls.length - 1 < 2 ^ (Nat.log2 (ls.length - 1) + 1) := Nat.lt_log2_self
  refine halfN_of (Nat.log2 (ls.length - 1)) rfl (by omega) ?_
  unfold halfN
  rw [Nat.pow_succ] at hu
  omega
 rw [rootN_more (ls.take m) (by omega), hl, hh, List.take_take, Nat.min_eq_left (by omega), List.drop_take]
theorem grow_proves : ∀ (n : Nat) (ls : List Dig) (m : Nat) (own : Bool) (old : Dig), ls.length = n → 1 ≤ m → m ≤ n → (own = true → old = rootN (ls.take m)) → grN n m own old (gpN ls m own) = (rootN (ls.take m), rootN ls) := by
 intro n
 induction n using Nat.strongRecOn with
 | ind n ih =>
 intro ls m own old hl h1 hm ho
 by_cases h : m = n
 ·subst h
  rw [gpN_all ls own hl.symm, grN_all, List.take_of_length_le (by omega)]
  cases own with
  | true =>
   have := ho rfl
   rw [List.take_of_length_le (by omega)] at this
   simp [this]
  | false => simp
 ·have h2 : 2 ≤ n := by omega
  have hlt := halfN_lt n h2
  have hps := halfN_pos n
  by_cases hk : m ≤ halfN n
  ·have hl' : (ls.take (halfN n)).length = halfN n := by rw [List.length_take]; omega
   have ht : (ls.take (halfN n)).take m = ls.take m := by rw [List.take_take, Nat.min_eq_left hk]
   have := ih _ hlt (ls.take (halfN n)) m own old hl' h1 hk (fun e => by rw [ht]; exact ho e)
   rw [gpN_left (by omega) (by omega) (by rw [hl]; exact hk), hl, grN_left h h2 hk, this, ht, rootN_more ls (by omega), hl]
  ·have hl' : (ls.drop (halfN n)).length = n - halfN n := by rw [List.length_drop, hl]
   have := ih (n - halfN n) (by omega) (ls.drop (halfN n)) (m - halfN n) false old hl' (by omega) (by omega) (fun e => by cases e)
   rw [gpN_right (by omega) (by omega) (by rw [hl]; exact hk), hl, grN_right h h2 hk, this, root_take (m := m) (by omega) (by rw [hl]; exact hk) (by omega), rootN_more ls (by omega), hl]
end Go.Proofs.YtaebeemnipafbaaDoor

set_option linter.unusedSimpArgs false
set_option linter.unusedVariables false
namespace Go.Proofs.YtaebeemnipafbaaDoor
structure SwapAt {α : Type} (l l' : List α) (i : Nat) : Prop where
 len : l'.length = l.length
 at_ : ∀ k, k < l.length → l'[k]? = if k < i ∨ l.length ≤ k + i then l[l.length - 1 - k]? else l[k]?
theorem SwapAt.start {α : Type} (l : List α) : SwapAt l l 0 := ⟨rfl, fun k hk => by rw [if_neg (by omega)]⟩
theorem SwapAt.step {α : Type} {l l' : List α} {i : Nat} (h : SwapAt l l' i) (hi : 2 * i + 1 < l.length) {x y : α} (hx : l'[i]? = some x) (hy : l'[l.length - 1 - i]? = some y) : SwapAt l ((l'.set i y).set (l.length - 1 - i) x) (i + 1) := by
 refine ⟨by rw [List.length_set, List.length_set, h.len], fun k hk => ?_⟩
 have h1 := h.at_ i (by omega)
 have h2 := h.at_ (l.length - 1 - i) (by omega)
 rw [if_neg (by omega), hx] at h1
 rw [if_neg (by omega), hy] at h2
 rw [List.getElem?_set, List.getElem?_set, List.length_set, h.len]
 by_cases hkj : l.length - 1 - i = k
 ·rw [if_pos hkj, if_pos (by omega), if_pos (by omega), h1]
  congr 1
  omega
 ·rw [if_neg hkj]
  by_cases hki : i = k
  ·subst hki
   rw [if_pos rfl, if_pos (by omega), if_pos (by omega), h2]
  ·rw [if_neg hki, h.at_ k hk]
   by_cases hc : k < i ∨ l.length ≤ k + i
   ·rw [if_pos hc, if_pos (by omega)]
   ·rw [if_neg hc, if_neg (by omega)]
theorem SwapAt.done {α : Type} {l l' : List α} {i : Nat} (h : SwapAt l l' i) (hi : l.length ≤ 2 * i + 1) : l' = l.reverse := by
 apply List.ext_getElem?
 intro k
 by_cases hk : k < l.length
 ·rw [h.at_ k hk, List.getElem?_reverse hk]
  by_cases hc : k < i ∨ l.length ≤ k + i
  ·rw [if_pos hc]
  ·rw [if_neg hc]
   congr 1
   omega
 ·rw [List.getElem?_eq_none (by rw [h.len]; omega), List.getElem?_eq_none (by rw [List.length_reverse]; omega)]
theorem digsL_cons (d : Dig) (l : List Dig) : digsL (d :: l) = d.arr.toList ++ digsL l := by simp [digsL, Dig.toList]
theorem digsL_set : ∀ (l : List Dig) (i : Nat) (d : Dig), i < l.length → (digsL l).take (i * 32) ++ d.arr.toList ++ (digsL l).drop (i * 32 + 32) = digsL (l.set i d)
 | [], i, d, h => by simp at h
 | x :: l, 0, d, _ => by
  rw [digsL_cons, List.set_cons_zero, digsL_cons, Nat.zero_mul, Nat.zero_add, List.take_zero, List.nil_append, List.drop_append_of_le_length (by rw [Array.length_toList, Dig.size]; exact Nat.le_refl _)]
  rw [List.drop_eq_nil_of_le (by rw [Array.length_toList, Dig.size]; exact Nat.le_refl _), List.nil_append]
 | x :: l, i + 1, d, h => by
  have hs : x.arr.toList.length = 32 := by rw [Array.length_toList, Dig.size]
  have ih := digsL_set l i d (by simpa using h)
  rw [digsL_cons, List.set_cons_succ, digsL_cons, ← ih, List.take_append, List.drop_append, hs]
  have e1 : x.arr.toList.take ((i + 1) * 32) = x.arr.toList := List.take_of_length_le (by omega)
  have e2 : x.arr.toList.drop ((i + 1) * 32 + 32) = [] := List.drop_eq_nil_of_le (by omega)
  rw [e1, e2, show (i + 1) * 32 - 32 = i * 32 by omega, show (i + 1) * 32 + 32 - 32 = i * 32 + 32 by omega, List.nil_append]
  simp only [List.append_assoc]
def boolsL (l : List Bool) : List Value := l.map fun b => .bool b
theorem length_boolsL (l : List Bool) : (boolsL l).length = l.length := by simp [boolsL]
theorem boolsL_append (a b : List Bool) : boolsL (a ++ b) = boolsL a ++ boolsL b := by simp [boolsL]
theorem boolsL_set (l : List Bool) (i : Nat) (b : Bool) : (boolsL l).set i (.bool b) = boolsL (l.set i b) := by simp [boolsL, List.map_set]
theorem boolsL_at (l : List Bool) (i : Nat) (h : i < l.length) : (boolsL l)[i]? = some (.bool l[i]) := by simp [boolsL, h]
theorem oneCell_bools {l : List Bool} : ∀ v ∈ boolsL l, v.oneCell' = true := fun v hv => by
 obtain ⟨b, _, rfl⟩ := List.mem_map.1 hv
 rfl
end Go.Proofs.YtaebeemnipafbaaDoor

set_option maxRecDepth 20000
set_option linter.unusedSimpArgs false
set_option linter.unusedVariables false
namespace Go.Proofs.YtaebeemnipafbaaDoor
open Go.RowKit
theorem el_bool : ElemIs Tryd.prog 4 (.bool false) 1 1 := by unfold ElemIs; kernel_rfl
set_option maxHeartbeats 2000000 in
theorem revB_any (l : List Bool) (n c : Nat) (A : Option Addr) (w0 w : World) (L : List Res) (hst : St w0 w (.row A n c 4 1 (boolsL l) :: L)) :
  Calls Tryd.prog 94 #[.slice A n c] w fun e w' => e = .returned (.tuple #[]) ∧ St w0 w' (.row A n c 4 1 (boolsL l.reverse) :: L) := by
 have hl : l.length = n := by have := (hst.sl 0 rfl).1; rw [length_boolsL] at this; omega
 have hcap := (hst.sl 0 rfl).2.1
 have hmax := (hst.sl 0 rfl).2.2.1
 simp only [maxLen] at hmax
 have Hl := Lib.hid hl
 clear hl
 go_enter Tryd.func94, Tryd.ntmps94
 go_wp2_with (first
  | fail)
 go_loopg [2, 3] n (fun gk s2 s3 wr => ∃ (i : Nat) (l' : List Bool), Hid (i + gk = n) ∧ Hid (SwapAt l l' i) ∧ s2 = .int .i64 (i : Int) ∧ s3 = .int .i64 ((n : Int) - 1 - (i : Int)) ∧ 2 * i ≤ n ∧ St w0 wr (.row A n c 4 1 (boolsL l') :: L))
 case atStart => exact ⟨0, l, Lib.hid (by omega), Lib.hid (SwapAt.start l), rfl, by congr 1; omega, by omega, hst⟩
 case round =>
  clear hst
  obtain ⟨i, l', HI, HS, rfl, rfl, h2i, hst⟩ := hrel
  have hi := HI.out
  by_cases hin : (i : Int) < (n : Int) - 1 - (i : Int)
  ·clear hi
   obtain ⟨x, hx⟩ : ∃ x, l'[i]? = some x := ⟨l'[i]'(by rw [HS.out.len, Hl.out]; omega), List.getElem?_eq_getElem _⟩
   obtain ⟨y, hy⟩ : ∃ y, l'[l.length - 1 - i]? = some y := ⟨l'[l.length - 1 - i]'(by rw [HS.out.len, Hl.out]; omega), List.getElem?_eq_getElem _⟩
   have HN := Lib.hid (HS.out.step (by rw [Hl.out]; omega) hx hy)
   have hat : ∀ (k : Nat) (z : Bool), l'[k]? = some z → ((boolsL l').drop (k * 1)).take 1 = [.bool z] := fun k z hz => by
    obtain ⟨hk, rfl⟩ := List.getElem?_eq_some_iff.1 hz
    rw [Nat.mul_one, List.drop_eq_getElem_cons (by rw [length_boolsL]; exact hk)]
    simp [boolsL]
   have HX := Lib.hid (show ((boolsL l').drop ((i : Int).toNat * 1)).take 1 = [.bool x] from hat i x hx)
   have HY := Lib.hid (show ((boolsL l').drop (((n : Int) - 1 - (i : Int)).toNat * 1)).take 1 = [.bool y] by
    rw [show ((n : Int) - 1 - (i : Int)).toNat = l.length - 1 - i by rw [Hl.out]; omega]
    exact hat _ y hy)
   have HP := Lib.hid (show (boolsL l').set ((i : Int).toNat * 1) (.bool y) = boolsL (l'.set i y) by rw [Nat.mul_one]; exact boolsL_set l' i y)
   have HQ := Lib.hid (show (boolsL (l'.set i y)).set (((n : Int) - 1 - (i : Int)).toNat * 1) (.bool x) = boolsL ((l'.set i y).set (l.length - 1 - i) x) by
    rw [Hl.out, Nat.mul_one, show ((n : Int) - 1 - (i : Int)).toNat = n - 1 - i by omega]
    exact boolsL_set _ _ x)
   clear hx hy hat
   go_wp2_with (first
    | fail)
   refine wp_region_pn (.one 0 3 (.one 1 3 (.one 2 3 (.one 3 3 (.one 4 3 (.one 5 3 (.one 8 3 (.one 9 3 (.one 6 0 (.one 7 0 (.one 10 2 (.one 11 2 (.one 12 2 (.one 13 1 (.one 14 2 (.one 15 1 .nil)))))))))))))))) (by kernel_rfl) (by kernel_rfl) ?_
   replace hst := hst.drew
   refine pn_p rfl rfl ?_; go_wp2_with fail
   refine pn_p rfl rfl ?_; go_wp2_with fail
   refine pn_p rfl rfl ?_; go_wp2_with fail
   refine pn_p rfl rfl ?_; go_wp2_with fail
   refine pn_p rfl rfl ?_; go_wp2_with fail
   refine pn_p rfl rfl ?_; go_wp2_with fail
   refine pn_p rfl rfl ?_; go_wp2_with fail
   refine pn_p rfl rfl ?_; go_wp2_with fail
   refine pn_q rfl rfl ?_; go_wp2_with (first | (refine L_idxS (d := some 20) rfl rfl rfl (by rfl) (by rfl) Tryd.underlying54 el_bool (by first | assumption | exact hst.sl 0 rfl | exact hst.old (by decide) (by assumption)) (by omega) (by omega) ?_; intro o20 p20 ha20 hr20; (first | subst ha20 | (obtain ⟨h1, h2⟩ := some_addr ha20; subst h1; subst h2; clear ha20) | skip)) | fail)
   refine pn_q rfl rfl ?_; go_wp2_with (first | (refine L_load1 (d := some 21) rfl rfl rfl (by rfl) Tryd.underlying4 rfl (v := .bool y) (hr20 0 (.bool y) (by rw [HY.out]; rfl)) ?_) | (refine L_load1 (d := some 21) rfl rfl rfl (by rfl) Tryd.underlying4 rfl (by first | assumption | exact cell_of (hst.get 0 rfl) rfl) ?_) | fail)
   refine pn_g rfl ?_; go_wp2_with (first | (refine L_idxS (d := some 24) rfl rfl rfl (by rfl) (by rfl) Tryd.underlying54 el_bool (by first | assumption | exact hst.sl 0 rfl | exact hst.old (by decide) (by assumption)) (by omega) (by omega) ?_; intro o24 p24 ha24 hr24; (first | subst ha24 | (obtain ⟨h1, h2⟩ := some_addr ha24; subst h1; subst h2; clear ha24) | skip)) | fail); refine ⟨by first | exact Below.refl _ _ | exact hnew.below, ?_⟩
   refine pn_g rfl ?_; go_wp2_with (first | (refine L_load1 (d := some 25) rfl rfl rfl (by rfl) Tryd.underlying4 rfl (v := .bool x) (hr24 0 (.bool x) (by rw [HX.out]; rfl)) ?_) | (refine L_load1 (d := some 25) rfl rfl rfl (by rfl) Tryd.underlying4 rfl (by first | assumption | exact cell_of (hst.get 0 rfl) rfl) ?_) | fail); refine ⟨by first | exact Below.refl _ _ | exact hnew.below, ?_⟩
   refine pn_g rfl ?_; go_wp2_with (first | (first | (refine L_idxO (d := some 26) rfl rfl hst rfl (by rfl) (by rfl) Tryd.underlying54 el_bool 0 rfl (by first | rfl | omega) (by omega) (by omega) ?_; intro o26 p26 ha26; (first | subst ha26 | (obtain ⟨h1, h2⟩ := some_addr ha26; subst h1; subst h2; clear ha26) | skip))) | fail); refine ⟨by first | exact Below.refl _ _ | exact hnew.below, ?_⟩
   refine pn_e rfl ?_; go_wp2_with (first | (refine wpl_at (.store 4 (.tmp 26) (.tmp 21)) rfl ?_; first | (refine L_storeR rfl rfl hst rfl (by rfl) (ev_tmp rfl) rfl el_bool 0 rfl (by first | omega | (simp; done) | (simp; omega)) ?_; clear hst; intro WS13 hst; simp only [List.set_cons_zero, List.set_cons_succ, HP.out, HQ.out] at hst)) | fail)
   refine pn_g rfl ?_; go_wp2_with (first | (first | (refine L_idxO (d := some 27) rfl rfl hst rfl (by rfl) (by rfl) Tryd.underlying54 el_bool 0 rfl (by first | rfl | omega) (by omega) (by omega) ?_; intro o27 p27 ha27; (first | subst ha27 | (obtain ⟨h1, h2⟩ := some_addr ha27; subst h1; subst h2; clear ha27) | skip))) | fail); refine ⟨by first | exact Below.refl _ _ | exact hnew.below, ?_⟩
   refine pn_e rfl ?_; go_wp2_with (first | (refine wpl_at (.store 4 (.tmp 27) (.tmp 25)) rfl ?_; first | (refine L_storeR rfl rfl hst rfl (by rfl) (ev_tmp rfl) rfl el_bool 0 rfl (by first | omega | (simp; done) | (simp; omega)) ?_; clear hst; intro WS15 hst; simp only [List.set_cons_zero, List.set_cons_succ, HP.out, HQ.out] at hst)) | fail)
   refine pn_nil ?_
   go_wp2_with fail
   go_roundg (gk - 1)
   case measure => have hi := HI.out; omega
   case rel =>
    have hi := HI.out
    exact ⟨i + 1, _, Lib.hid (by omega), HN, by go_num, by congr 1; omega, by omega, hst⟩
  ·have hd := HS.out.done (by rw [Hl.out]; omega)
   rw [hd] at hst
   clear hd hi HI
   go_wp2_with (first
    | fail)
   go_end0
   exact ⟨rfl, hst⟩
set_option maxHeartbeats 2000000 in
theorem sides_any (i n : Nat) (hn : n ≤ 256) (hin : i < n) (w : World) : Calls Tryd.prog 93 #[.int .i64 (i : Int), .int .i64 (n : Int)] w fun e w' => ∃ A c, e = .returned (.slice A (longN i n) c) ∧ St w w' [.row A (longN i n) c 4 1 (boolsL (sidesN i n))] := by
 have hst := St.refl w
 go_enter Tryd.func93, Tryd.ntmps93
 go_wp2_with (first
  | fail)
 have hst : St w w [.row none 0 0 4 1 (boolsL [])] := hst.nilRow 4 1
 go_loopg [0, 1, 4] n (fun gk s0 s1 s4 wr => ∃ (i' p : Nat) (lt : List Bool) (O : Option Addr) (oc : Nat), Hid (lt ++ sidesN i' gk = sidesN i n) ∧ Hid (lt.length = p) ∧ i' < gk ∧ p + gk ≤ n ∧ s0 = .int .i64 (i' : Int) ∧ s1 = .int .i64 (gk : Int) ∧ s4 = .slice O p oc ∧ St w wr [.row O p oc 4 1 (boolsL lt)])
 case atStart => exact ⟨i, 0, [], none, 0, Lib.hid rfl, Lib.hid rfl, hin, by omega, rfl, rfl, rfl, hst⟩
 case round =>
  clear hst
  obtain ⟨i', p, lt, O, oc, HS, HL, hi', hp, rfl, rfl, rfl, hst⟩ := hrel
  by_cases h1 : 1 < gk
  ·have hlt := halfN_lt gk (by omega)
   have hps := halfN_pos gk
   have HF := Lib.hid (fun w => half_any gk (by omega) (by omega) w)
   by_cases hk : i' < halfN gk
   ·have HN := Lib.hid (show (lt ++ [true]) ++ sidesN i' (halfN gk) = sidesN i n by
     rw [← HS.out, sidesN_left (by omega) hk, List.append_assoc]
     rfl)
    have HB := Lib.hid (show boolsL lt ++ [.bool true] = boolsL (lt ++ [true]) by rw [boolsL_append]; rfl)
    generalize halfN gk = k at *
    go_wp2_with (first
     | (go_at_call 104; (try clear hnew); refine (HF.out _).mono ?_; rintro e Wk1 ⟨rfl, hnew⟩; replace hst := hst.keep hnew)
     | (refine L_buildS (d := some 14) rfl rfl rfl [_] (bs_1 (ev_tmp rfl)) rfl Tryd.underlying54 el_bool rfl (by first | (simp [Value.cells]; done) | (simp [Value.cells, Dig.size]; done)) (by decide) (by decide) ?_; (try clear hnew); intro g14 W14 hnew; replace hst := hst.trans hnew; simp only [List.cons_append, List.nil_append] at hst; simp only [List.flatMap_cons, List.flatMap_nil, List.append_nil, Value.cells, List.toList_toArray] at hst)
     | (refine L_appendO (d := some 15) rfl rfl hst rfl (by rfl) (by rfl) Tryd.underlying54 el_bool rfl (by decide) (by decide) 0 rfl (by first | rfl | omega) (by first | exact hst.sl 0 rfl | exact hst.sl 1 rfl | assumption | exact hst.old (by decide) (by assumption)) (by first | exact oneCell_bytes | (simp [Value.oneCell']; done)) (by omega) ?_; clear hst; intro A15 c15 W15 hst; simp only [List.set_cons_zero, List.set_cons_succ, List.nil_append, Nat.zero_add] at hst)
     | (refine L_appendO (d := some 15) rfl rfl hst rfl (by rfl) (by rfl) Tryd.underlying54 el_bool rfl (by decide) (by decide) 1 rfl (by first | rfl | omega) (by first | exact hst.sl 0 rfl | exact hst.sl 1 rfl | assumption | exact hst.old (by decide) (by assumption)) (by first | exact oneCell_bytes | (simp [Value.oneCell']; done)) (by omega) ?_; clear hst; intro A15 c15 W15 hst; simp only [List.set_cons_zero, List.set_cons_succ, List.nil_append, Nat.zero_add] at hst)
     | (refine L_appendF (d := some 15) rfl rfl rfl (by rfl) (by rfl) Tryd.underlying54 el_bool rfl (by decide) (by assumption) (by first | assumption | exact hst.sl 0 rfl | exact hst.sl 1 rfl | assumption | exact hst.old (by decide) (by assumption)) (by omega) (by omega) (by omega) ?_; (try clear hnew); intro A15 c15 W15 hnew; replace hst := hst.trans hnew; simp only [List.cons_append, List.nil_append] at hst)
     | fail)
    go_roundg k
    case measure => exact hlt
    case rel =>
     refine ⟨i', p + 1, lt ++ [true], A15, c15, HN, Lib.hid (by rw [List.length_append, HL.out]; rfl), hk, by omega, rfl, rfl, rfl, ?_⟩
     rw [← HB.out]
     exact hst.pick [1] (by decide)
   ·have HN := Lib.hid (show (lt ++ [false]) ++ sidesN (i' - halfN gk) (gk - halfN gk) = sidesN i n by
     rw [← HS.out, sidesN_right (by omega) hk, List.append_assoc]
     rfl)
    have HB := Lib.hid (show boolsL lt ++ [.bool false] = boolsL (lt ++ [false]) by rw [boolsL_append]; rfl)
    generalize halfN gk = k at *
    go_wp2_with (first
     | (go_at_call 104; (try clear hnew); refine (HF.out _).mono ?_; rintro e Wk2 ⟨rfl, hnew⟩; replace hst := hst.keep hnew)
     | (refine L_buildS (d := some 14) rfl rfl rfl [_] (bs_1 (ev_tmp rfl)) rfl Tryd.underlying54 el_bool rfl (by first | (simp [Value.cells]; done) | (simp [Value.cells, Dig.size]; done)) (by decide) (by decide) ?_; (try clear hnew); intro g14 W14 hnew; replace hst := hst.trans hnew; simp only [List.cons_append, List.nil_append] at hst; simp only [List.flatMap_cons, List.flatMap_nil, List.append_nil, Value.cells, List.toList_toArray] at hst)
     | (refine L_appendO (d := some 15) rfl rfl hst rfl (by rfl) (by rfl) Tryd.underlying54 el_bool rfl (by decide) (by decide) 0 rfl (by first | rfl | omega) (by first | exact hst.sl 0 rfl | exact hst.sl 1 rfl | assumption | exact hst.old (by decide) (by assumption)) (by first | exact oneCell_bytes | (simp [Value.oneCell']; done)) (by omega) ?_; clear hst; intro A15 c15 W15 hst; simp only [List.set_cons_zero, List.set_cons_succ, List.nil_append, Nat.zero_add] at hst)
     | (refine L_appendO (d := some 15) rfl rfl hst rfl (by rfl) (by rfl) Tryd.underlying54 el_bool rfl (by decide) (by decide) 1 rfl (by first | rfl | omega) (by first | exact hst.sl 0 rfl | exact hst.sl 1 rfl | assumption | exact hst.old (by decide) (by assumption)) (by first | exact oneCell_bytes | (simp [Value.oneCell']; done)) (by omega) ?_; clear hst; intro A15 c15 W15 hst; simp only [List.set_cons_zero, List.set_cons_succ, List.nil_append, Nat.zero_add] at hst)
     | (refine L_appendF (d := some 15) rfl rfl rfl (by rfl) (by rfl) Tryd.underlying54 el_bool rfl (by decide) (by assumption) (by first | assumption | exact hst.sl 0 rfl | exact hst.sl 1 rfl | assumption | exact hst.old (by decide) (by assumption)) (by omega) (by omega) (by omega) ?_; (try clear hnew); intro A15 c15 W15 hnew; replace hst := hst.trans hnew; simp only [List.cons_append, List.nil_append] at hst)
     | fail)
    go_roundg (gk - k)
    case measure => omega
    case rel =>
     refine ⟨i' - k, p + 1, lt ++ [false], A15, c15, HN, Lib.hid (by rw [List.length_append, HL.out]; rfl), by omega, by omega, by congr 1; omega, by congr 1; omega, rfl, ?_⟩
     rw [← HB.out]
     exact hst.pick [1] (by decide)
  ·have HN := Lib.hid (show lt = sidesN i n by rw [← HS.out, sidesN_one i' (by omega), List.append_nil])
   have hp' : p = longN i n := by rw [← length_sidesN, ← HN.out, HL.out]
   rw [hp', HN.out] at hst
   rw [hp']
   clear hp HS HL hp'
   go_wp2_with (first
    | fail)
   go_ret
   exact ⟨_, _, rfl, hst⟩
end Go.Proofs.YtaebeemnipafbaaDoor

set_option maxRecDepth 20000
set_option linter.unusedSimpArgs false
set_option linter.unusedVariables false
namespace Go.Proofs.YtaebeemnipafbaaDoor
open Go.RowKit
set_option maxHeartbeats 2000000 in
theorem revD_any (l : List Dig) (n c : Nat) (A : Option Addr) (w0 w : World) (L : List Res) (hst : St w0 w (.row A n c 30 32 (digsL l) :: L)) :
  Calls Tryd.prog 105 #[.slice A n c] w fun e w' => e = .returned (.tuple #[]) ∧ St w0 w' (.row A n c 30 32 (digsL l.reverse) :: L) := by
 have hl : l.length = n := by have := (hst.sl 0 rfl).1; rw [length_digsL] at this; omega
 have hcap := (hst.sl 0 rfl).2.1
 have hmax := (hst.sl 0 rfl).2.2.1
 simp only [maxLen] at hmax
 have Hl := Lib.hid hl
 clear hl
 go_enter Tryd.func105, Tryd.ntmps105
 go_wp2_with (first
  | fail)
 go_loopg [2, 3] n (fun gk s2 s3 wr => ∃ (i : Nat) (l' : List Dig), Hid (i + gk = n) ∧ Hid (SwapAt l l' i) ∧ s2 = .int .i64 (i : Int) ∧ s3 = .int .i64 ((n : Int) - 1 - (i : Int)) ∧ 2 * i ≤ n ∧ St w0 wr (.row A n c 30 32 (digsL l') :: L))
 case atStart => exact ⟨0, l, Lib.hid (by omega), Lib.hid (SwapAt.start l), rfl, by congr 1; omega, by omega, hst⟩
 case round =>
  clear hst
  obtain ⟨i, l', HI, HS, rfl, rfl, h2i, hst⟩ := hrel
  have hi := HI.out
  by_cases hin : (i : Int) < (n : Int) - 1 - (i : Int)
  ·clear hi
   obtain ⟨x, hx⟩ : ∃ x, l'[i]? = some x := ⟨l'[i]'(by rw [HS.out.len, Hl.out]; omega), List.getElem?_eq_getElem _⟩
   obtain ⟨y, hy⟩ : ∃ y, l'[l.length - 1 - i]? = some y := ⟨l'[l.length - 1 - i]'(by rw [HS.out.len, Hl.out]; omega), List.getElem?_eq_getElem _⟩
   have HN := Lib.hid (HS.out.step (by rw [Hl.out]; omega) hx hy)
   have hat : ∀ (k : Nat) (z : Dig), l'[k]? = some z → ((digsL l').drop (k * 32)).take 32 = z.arr.toList := fun k z hz => by
    obtain ⟨hk, rfl⟩ := List.getElem?_eq_some_iff.1 hz
    rw [digsL_at l' k hk, Dig.toList]
   have HX := Lib.hid (hat i x hx)
   have HY := Lib.hid (show ((digsL l').drop (((n : Int) - 1 - (i : Int)).toNat * 32)).take 32 = y.arr.toList by
    rw [show ((n : Int) - 1 - (i : Int)).toNat = l.length - 1 - i by rw [Hl.out]; omega]
    exact hat _ y hy)
   have HP := Lib.hid (show ((digsL l').take ((i : Int).toNat * 32) ++ y.arr.toList ++ (digsL l').drop ((i : Int).toNat * 32 + 32)) = digsL (l'.set i y) from digsL_set l' i y (by rw [HS.out.len, Hl.out]; omega))
   have HQ := Lib.hid (show ((digsL (l'.set i y)).take (((n : Int) - 1 - (i : Int)).toNat * 32) ++ x.arr.toList ++ (digsL (l'.set i y)).drop (((n : Int) - 1 - (i : Int)).toNat * 32 + 32)) = digsL ((l'.set i y).set (l.length - 1 - i) x) by
    rw [Hl.out, show ((n : Int) - 1 - (i : Int)).toNat = n - 1 - i by omega]
    exact digsL_set _ _ x (by rw [List.length_set, HS.out.len, Hl.out]; omega))
   clear hx hy hat
   go_wp2_with (first
    | fail)
   refine wp_region_pn (.one 0 3 (.one 1 3 (.one 2 3 (.one 3 3 (.one 4 3 (.one 5 3 (.one 8 3 (.one 9 3 (.one 6 0 (.one 7 0 (.one 10 2 (.one 11 2 (.one 12 2 (.one 13 1 (.one 14 2 (.one 15 1 .nil)))))))))))))))) (by kernel_rfl) (by kernel_rfl) ?_
   replace hst := hst.drew
   refine pn_p rfl rfl ?_; go_wp2_with fail
   refine pn_p rfl rfl ?_; go_wp2_with fail
   refine pn_p rfl rfl ?_; go_wp2_with fail
   refine pn_p rfl rfl ?_; go_wp2_with fail
   refine pn_p rfl rfl ?_; go_wp2_with fail
   refine pn_p rfl rfl ?_; go_wp2_with fail
   refine pn_p rfl rfl ?_; go_wp2_with fail
   refine pn_p rfl rfl ?_; go_wp2_with fail
   refine pn_q rfl rfl ?_; go_wp2_with (first | (refine L_idxS (d := some 20) rfl rfl rfl (by rfl) (by rfl) Tryd.underlying36 el_api_Digest (by first | assumption | exact hst.sl 0 rfl | exact hst.old (by decide) (by assumption)) (by omega) (by omega) ?_; intro o20 p20 ha20 hr20; (first | subst ha20 | (obtain ⟨h1, h2⟩ := some_addr ha20; subst h1; subst h2; clear ha20) | skip)) | fail)
   refine pn_q rfl rfl ?_; go_wp2_with (first | (refine L_loadM (d := some 21) rfl rfl rfl (by rfl) Tryd.underlying30 rfl el_api_Digest (cs := y.arr) (by rw [← HY.out]; exact hr20) (Dig.size _) ?_) | (first | (refine L_loadA (d := some 21) rfl rfl rfl (by rfl) Tryd.underlying30 rfl el_api_Digest (by first | exact hst.get 0 rfl) (by first | rfl | exact Dig.size _ | (simp; done)) ?_) | (refine L_loadM (d := some 21) rfl rfl rfl (by rfl) Tryd.underlying30 rfl el_api_Digest (by first | assumption) (by first | rfl | exact Dig.size _ | (simp; done)) ?_)) | fail)
   refine pn_g rfl ?_; go_wp2_with (first | (refine L_idxS (d := some 24) rfl rfl rfl (by rfl) (by rfl) Tryd.underlying36 el_api_Digest (by first | assumption | exact hst.sl 0 rfl | exact hst.old (by decide) (by assumption)) (by omega) (by omega) ?_; intro o24 p24 ha24 hr24; (first | subst ha24 | (obtain ⟨h1, h2⟩ := some_addr ha24; subst h1; subst h2; clear ha24) | skip)) | fail); refine ⟨by first | exact Below.refl _ _ | exact hnew.below, ?_⟩
   refine pn_g rfl ?_; go_wp2_with (first | (refine L_loadM (d := some 25) rfl rfl rfl (by rfl) Tryd.underlying30 rfl el_api_Digest (cs := x.arr) (by rw [← HX.out]; exact hr24) (Dig.size _) ?_) | (first | (refine L_loadA (d := some 25) rfl rfl rfl (by rfl) Tryd.underlying30 rfl el_api_Digest (by first | exact hst.get 0 rfl) (by first | rfl | exact Dig.size _ | (simp; done)) ?_) | (refine L_loadM (d := some 25) rfl rfl rfl (by rfl) Tryd.underlying30 rfl el_api_Digest (by first | assumption) (by first | rfl | exact Dig.size _ | (simp; done)) ?_)) | fail); refine ⟨by first | exact Below.refl _ _ | exact hnew.below, ?_⟩
   refine pn_g rfl ?_; go_wp2_with (first | (first | (refine L_idxO (d := some 26) rfl rfl hst rfl (by rfl) (by rfl) Tryd.underlying36 el_api_Digest 0 rfl (by first | rfl | omega) (by omega) (by omega) ?_; intro o26 p26 ha26; (first | subst ha26 | (obtain ⟨h1, h2⟩ := some_addr ha26; subst h1; subst h2; clear ha26) | skip))) | fail); refine ⟨by first | exact Below.refl _ _ | exact hnew.below, ?_⟩
   refine pn_e rfl ?_; go_wp2_with (first | (refine wpl_at (.store 30 (.tmp 26) (.tmp 21)) rfl ?_; first | (refine L_storeRM rfl rfl hst rfl (by rfl) (ev_tmp rfl) (by first | rfl | exact Dig.one _ | (simp; done)) el_api_Digest (by first | rfl | exact Dig.size _ | (simp; done)) 0 rfl (by first | omega | (simp; done) | (simp; omega)) ?_; clear hst; intro WS13 hst; simp only [List.set_cons_zero, List.set_cons_succ, HP.out, HQ.out] at hst)) | fail)
   refine pn_g rfl ?_; go_wp2_with (first | (first | (refine L_idxO (d := some 27) rfl rfl hst rfl (by rfl) (by rfl) Tryd.underlying36 el_api_Digest 0 rfl (by first | rfl | omega) (by omega) (by omega) ?_; intro o27 p27 ha27; (first | subst ha27 | (obtain ⟨h1, h2⟩ := some_addr ha27; subst h1; subst h2; clear ha27) | skip))) | fail); refine ⟨by first | exact Below.refl _ _ | exact hnew.below, ?_⟩
   refine pn_e rfl ?_; go_wp2_with (first | (refine wpl_at (.store 30 (.tmp 27) (.tmp 25)) rfl ?_; first | (refine L_storeRM rfl rfl hst rfl (by rfl) (ev_tmp rfl) (by first | rfl | exact Dig.one _ | (simp; done)) el_api_Digest (by first | rfl | exact Dig.size _ | (simp; done)) 0 rfl (by first | omega | (simp; done) | (simp; omega)) ?_; clear hst; intro WS15 hst; simp only [List.set_cons_zero, List.set_cons_succ, HP.out, HQ.out] at hst)) | fail)
   refine pn_nil ?_
   go_wp2_with fail
   go_roundg (gk - 1)
   case measure => have hi := HI.out; omega
   case rel =>
    have hi := HI.out
    exact ⟨i + 1, _, Lib.hid (by omega), HN, by go_num, by congr 1; omega, by omega, hst⟩
  ·have hd := HS.out.done (by rw [Hl.out]; omega)
   rw [hd] at hst
   clear hd hi HI
   go_wp2_with (first
    | fail)
   go_end0
   exact ⟨rfl, hst⟩
end Go.Proofs.YtaebeemnipafbaaDoor

set_option maxRecDepth 20000
set_option linter.unusedSimpArgs false
set_option linter.unusedVariables false
namespace Go.Proofs.YtaebeemnipafbaaDoor
open Go.RowKit
theorem dig_oneL (d : Dig) : ∀ u ∈ d.arr.toList, u.oneCell' = true := by
 rw [Dig.toList]
 exact oneCell_bytes
set_option maxHeartbeats 4000000 in
theorem tPath_any (ls : List Dig) (A : Option Addr) (n c i : Nat) (w : World) (hT : Tb w) (hx : SlR w A n c 32 (digsL ls)) (hn : n ≤ 256) (hin : i < n) :
  Calls Tryd.prog 70 #[.slice A n c, .int .i64 (i : Int)] w fun e w' => ∃ O oc, e = .returned (.tuple #[.slice O (longN i n) oc, .nilIface]) ∧ St w w' [.row O (longN i n) oc 30 32 (digsL (pathN ls i))] := by
 have hst := St.refl w
 have HT := Lib.hid hT
 have hl : ls.length = n := by have := hx.1; rw [length_digsL] at this; omega
 have Hl := Lib.hid hl
 have h1 : ¬ (256 : Int) < (n : Int) := by omega
 have h2 : ¬ (i : Int) < 0 := by omega
 have h3 : ¬ (n : Int) ≤ (i : Int) := by omega
 clear hT hl
 go_enter Tryd.func70, Tryd.ntmps70
 go_wp2_with (fail)
 have hst : St w w [.row none 0 0 30 32 (digsL [])] := hst.nilRow 30 32
 clear h1 h2 h3
 go_loopg [0, 1, 6] n (fun gk s0 s1 s6 wr => ∃ (i' p : Nat) (cur out : List Dig) (B O : Option Addr) (d oc : Nat), Hid (out ++ (pathN cur i').reverse = (pathN ls i).reverse) ∧ Hid (out.length = p) ∧ Hid (cur.length = gk) ∧ i' < gk ∧ p + gk ≤ n ∧ s0 = .slice B gk d ∧ s1 = .int .i64 (i' : Int) ∧ s6 = .slice O p oc ∧ SlR w B gk d 32 (digsL cur) ∧ St w wr [.row O p oc 30 32 (digsL out)])
 case atStart => exact ⟨i, 0, ls, [], A, none, c, 0, Lib.hid rfl, Lib.hid rfl, Hl, hin, by omega, rfl, rfl, rfl, hx, hst⟩
 case round =>
  clear hst
  obtain ⟨i', p, cur, out, B, O, d, oc, HS, HO, HC, hi', hp, rfl, rfl, rfl, hcur, hst⟩ := hrel
  have hcap := hcur.2.1
  by_cases h1 : 1 < gk
  ·have hlt := halfN_lt gk (by omega)
   have hps := halfN_pos gk
   have HF := Lib.hid (fun w => half_any gk (by omega) (by omega) w)
   have H1 := Lib.hid (show ((digsL cur).drop (0 * 32)).take ((halfN gk - 0) * 32) = digsL (cur.take (halfN gk)) by rw [digsL_cut]; rfl)
   have H2 := Lib.hid (show ((digsL cur).drop (halfN gk * 32)).take ((gk - halfN gk) * 32) = digsL (cur.drop (halfN gk)) by rw [digsL_cut, List.take_of_length_le (by rw [List.length_drop, HC.out]; omega)])
   by_cases hk : i' < halfN gk
   ·have HN := Lib.hid (show (out ++ [rootN (cur.drop (halfN gk))]) ++ (pathN (cur.take (halfN gk)) i').reverse = (pathN ls i).reverse by
     rw [← HS.out, pathN_left (ls := cur) (by rw [HC.out]; omega) (by rw [HC.out]; exact hk), List.reverse_append, HC.out, List.append_assoc]
     rfl)
    have HB := Lib.hid (show digsL out ++ (rootN (cur.drop (halfN gk))).arr.toList = digsL (out ++ [rootN (cur.drop (halfN gk))]) by rw [digsL_append, digsL_single, Dig.toList])
    have HL := Lib.hid (show (cur.take (halfN gk)).length = halfN gk by rw [List.length_take, HC.out]; omega)
    generalize halfN gk = k at *
    go_wp2_with (first | (go_at_call 104; (try clear hnew); refine (HF.out _).mono ?_; rintro e Wk1 ⟨rfl, hnew⟩; replace hst := hst.keep hnew) | (go_at_call 82; (try clear hnew); refine (root_any (gk - k) (cur.drop k) A33 c33 _ (HT.out.of hst) (by rw [← H2.out]; exact hst.old (by decide) hs33) (by omega)).mono ?_; rintro e Wk2 ⟨rfl, hnew⟩; replace hst := hst.keep hnew) | ((refine L_cutV (d := some 33) rfl rfl rfl (by rfl) Tryd.underlying36 el_api_Digest (by decide) hcur k gk _ (Or.inr ⟨_, _, rfl, by (exact ev_tmp rfl)⟩) (Or.inl ⟨rfl, rfl, rfl⟩) (Or.inl ⟨rfl, rfl⟩) (by omega) (by omega) (by omega) (by omega) ?_; intro A33 c33 hs33)) | (refine L_buildS (d := some 35) rfl rfl rfl [_] (bs_1 (ev_tmp rfl)) rfl Tryd.underlying36 el_api_Digest rfl (by (simp [Value.cells, Dig.size]; done)) (by decide) (by decide) ?_; (try clear hnew); intro g35 W35 hnew; replace hst := hst.trans hnew; simp only [List.cons_append, List.nil_append] at hst; simp only [List.flatMap_cons, List.flatMap_nil, List.append_nil, Value.cells, List.toList_toArray] at hst) | (refine L_appendO (d := some 36) rfl rfl hst rfl (by rfl) (by rfl) Tryd.underlying36 el_api_Digest rfl (by decide) (by decide) 1 rfl (by (rfl)) (by (exact hst.sl 0 rfl)) (by (exact oneCell_bytes)) (by omega) ?_; clear hst; intro A36 c36 W36 hst; simp only [List.set_cons_zero, List.set_cons_succ, List.nil_append, Nat.zero_add] at hst) | ((refine L_cutV (d := some 39) rfl rfl rfl (by rfl) Tryd.underlying36 el_api_Digest (by decide) hcur 0 k _ (Or.inl ⟨rfl, rfl⟩) (Or.inr ⟨_, _, rfl, by (exact ev_tmp rfl)⟩) (Or.inl ⟨rfl, rfl⟩) (by omega) (by omega) (by omega) (by omega) ?_; intro A39 c39 hs39)))
    go_roundg k
    case measure => exact hlt
    case rel =>
     refine ⟨i', p + 1, cur.take k, out ++ [rootN (cur.drop k)], A39, A36, c39, c36, HN, Lib.hid (by rw [List.length_append, HO.out]; rfl), HL, hk, by omega, rfl, rfl, rfl, by rw [← H1.out]; exact hs39, ?_⟩
     rw [← HB.out]
     exact hst.pick [1] (by decide)
   ·have HN := Lib.hid (show (out ++ [rootN (cur.take (halfN gk))]) ++ (pathN (cur.drop (halfN gk)) (i' - halfN gk)).reverse = (pathN ls i).reverse by
     rw [← HS.out, pathN_right (ls := cur) (by rw [HC.out]; omega) (by rw [HC.out]; exact hk), List.reverse_append, HC.out, List.append_assoc]
     rfl)
    have HB := Lib.hid (show digsL out ++ (rootN (cur.take (halfN gk))).arr.toList = digsL (out ++ [rootN (cur.take (halfN gk))]) by rw [digsL_append, digsL_single, Dig.toList])
    have HL := Lib.hid (show (cur.drop (halfN gk)).length = gk - halfN gk by rw [List.length_drop, HC.out])
    generalize halfN gk = k at *
    go_wp2_with (first | (go_at_call 104; (try clear hnew); refine (HF.out _).mono ?_; rintro e Wk3 ⟨rfl, hnew⟩; replace hst := hst.keep hnew) | (go_at_call 82; (try clear hnew); refine (root_any k (cur.take k) A43 c43 _ (HT.out.of hst) (by rw [← H1.out]; exact hst.old (by decide) hs43) (by omega)).mono ?_; rintro e Wk4 ⟨rfl, hnew⟩; replace hst := hst.keep hnew) | ((refine L_cutV (d := some 43) rfl rfl rfl (by rfl) Tryd.underlying36 el_api_Digest (by decide) hcur 0 k _ (Or.inl ⟨rfl, rfl⟩) (Or.inr ⟨_, _, rfl, by (exact ev_tmp rfl)⟩) (Or.inl ⟨rfl, rfl⟩) (by omega) (by omega) (by omega) (by omega) ?_; intro A43 c43 hs43)) | (refine L_buildS (d := some 45) rfl rfl rfl [_] (bs_1 (ev_tmp rfl)) rfl Tryd.underlying36 el_api_Digest rfl (by (simp [Value.cells, Dig.size]; done)) (by decide) (by decide) ?_; (try clear hnew); intro g45 W45 hnew; replace hst := hst.trans hnew; simp only [List.cons_append, List.nil_append] at hst; simp only [List.flatMap_cons, List.flatMap_nil, List.append_nil, Value.cells, List.toList_toArray] at hst) | (refine L_appendO (d := some 46) rfl rfl hst rfl (by rfl) (by rfl) Tryd.underlying36 el_api_Digest rfl (by decide) (by decide) 1 rfl (by (rfl)) (by (exact hst.sl 0 rfl)) (by (exact oneCell_bytes)) (by omega) ?_; clear hst; intro A46 c46 W46 hst; simp only [List.set_cons_zero, List.set_cons_succ, List.nil_append, Nat.zero_add] at hst) | ((refine L_cutV (d := some 49) rfl rfl rfl (by rfl) Tryd.underlying36 el_api_Digest (by decide) hcur k gk _ (Or.inr ⟨_, _, rfl, by (exact ev_tmp rfl)⟩) (Or.inl ⟨rfl, rfl, rfl⟩) (Or.inl ⟨rfl, rfl⟩) (by omega) (by omega) (by omega) (by omega) ?_; intro A49 c49 hs49)))
    go_roundg (gk - k)
    case measure => omega
    case rel =>
     refine ⟨i' - k, p + 1, cur.drop k, out ++ [rootN (cur.take k)], A49, A46, c49, c46, HN, Lib.hid (by rw [List.length_append, HO.out]; rfl), HL, by omega, by omega, rfl, by congr 1; omega, rfl, by rw [← H2.out]; exact hs49, ?_⟩
     rw [← HB.out]
     exact hst.pick [1] (by decide)
  ·have HN := Lib.hid (show out.reverse = pathN ls i by
    have := HS.out
    rw [pathN_one i' (by rw [HC.out]; omega), List.reverse_nil, List.append_nil] at this
    rw [this, List.reverse_reverse])
   have hp' : p = longN i n := by rw [← HO.out, ← length_pathN n ls i Hl.out, ← HN.out, List.length_reverse]
   rw [hp'] at hst
   rw [hp']
   clear hp HS HO hp'
   go_wp2_with ((go_at_call 105; refine (revD_any out _ _ _ w _ [] hst).mono ?_; rintro e Wr ⟨rfl, hst'⟩; clear hst; have hst := hst'; clear hst'; rw [HN.out] at hst))
   exact bp_two rfl rfl rfl rfl ⟨_, _, rfl, hst⟩
theorem tPath_full (A : Option Addr) (n c : Nat) (i : Int) (w : World) (hn : 256 < n) :
  Calls Tryd.prog 70 #[.slice A n c, .int .i64 i] w fun e w' => e = .returned (.tuple #[.slice none 0 0, errV 4]) ∧ St w w' [] := by
 have hst := St.refl w
 have h1 : (256 : Int) < (n : Int) := by omega
 go_enter Tryd.func70, Tryd.ntmps70
 go_wp2_with (fail)
 exact bp_two rfl rfl rfl rfl ⟨rfl, hst⟩
theorem tPath_range (A : Option Addr) (n c : Nat) (i : Int) (w : World) (hn : n ≤ 256) (hi : i < 0 ∨ (n : Int) ≤ i) :
  Calls Tryd.prog 70 #[.slice A n c, .int .i64 i] w fun e w' => e = .returned (.tuple #[.slice none 0 0, errV 2]) ∧ St w w' [] := by
 have hst := St.refl w
 have h1 : ¬ (256 : Int) < (n : Int) := by omega
 by_cases h2 : i < 0
 ·go_enter Tryd.func70, Tryd.ntmps70
  go_wp2_with (fail)
  exact bp_two rfl rfl rfl rfl ⟨rfl, hst⟩
 ·have h3 : (n : Int) ≤ i := by omega
  go_enter Tryd.func70, Tryd.ntmps70
  go_wp2_with (fail)
  exact bp_two rfl rfl rfl rfl ⟨rfl, hst⟩
theorem foldN_step (l : Dig) (zs : List (Dig × Bool)) (j : Nat) (hj : j < zs.length) : foldN l (zs.take (j + 1)) = if (zs[j]).2 then nodeN (foldN l (zs.take j)) (zs[j]).1 else nodeN (zs[j]).1 (foldN l (zs.take j)) := by
 rw [List.take_succ_eq_append_getElem hj, foldN_append]
 rfl
set_option maxHeartbeats 4000000 in
theorem tFold_any (l : Dig) (path : List Dig) (A : Option Addr) (m c i n : Nat) (w : World) (hT : Tb w) (hx : SlR w A m c 32 (digsL path)) (hn : n ≤ 256) (hin : i < n) (hm : m = longN i n) :
  Calls Tryd.prog 57 #[l.v, .int .i64 (i : Int), .int .i64 (n : Int), .slice A m c] w fun e w' => e = .returned (.tuple #[(foldedN l i n path).v, .nilIface]) ∧ St w w' [] := by
 have hst := St.refl w
 have HT := Lib.hid hT
 have hl : path.length = m := by have := hx.1; rw [length_digsL] at this; omega
 have hmax := hx.2.2.1
 have hcap := hx.2.1
 simp only [maxLen] at hmax
 have hsl : (sidesN i n).reverse.length = m := by rw [List.length_reverse, length_sidesN, hm]
 have HSd := Lib.hid (sides_any i n hn hin)
 have HM := Lib.hid hm
 have h1 : ¬ (n : Int) < 1 := by omega
 have h2 : ¬ (256 : Int) < (n : Int) := by omega
 have h3 : ¬ (i : Int) < 0 := by omega
 have h4 : ¬ (n : Int) ≤ (i : Int) := by omega
 clear hT
 go_enter Tryd.func57, Tryd.ntmps57
 rw [← HM.out] at HSd
 have HZ := Lib.hid (show foldN l ((path.zip (sidesN i n).reverse).take m) = foldedN l i n path by
  rw [List.take_of_length_le (by rw [List.length_zip]; omega)]
  rfl)
 have HA := Lib.hid (fun j (hj : j < m) => show ∃ (p : Dig) (b : Bool), ((digsL path).drop (j * 32)).take 32 = p.arr.toList ∧ ((boolsL (sidesN i n).reverse).drop (j * 1)).take 1 = [.bool b] ∧
   foldN l ((path.zip (sidesN i n).reverse).take (j + 1)) = if b then nodeN (foldN l ((path.zip (sidesN i n).reverse).take j)) p else nodeN p (foldN l ((path.zip (sidesN i n).reverse).take j)) by
  refine ⟨path[j]'(by omega), (sidesN i n).reverse[j]'(by omega), by rw [digsL_at path j (by omega), Dig.toList], ?_, ?_⟩
  ·rw [Nat.mul_one, List.drop_eq_getElem_cons (by rw [length_boolsL]; omega)]
   simp [boolsL]
  ·rw [foldN_step _ _ j (by rw [List.length_zip]; omega), List.getElem_zip])
 clear hm hl hsl
 go_wp2_with (first | (go_at_call 93; (try clear hnew); refine (HSd.out _).mono ?_; rintro e Wk5 ⟨A32, c32, rfl, hnew⟩; replace hst := hst.trans hnew; simp only [List.cons_append, List.nil_append] at hst) | (go_at_call 94; (try clear hnew); refine (revB_any (sidesN i n) _ _ _ w _ _ hst).mono ?_; rintro e Wr ⟨rfl, hst'⟩; clear hst; have hst := hst'; clear hst') | (refine L_boxA (d := some 4) rfl rfl rfl (ev_tmp rfl) ?_; (try clear hnew); intro g4 W4 hnew; replace hst := hst.trans hnew; simp only [List.cons_append, List.nil_append] at hst) | (refine L_allocA (d := some 8) rfl rfl rfl el_api_Digest ?_; (try clear hnew); intro g8 W8 hnew; replace hst := hst.trans hnew; simp only [List.cons_append, List.nil_append] at hst))
 clear h1 h2 h3 h4
 have h0 : foldN l ((path.zip (sidesN i n).reverse).take 0) = l := rfl
 generalize boolsL (sidesN i n).reverse = lb at *
 generalize path.zip (sidesN i n).reverse = zs at *
 rw [← h0] at hst
 clear h0
 go_loopg [44] m (fun gk s44 wr => ∃ j : Nat, Hid (j + gk = m) ∧ s44 = .int .i64 (j : Int) ∧ St w wr [.row A32 m c32 4 1 lb, .blk g8 30 zeroD.arr, .blk g4 30 (foldN l (zs.take j)).arr])
 case atStart => exact ⟨0, Lib.hid (by omega), rfl, hst⟩
 case round =>
  clear hst
  obtain ⟨j, HI, rfl, hst⟩ := hrel
  have hi := HI.out
  by_cases hjm : j < m
  ·clear hi
   obtain ⟨p, b, hp, hb, hs⟩ := HA.out j hjm
   have HP := Lib.hid hp
   have HB := Lib.hid (show (lb.drop ((j : Int).toNat * 1)).take 1 = [.bool b] from hb)
   have HS := Lib.hid hs
   clear hp hb hs
   generalize foldN l (zs.take j) = u at *
   cases b
   ·
    go_wp2_with (first | (refine L_loadM (d := some 48) rfl rfl rfl (by rfl) Tryd.underlying30 rfl el_api_Digest (cs := p.arr) (by rw [← HP.out]; exact hr47) (Dig.size _) ?_) | (refine L_load1 (d := some 52) rfl rfl rfl (by rfl) Tryd.underlying4 rfl (v := .bool false) (hr51 0 (.bool false) (by rw [HB.out]; rfl)) ?_) | (go_at_call 95; (try clear hnew); with_reducible refine (node_any _ _ _ (HT.out.of hst)).mono ?_; rintro e Wk6 ⟨rfl, hnew⟩; replace hst := hst.keep hnew) | (refine L_idxS (d := some 47) rfl rfl rfl (by rfl) (by rfl) Tryd.underlying36 el_api_Digest (by (exact hst.old (by decide) hx)) (by omega) (by omega) ?_; intro o47 p47 ha47 hr47; ((subst ha47))) | (refine L_allocA (d := some 12) rfl rfl rfl el_api_Digest ?_; (try clear hnew); intro g12 W12 hnew; replace hst := hst.trans hnew; simp only [List.cons_append, List.nil_append] at hst) | (refine wpl_at (.store 30 (.tmp 12) (.tmp 48)) rfl ?_; (refine L_storeA rfl rfl hst rfl (by rfl) (ev_tmp rfl) (by (exact Dig.one _)) el_api_Digest (by (exact Dig.size _)) 0 rfl (by (rfl)) ?_; clear hst; intro WS5 hst; simp only [List.set_cons_zero, List.set_cons_succ] at hst)) | (refine L_idxS (d := some 51) rfl rfl rfl (by rfl) (by rfl) Tryd.underlying54 el_bool (by (exact hst.sl 1 rfl)) (by omega) (by omega) ?_; intro o51 p51 ha51 hr51; ((subst ha51))) | ((refine L_loadA (d := some 56) rfl rfl rfl (by rfl) Tryd.underlying30 rfl el_api_Digest (by (exact hst.get 0 rfl)) (by (exact Dig.size _)) ?_)) | ((refine L_loadA (d := some 57) rfl rfl rfl (by rfl) Tryd.underlying30 rfl el_api_Digest (by (exact hst.get 3 rfl)) (by (exact Dig.size _)) ?_)) | (refine wpl_at (.store 30 (.tmp 4) (.tmp 58)) rfl ?_; (refine L_storeA rfl rfl hst rfl (by rfl) (ev_tmp rfl) (by (exact Dig.one _)) el_api_Digest (by (rfl)) 3 rfl (by (exact Dig.size _)) ?_; clear hst; intro WS3 hst; simp only [List.set_cons_zero, List.set_cons_succ] at hst)))
    go_roundg (gk - 1)
    case measure => have hi := HI.out; omega
    case rel =>
     have hi := HI.out
     refine ⟨j + 1, Lib.hid (by omega), by go_num, ?_⟩
     rw [HS.out]
     exact hst.pick [1, 2, 3] (by decide)
   ·
    go_wp2_with (first | (refine L_loadM (d := some 48) rfl rfl rfl (by rfl) Tryd.underlying30 rfl el_api_Digest (cs := p.arr) (by rw [← HP.out]; exact hr47) (Dig.size _) ?_) | (refine L_load1 (d := some 52) rfl rfl rfl (by rfl) Tryd.underlying4 rfl (v := .bool true) (hr51 0 (.bool true) (by rw [HB.out]; rfl)) ?_) | (go_at_call 95; (try clear hnew); with_reducible refine (node_any _ _ _ (HT.out.of hst)).mono ?_; rintro e Wk7 ⟨rfl, hnew⟩; replace hst := hst.keep hnew) | (refine L_idxS (d := some 47) rfl rfl rfl (by rfl) (by rfl) Tryd.underlying36 el_api_Digest (by (exact hst.old (by decide) hx)) (by omega) (by omega) ?_; intro o47 p47 ha47 hr47; ((subst ha47))) | (refine L_allocA (d := some 12) rfl rfl rfl el_api_Digest ?_; (try clear hnew); intro g12 W12 hnew; replace hst := hst.trans hnew; simp only [List.cons_append, List.nil_append] at hst) | (refine wpl_at (.store 30 (.tmp 12) (.tmp 48)) rfl ?_; (refine L_storeA rfl rfl hst rfl (by rfl) (ev_tmp rfl) (by (exact Dig.one _)) el_api_Digest (by (exact Dig.size _)) 0 rfl (by (rfl)) ?_; clear hst; intro WS5 hst; simp only [List.set_cons_zero, List.set_cons_succ] at hst)) | (refine L_idxS (d := some 51) rfl rfl rfl (by rfl) (by rfl) Tryd.underlying54 el_bool (by (exact hst.sl 1 rfl)) (by omega) (by omega) ?_; intro o51 p51 ha51 hr51; ((subst ha51))) | ((refine L_loadA (d := some 53) rfl rfl rfl (by rfl) Tryd.underlying30 rfl el_api_Digest (by (exact hst.get 3 rfl)) (by (exact Dig.size _)) ?_)) | ((refine L_loadA (d := some 54) rfl rfl rfl (by rfl) Tryd.underlying30 rfl el_api_Digest (by (exact hst.get 0 rfl)) (by (exact Dig.size _)) ?_)) | (refine wpl_at (.store 30 (.tmp 4) (.tmp 55)) rfl ?_; (refine L_storeA rfl rfl hst rfl (by rfl) (ev_tmp rfl) (by (exact Dig.one _)) el_api_Digest (by (rfl)) 3 rfl (by (exact Dig.size _)) ?_; clear hst; intro WS3 hst; simp only [List.set_cons_zero, List.set_cons_succ] at hst)))
    go_roundg (gk - 1)
    case measure => have hi := HI.out; omega
    case rel =>
     have hi := HI.out
     refine ⟨j + 1, Lib.hid (by omega), by go_num, ?_⟩
     rw [HS.out]
     exact hst.pick [1, 2, 3] (by decide)
  ·obtain rfl : j = m := by omega
   rw [HZ.out] at hst
   clear hi HI
   go_wp2_with (first | ((refine L_loadA (d := some 60) rfl rfl rfl (by rfl) Tryd.underlying30 rfl el_api_Digest (by (exact hst.get 2 rfl)) (by (exact Dig.size _)) ?_)) | (refine wpl_at (.store 30 (.tmp 8) (.tmp 60)) rfl ?_; (refine L_storeA rfl rfl hst rfl (by rfl) (ev_tmp rfl) (by (exact Dig.one _)) el_api_Digest (by (exact Dig.size _)) 1 rfl (by (rfl)) ?_; clear hst; intro WS1 hst; simp only [List.set_cons_zero, List.set_cons_succ] at hst)))
   refine bp_cell_tmp rfl rfl rfl rfl (hst.get 1 rfl) Tryd.underlying30 rfl el_api_Digest (by (exact Dig.size _)) ?_
   exact ⟨rfl, hst.forget⟩
theorem tFold_length (l : Dig) (A : Option Addr) (m c i n : Nat) (w : World) (hn : n ≤ 256) (hin : i < n) (hm : m ≠ longN i n) :
  Calls Tryd.prog 57 #[l.v, .int .i64 (i : Int), .int .i64 (n : Int), .slice A m c] w fun e w' => e = .returned (.tuple #[zeroD.v, errV 3]) ∧ St w w' [] := by
 have hst := St.refl w
 have h1 : ¬ (n : Int) < 1 := by omega
 have h2 : ¬ (256 : Int) < (n : Int) := by omega
 have h3 : ¬ (i : Int) < 0 := by omega
 have h4 : ¬ (n : Int) ≤ (i : Int) := by omega
 have h5 : ((m : Int) != (longN i n : Int)) = true := by rw [bne_iff_ne]; omega
 clear hm
 go_enter Tryd.func57, Tryd.ntmps57
 go_wp2_with (first | (go_at_call 93; (try clear hnew); refine (sides_any i n hn hin _).mono ?_; rintro e Wk8 ⟨A32, c32, rfl, hnew⟩; replace hst := hst.trans hnew; simp only [List.cons_append, List.nil_append] at hst) | (refine L_boxA (d := some 4) rfl rfl rfl (ev_tmp rfl) ?_; (try clear hnew); intro g4 W4 hnew; replace hst := hst.trans hnew; simp only [List.cons_append, List.nil_append] at hst) | (refine L_allocA (d := some 8) rfl rfl rfl el_api_Digest ?_; (try clear hnew); intro g8 W8 hnew; replace hst := hst.trans hnew; simp only [List.cons_append, List.nil_append] at hst) | (refine L_build0 (d := some 38) rfl rfl rfl Tryd.underlying30 el_uint8 el_api_Digest ?_) | (refine wpl_at (.store 30 (.tmp 8) (.tmp 38)) rfl ?_; (refine L_storeA rfl rfl hst rfl (by rfl) (ev_tmp rfl) (by (exact Dig.one _)) el_api_Digest (by (rfl)) 1 rfl (by (rfl)) ?_; clear hst; intro WS2 hst; simp only [List.set_cons_zero, List.set_cons_succ] at hst)))
 refine bp_cell_tmp rfl rfl rfl rfl (hst.get 1 rfl) Tryd.underlying30 rfl el_api_Digest (by (rfl)) ?_
 exact ⟨rfl, hst.forget⟩
theorem tFold_range (l : Dig) (A : Option Addr) (m c : Nat) (i n : Int) (w : World) (h : n < 1 ∨ ¬ n < 1 ∧ 256 < n ∨ ¬ n < 1 ∧ ¬ 256 < n ∧ i < 0 ∨ ¬ n < 1 ∧ ¬ 256 < n ∧ ¬ i < 0 ∧ n ≤ i) :
  Calls Tryd.prog 57 #[l.v, .int .i64 i, .int .i64 n, .slice A m c] w fun e w' => e = .returned (.tuple #[zeroD.v, errV 2]) ∧ St w w' [] := by
 have hst := St.refl w
 rcases h with h1 | ⟨h1, h2⟩ | ⟨h1, h2, h3⟩ | ⟨h1, h2, h3, h4⟩
 all_goals
  go_enter Tryd.func57, Tryd.ntmps57
  go_wp2_with (first | (refine L_boxA (d := some 4) rfl rfl rfl (ev_tmp rfl) ?_; (try clear hnew); intro g4 W4 hnew; replace hst := hst.trans hnew; simp only [List.cons_append, List.nil_append] at hst) | (refine L_allocA (d := some 8) rfl rfl rfl el_api_Digest ?_; (try clear hnew); intro g8 W8 hnew; replace hst := hst.trans hnew; simp only [List.cons_append, List.nil_append] at hst) | (refine L_build0 (d := some 28) rfl rfl rfl Tryd.underlying30 el_uint8 el_api_Digest ?_) | (refine wpl_at (.store 30 (.tmp 8) (.tmp 28)) rfl ?_; (refine L_storeA rfl rfl hst rfl (by rfl) (ev_tmp rfl) (by (exact Dig.one _)) el_api_Digest (by (rfl)) 0 rfl (by (rfl)) ?_; clear hst; intro WS2 hst; simp only [List.set_cons_zero, List.set_cons_succ] at hst)))
  refine bp_cell_tmp rfl rfl rfl rfl (hst.get 0 rfl) Tryd.underlying30 rfl el_api_Digest (by (rfl)) ?_
  exact ⟨rfl, hst.forget⟩
end Go.Proofs.YtaebeemnipafbaaDoor

set_option linter.unusedSimpArgs false
set_option linter.unusedVariables false
namespace Go.Proofs.YtaebeemnipafbaaDoor
open Go.RowKit
set_option maxHeartbeats 8000000 in
set_option maxRecDepth 100000 in
theorem gproof_any : ∀ (n : Nat) (ls : List Dig) (A : Option Addr) (c m : Nat) (own : Bool) (w : World), Tb w → SlR w A n c 32 (digsL ls) → 1 ≤ m → m ≤ n → n ≤ 256 →
  Calls Tryd.prog 101 #[.slice A n c, .int .i64 (m : Int), .bool own] w fun e w' => ∃ O oc, e = .returned (.slice O (plN n m own) oc) ∧ St w w' [.row O (plN n m own) oc 30 32 (digsL (gpN ls m own))] := by
 intro n
 induction n using Nat.strongRecOn with
 | ind n ih =>
 intro ls A c m own w hT hx hm1 hmn hn
 have hst := St.refl w
 have HT := Lib.hid hT
 have hl : ls.length = n := by have := hx.1; rw [length_digsL] at this; omega
 have hcap := hx.2.1
 clear hT
 by_cases h : m = n
 ·subst h
  rw [gpN_all ls own hl.symm, plN_all]
  cases own with
  | true =>
   clear ih
   go_enter Tryd.func101, Tryd.ntmps101
   go_wp2_with (fail)
   go_ret
   exact ⟨_, _, rfl, hst.nilRow 30 32⟩
  | false =>
   have HR := Lib.hid (fun w hT hs => tRoot_any ls A m c w hT hs hn)
   have HB := Lib.hid (show (rootN ls).arr.toList = digsL [rootN ls] by rw [digsL_single, Dig.toList])
   clear ih
   generalize rootN ls = r at *
   go_enter Tryd.func101, Tryd.ntmps101
   go_wp2_with (first | (go_at_call 43; (try clear hnew); refine (HR.out _ (HT.out.of hst) (hst.old (by decide) hx)).mono ?_; rintro e Wk1 ⟨rfl, hnew⟩; replace hst := hst.keep hnew) | (refine L_allocA (d := some 7) rfl rfl rfl el_api_Digest ?_; (try clear hnew); intro g7 W7 hnew; replace hst := hst.trans hnew; simp only [List.cons_append, List.nil_append] at hst) | (refine wpl_at (.store 30 (.tmp 7) (.tmp 22)) rfl ?_; (refine L_storeA rfl rfl hst rfl (by rfl) (ev_tmp rfl) (by (exact Dig.one _)) el_api_Digest (by (exact Dig.size _)) 0 rfl (by (rfl)) ?_; clear hst; intro WS6 hst; simp only [List.set_cons_zero, List.set_cons_succ] at hst)) | ((refine L_loadA (d := some 24) rfl rfl rfl (by rfl) Tryd.underlying30 rfl el_api_Digest (by (exact hst.get 0 rfl)) (by (exact Dig.size _)) ?_)) | (refine L_buildS (d := some 25) rfl rfl rfl [_] (bs_1 (ev_tmp rfl)) rfl Tryd.underlying36 el_api_Digest rfl (by (simp [Value.cells, Dig.size]; done)) (by decide) (by decide) ?_; (try clear hnew); intro g25 W25 hnew; replace hst := hst.trans hnew; simp only [List.cons_append, List.nil_append] at hst; simp only [List.flatMap_cons, List.flatMap_nil, List.append_nil, Value.cells, List.toList_toArray] at hst))
   go_ret
   refine ⟨_, _, rfl, ?_⟩
   (try simp only [Bool.false_eq_true, if_false])
   rw [← HB.out]
   exact hst.pick [0] (by decide)
 ·have hlt := halfN_lt n (by omega)
  have hps := halfN_pos n
  have h' : ((m : Int) == (n : Int)) = false := by rw [beq_eq_false_iff_ne]; omega
  have HF := Lib.hid (fun w => half_any n (by omega) (by omega) w)
  have H1 := Lib.hid (show ((digsL ls).drop (0 * 32)).take ((halfN n - 0) * 32) = digsL (ls.take (halfN n)) by rw [digsL_cut]; rfl)
  have H2 := Lib.hid (show ((digsL ls).drop (halfN n * 32)).take ((n - halfN n) * 32) = digsL (ls.drop (halfN n)) by rw [digsL_cut, List.take_of_length_le (by rw [List.length_drop]; omega)])
  by_cases hk : m ≤ halfN n
  ·have hle := plN_le (halfN n) m own
   rw [plN_left h (by omega) hk]
   have HI := Lib.hid (fun A c w hT hs => ih (halfN n) hlt (ls.take (halfN n)) A c m own w hT hs hm1 hk (by omega))
   have HR := Lib.hid (fun A c w hT hs => tRoot_any (ls.drop (halfN n)) A (n - halfN n) c w hT hs (by omega))
   have HB := Lib.hid (show digsL (gpN (ls.take (halfN n)) m own) ++ (rootN (ls.drop (halfN n))).arr.toList = digsL (gpN ls m own) by
    rw [gpN_left (ls := ls) (by omega) (by omega) (by rw [hl]; exact hk), hl, digsL_append, digsL_single, Dig.toList])
   have hk' : (m : Int) ≤ (halfN n : Int) := by omega
   clear ih hl
   generalize plN (halfN n) m own = r at *
   generalize halfN n = k at *
   generalize rootN (ls.drop k) = x at *
   go_enter Tryd.func101, Tryd.ntmps101
   go_upto_region 1 with (fail)
   go_upto_region 6 with (fail)
   go_upto_region 7 with ((go_at_call 104; (try clear hnew); refine (HF.out _).mono ?_; rintro e Wk2 ⟨rfl, hnew⟩; replace hst := hst.keep hnew))
   go_upto_region 8 with (fail)
   go_upto_region 9 with (first | (go_at_call 43; (try clear hnew); refine (HR.out A35 c35 _ (HT.out.of hst) (by rw [← H2.out]; exact hst.old (by decide) hs35)).mono ?_; rintro e Wk3 ⟨rfl, hnew⟩; replace hst := hst.keep hnew) | ((refine L_cutV (d := some 35) rfl rfl rfl (by rfl) Tryd.underlying36 el_api_Digest (by decide) hx k n _ (Or.inr ⟨_, _, rfl, by (exact ev_tmp rfl)⟩) (Or.inl ⟨rfl, rfl, rfl⟩) (Or.inl ⟨rfl, rfl⟩) (by omega) (by omega) (by omega) (by omega) ?_; intro A35 c35 hs35)) | (refine L_allocA (d := some 10) rfl rfl rfl el_api_Digest ?_; (try clear hnew); intro g10 W10 hnew; replace hst := hst.trans hnew; simp only [List.cons_append, List.nil_append] at hst) | (refine wpl_at (.store 30 (.tmp 10) (.tmp 37)) rfl ?_; (refine L_storeA rfl rfl hst rfl (by rfl) (ev_tmp rfl) (by (exact Dig.one _)) el_api_Digest (by (exact Dig.size _)) 0 rfl (by (rfl)) ?_; clear hst; intro WS8 hst; simp only [List.set_cons_zero, List.set_cons_succ] at hst)))
   (try clear hnew)
   refine wp_region_pn (.one 0 3 (.one 1 3 (.one 3 3 (.one 4 3 (.one 2 0 (.one 6 0 (.two 5 (.one 7 2 (.one 8 1 (.one 9 2 .nil))) 7 (.one 5 2 (.one 8 1 (.one 9 2 .nil)))))))))) (by kernel_rfl) (by kernel_rfl) ?_
   replace hst := hst.drew
   refine pn_p rfl rfl ?_; go_wp2_with fail
   refine pn_p rfl rfl ?_; go_wp2_with fail
   refine pn_p rfl rfl ?_; go_wp2_with fail
   refine pn_p rfl rfl ?_; go_wp2_with fail
   refine pn_q rfl rfl ?_; go_wp2_with (((refine L_cutV (d := some 41) rfl rfl rfl (by rfl) Tryd.underlying36 el_api_Digest (by decide) hx 0 k _ (Or.inl ⟨rfl, rfl⟩) (Or.inr ⟨_, _, rfl, by (exact ev_tmp rfl)⟩) (Or.inl ⟨rfl, rfl⟩) (by omega) (by omega) (by omega) (by omega) ?_; intro A41 c41 hs41)))
   refine pn_q rfl rfl ?_; go_wp2_with (((refine L_loadA (d := some 45) rfl rfl rfl (by rfl) Tryd.underlying30 rfl el_api_Digest (by (exact hst.get 0 rfl)) (by (exact Dig.size _)) ?_)))
   refine pn_two rfl rfl ?_ ?_
   ·go_wp2_with ((go_at_call 101; (try clear hnew); refine (HI.out A41 c41 _ (HT.out.of hst) (by rw [← H1.out]; exact hst.old (by decide) hs41)).mono ?_; rintro e Wk4 ⟨O44, c44, rfl, hnew⟩; replace hst := hst.trans hnew; simp only [List.cons_append, List.nil_append] at hst)); refine ⟨by (exact hnew.below), ?_⟩
    refine pn_g rfl ?_; go_wp2_with ((refine L_buildS (d := some 46) rfl rfl rfl [_] (bs_1 (ev_tmp rfl)) rfl Tryd.underlying36 el_api_Digest rfl (by (simp [Value.cells, Dig.size]; done)) (by decide) (by decide) ?_; (try clear hnew); intro g46 W46 hnew; replace hst := hst.trans hnew; simp only [List.cons_append, List.nil_append] at hst; simp only [List.flatMap_cons, List.flatMap_nil, List.append_nil, Value.cells, List.toList_toArray] at hst)); refine ⟨by (exact hnew.below), ?_⟩
    refine pn_e rfl ?_; go_wp2_with ((refine L_appendO (d := some 47) rfl rfl hst rfl (by rfl) (by rfl) Tryd.underlying36 el_api_Digest rfl (by decide) (by decide) 1 rfl (by (rfl)) (by (exact hst.sl 0 rfl)) (by (exact oneCell_bytes)) (by omega) ?_; clear hst; intro A47 c47 W47 hst; simp only [List.set_cons_zero, List.set_cons_succ, List.nil_append, Nat.zero_add] at hst))
    refine pn_g rfl ?_; go_wp2_with fail; refine ⟨by (exact Below.refl _ _), ?_⟩
    refine pn_nil ?_
    go_wp2_with fail
    go_ret
    refine ⟨_, _, rfl, ?_⟩
    rw [HB.out] at hst
    (exact hst.pick [1] (by decide))
   ·go_wp2_with ((refine L_buildS (d := some 46) rfl rfl rfl [_] (bs_1 (ev_tmp rfl)) rfl Tryd.underlying36 el_api_Digest rfl (by (simp [Value.cells, Dig.size]; done)) (by decide) (by decide) ?_; (try clear hnew); intro g46 W46 hnew; replace hst := hst.trans hnew; simp only [List.cons_append, List.nil_append] at hst; simp only [List.flatMap_cons, List.flatMap_nil, List.append_nil, Value.cells, List.toList_toArray] at hst)); refine ⟨by (exact hnew.below), ?_⟩
    refine pn_g rfl ?_; go_wp2_with ((go_at_call 101; (try clear hnew); refine (HI.out A41 c41 _ (HT.out.of hst) (by rw [← H1.out]; exact hst.old (by decide) hs41)).mono ?_; rintro e Wk4 ⟨O44, c44, rfl, hnew⟩; replace hst := hst.trans hnew; simp only [List.cons_append, List.nil_append] at hst)); refine ⟨by (exact hnew.below), ?_⟩
    refine pn_e rfl ?_; go_wp2_with ((refine L_appendO (d := some 47) rfl rfl hst rfl (by rfl) (by rfl) Tryd.underlying36 el_api_Digest rfl (by decide) (by decide) 0 rfl (by (rfl)) (by (exact hst.sl 1 rfl)) (by (exact oneCell_bytes)) (by omega) ?_; clear hst; intro A47 c47 W47 hst; simp only [List.set_cons_zero, List.set_cons_succ, List.nil_append, Nat.zero_add] at hst))
    refine pn_g rfl ?_; go_wp2_with fail; refine ⟨by (exact Below.refl _ _), ?_⟩
    refine pn_nil ?_
    go_wp2_with fail
    go_ret
    refine ⟨_, _, rfl, ?_⟩
    rw [HB.out] at hst
    (exact hst.pick [0] (by decide))
  ·have hle := plN_le (n - halfN n) (m - halfN n) false
   rw [plN_right h (by omega) hk]
   have HI := Lib.hid (fun A c w hT hs => ih (n - halfN n) (by omega) (ls.drop (halfN n)) A c (m - halfN n) false w hT hs (by omega) (by omega) (by omega))
   have HR := Lib.hid (fun A c w hT hs => tRoot_any (ls.take (halfN n)) A (halfN n) c w hT hs (by omega))
   have HB := Lib.hid (show digsL (gpN (ls.drop (halfN n)) (m - halfN n) false) ++ (rootN (ls.take (halfN n))).arr.toList = digsL (gpN ls m own) by
    rw [gpN_right (ls := ls) (by omega) (by omega) (by rw [hl]; exact hk), hl, digsL_append, digsL_single, Dig.toList])
   have e1 : (((m - halfN n : Nat)) : Int) = (m : Int) - (halfN n : Int) := by omega
   rw [e1] at HI
   have hk' : ¬ (m : Int) ≤ (halfN n : Int) := by omega
   clear ih hl e1
   generalize plN (n - halfN n) (m - halfN n) false = r at *
   generalize halfN n = k at *
   generalize rootN (ls.take k) = x at *
   go_enter Tryd.func101, Tryd.ntmps101
   go_upto_region 1 with (fail)
   go_upto_region 6 with (fail)
   go_upto_region 7 with ((go_at_call 104; (try clear hnew); refine (HF.out _).mono ?_; rintro e Wk5 ⟨rfl, hnew⟩; replace hst := hst.keep hnew))
   go_upto_region 10 with (fail)
   go_upto_region 11 with (first | (go_at_call 43; (try clear hnew); refine (HR.out A51 c51 _ (HT.out.of hst) (by rw [← H1.out]; exact hst.old (by decide) hs51)).mono ?_; rintro e Wk6 ⟨rfl, hnew⟩; replace hst := hst.keep hnew) | ((refine L_cutV (d := some 51) rfl rfl rfl (by rfl) Tryd.underlying36 el_api_Digest (by decide) hx 0 k _ (Or.inl ⟨rfl, rfl⟩) (Or.inr ⟨_, _, rfl, by (exact ev_tmp rfl)⟩) (Or.inl ⟨rfl, rfl⟩) (by omega) (by omega) (by omega) (by omega) ?_; intro A51 c51 hs51)) | (refine L_allocA (d := some 12) rfl rfl rfl el_api_Digest ?_; (try clear hnew); intro g12 W12 hnew; replace hst := hst.trans hnew; simp only [List.cons_append, List.nil_append] at hst) | (refine wpl_at (.store 30 (.tmp 12) (.tmp 53)) rfl ?_; (refine L_storeA rfl rfl hst rfl (by rfl) (ev_tmp rfl) (by (exact Dig.one _)) el_api_Digest (by (exact Dig.size _)) 0 rfl (by (rfl)) ?_; clear hst; intro WS8 hst; simp only [List.set_cons_zero, List.set_cons_succ] at hst)))
   (try clear hnew)
   refine wp_region_pn (.one 0 3 (.one 1 3 (.one 3 3 (.one 4 3 (.one 2 0 (.one 5 0 (.one 7 0 (.two 6 (.one 8 2 (.one 9 1 (.one 10 2 .nil))) 8 (.one 6 2 (.one 9 1 (.one 10 2 .nil))))))))))) (by kernel_rfl) (by kernel_rfl) ?_
   replace hst := hst.drew
   refine pn_p rfl rfl ?_; go_wp2_with fail
   refine pn_p rfl rfl ?_; go_wp2_with fail
   refine pn_p rfl rfl ?_; go_wp2_with fail
   refine pn_p rfl rfl ?_; go_wp2_with fail
   refine pn_q rfl rfl ?_; go_wp2_with (((refine L_cutV (d := some 57) rfl rfl rfl (by rfl) Tryd.underlying36 el_api_Digest (by decide) hx k n _ (Or.inr ⟨_, _, rfl, by (exact ev_tmp rfl)⟩) (Or.inl ⟨rfl, rfl, rfl⟩) (Or.inl ⟨rfl, rfl⟩) (by omega) (by omega) (by omega) (by omega) ?_; intro A57 c57 hs57)))
   refine pn_q rfl rfl ?_; go_wp2_with fail
   refine pn_q rfl rfl ?_; go_wp2_with (((refine L_loadA (d := some 62) rfl rfl rfl (by rfl) Tryd.underlying30 rfl el_api_Digest (by (exact hst.get 0 rfl)) (by (exact Dig.size _)) ?_)))
   refine pn_two rfl rfl ?_ ?_
   ·go_wp2_with ((go_at_call 101; (try clear hnew); refine (HI.out A57 c57 _ (HT.out.of hst) (by rw [← H2.out]; exact hst.old (by decide) hs57)).mono ?_; rintro e Wk7 ⟨O61, c61, rfl, hnew⟩; replace hst := hst.trans hnew; simp only [List.cons_append, List.nil_append] at hst)); refine ⟨by (exact hnew.below), ?_⟩
    refine pn_g rfl ?_; go_wp2_with ((refine L_buildS (d := some 63) rfl rfl rfl [_] (bs_1 (ev_tmp rfl)) rfl Tryd.underlying36 el_api_Digest rfl (by (simp [Value.cells, Dig.size]; done)) (by decide) (by decide) ?_; (try clear hnew); intro g63 W63 hnew; replace hst := hst.trans hnew; simp only [List.cons_append, List.nil_append] at hst; simp only [List.flatMap_cons, List.flatMap_nil, List.append_nil, Value.cells, List.toList_toArray] at hst)); refine ⟨by (exact hnew.below), ?_⟩
    refine pn_e rfl ?_; go_wp2_with ((refine L_appendO (d := some 64) rfl rfl hst rfl (by rfl) (by rfl) Tryd.underlying36 el_api_Digest rfl (by decide) (by decide) 1 rfl (by (rfl)) (by (exact hst.sl 0 rfl)) (by (exact oneCell_bytes)) (by omega) ?_; clear hst; intro A64 c64 W64 hst; simp only [List.set_cons_zero, List.set_cons_succ, List.nil_append, Nat.zero_add] at hst))
    refine pn_g rfl ?_; go_wp2_with fail; refine ⟨by (exact Below.refl _ _), ?_⟩
    refine pn_nil ?_
    go_wp2_with fail
    go_ret
    refine ⟨_, _, rfl, ?_⟩
    rw [HB.out] at hst
    (exact hst.pick [1] (by decide))
   ·go_wp2_with ((refine L_buildS (d := some 63) rfl rfl rfl [_] (bs_1 (ev_tmp rfl)) rfl Tryd.underlying36 el_api_Digest rfl (by (simp [Value.cells, Dig.size]; done)) (by decide) (by decide) ?_; (try clear hnew); intro g63 W63 hnew; replace hst := hst.trans hnew; simp only [List.cons_append, List.nil_append] at hst; simp only [List.flatMap_cons, List.flatMap_nil, List.append_nil, Value.cells, List.toList_toArray] at hst)); refine ⟨by (exact hnew.below), ?_⟩
    refine pn_g rfl ?_; go_wp2_with ((go_at_call 101; (try clear hnew); refine (HI.out A57 c57 _ (HT.out.of hst) (by rw [← H2.out]; exact hst.old (by decide) hs57)).mono ?_; rintro e Wk7 ⟨O61, c61, rfl, hnew⟩; replace hst := hst.trans hnew; simp only [List.cons_append, List.nil_append] at hst)); refine ⟨by (exact hnew.below), ?_⟩
    refine pn_e rfl ?_; go_wp2_with ((refine L_appendO (d := some 64) rfl rfl hst rfl (by rfl) (by rfl) Tryd.underlying36 el_api_Digest rfl (by decide) (by decide) 0 rfl (by (rfl)) (by (exact hst.sl 1 rfl)) (by (exact oneCell_bytes)) (by omega) ?_; clear hst; intro A64 c64 W64 hst; simp only [List.set_cons_zero, List.set_cons_succ, List.nil_append, Nat.zero_add] at hst))
    refine pn_g rfl ?_; go_wp2_with fail; refine ⟨by (exact Below.refl _ _), ?_⟩
    refine pn_nil ?_
    go_wp2_with fail
    go_ret
    refine ⟨_, _, rfl, ?_⟩
    rw [HB.out] at hst
    (exact hst.pick [0] (by decide))
set_option maxHeartbeats 1000000 in
theorem gProof_any (ls : List Dig) (A : Option Addr) (n c m : Nat) (w : World) (hT : Tb w) (hx : SlR w A n c 32 (digsL ls)) (h1 : 1 ≤ m) (hmn : m ≤ n) (hn : n ≤ 256) :
  Calls Tryd.prog 65 #[.slice A n c, .int .i64 (m : Int)] w fun e w' => ∃ O oc, e = .returned (.tuple #[.slice O (plN n m true) oc, .nilIface]) ∧ St w w' [.row O (plN n m true) oc 30 32 (digsL (gpN ls m true))] := by
 have hst := St.refl w
 have HP := Lib.hid (gproof_any n ls A c m true w hT hx h1 hmn hn)
 have t1 : ¬ (256 : Int) < (n : Int) := by omega
 have t2 : ¬ (m : Int) < 1 := by omega
 have t3 : ¬ (n : Int) < (m : Int) := by omega
 go_enter Tryd.func65, Tryd.ntmps65
 go_wp2_with ((go_at_call 101; refine HP.out.mono ?_; rintro e W21 ⟨O, oc, rfl, hnew⟩; replace hst := hnew))
 exact bp_two rfl rfl rfl rfl ⟨_, _, rfl, hst⟩
theorem gProof_full (A : Option Addr) (n c : Nat) (m : Int) (w : World) (hn : 256 < n) :
  Calls Tryd.prog 65 #[.slice A n c, .int .i64 m] w fun e w' => e = .returned (.tuple #[.slice none 0 0, errV 4]) ∧ St w w' [] := by
 have hst := St.refl w
 have h1 : (256 : Int) < (n : Int) := by omega
 go_enter Tryd.func65, Tryd.ntmps65
 go_wp2_with (fail)
 exact bp_two rfl rfl rfl rfl ⟨rfl, hst⟩
theorem gProof_range (A : Option Addr) (n c : Nat) (m : Int) (w : World) (hn : n ≤ 256) (hi : m < 1 ∨ (n : Int) < m) :
  Calls Tryd.prog 65 #[.slice A n c, .int .i64 m] w fun e w' => e = .returned (.tuple #[.slice none 0 0, errV 2]) ∧ St w w' [] := by
 have hst := St.refl w
 have h1 : ¬ (256 : Int) < (n : Int) := by omega
 by_cases h2 : m < 1
 ·go_enter Tryd.func65, Tryd.ntmps65
  go_wp2_with (fail)
  exact bp_two rfl rfl rfl rfl ⟨rfl, hst⟩
 ·have h3 : (n : Int) < m := by omega
  go_enter Tryd.func65, Tryd.ntmps65
  go_wp2_with (fail)
  exact bp_two rfl rfl rfl rfl ⟨rfl, hst⟩
end Go.Proofs.YtaebeemnipafbaaDoor

set_option maxRecDepth 20000
set_option linter.unusedSimpArgs false
set_option linter.unusedVariables false
namespace Go.Proofs.YtaebeemnipafbaaDoor
open Go.RowKit
def fArr (old : Dig) (A : Option Addr) (n c : Nat) : Array Value := old.arr.push (.slice A n c)
theorem fArr_size (old : Dig) (A : Option Addr) (n c : Nat) : (fArr old A n c).size = 33 := by simp [fArr, Dig.size]
theorem fArr_at (old : Dig) (A : Option Addr) (n c : Nat) : (fArr old A n c)[32]? = some (.slice A n c) := by
 have h := Dig.size old
 rw [fArr, Array.getElem?_push, if_pos h.symm]
theorem fArr_set (old : Dig) (A B : Option Addr) (n c m d : Nat) : (fArr old A n c).setIfInBounds 32 (.slice B m d) = fArr old B m d := by
 have h := Dig.size old
 apply Array.ext_getElem?
 intro i
 rw [Array.getElem?_setIfInBounds, fArr_size, fArr, fArr, Array.getElem?_push, Array.getElem?_push, h]
 by_cases hi : 32 = i
 ·subst hi; simp
 ·rw [if_neg hi, if_neg (by omega), if_neg (by omega)]
theorem fArr_old {W : World} {g : Nat} {t : TypeId} {fr : Nat × Nat} {old : Dig} {A : Option Addr} {n c : Nat} (h : W.heap[g]? = some (.cells (fArr old A n c) t fr)) : W.rangeAt g 0 old.arr.toList := rangeAt_of_cells h fun j v hv => by
 have hj : j < 32 := by
  have := (List.getElem?_eq_some_iff.1 hv).1
  rw [Array.length_toList, Dig.size] at this
  exact this
 have h := Dig.size old
 rw [Nat.zero_add, fArr, Array.getElem?_push, if_neg (by omega)]
 simpa using hv
theorem el_grow_folder : ElemIs Tryd.prog 174 (.agg (fArr zeroD none 0 0)) 33 56 := by unfold ElemIs; kernel_rfl
theorem el_S_api_Digest : ElemIs Tryd.prog 36 (.slice none 0 0) 1 24 := by unfold ElemIs; kernel_rfl
theorem el_error : ElemIs Tryd.prog 46 (.nilIface) 1 16 := by unfold ElemIs; kernel_rfl
section
variable {ops : Array Oper} {rest : List Oper} {o : Oper} {a : Act} {W : World} {Q : Exit → Act → World → Prop} {d : Option Tmp}
theorem L_buildF (hd : o.dst = d) (hw : Region.wanted o (yielded ops a.tmps) = true) {x y : Operand} (ho : o.op = .build 174 #[(0, x), (1, y)]) {old : Dig} (hx : a.eval x = .agg old.arr) {A : Option Addr} {n c : Nat} (hy : a.eval y = .slice A n c)
  (h : wpList Tryd.prog ops Q rest (a.put d (.agg (fArr old A n c))) W) : wpList Tryd.prog ops Q (o :: rest) a W := by
 refine L_val hd hw ?_ h
 unfold execOp
 simp only [ho]
 have hz := el_grow_folder.run_zero W
 have h1 := el_api_Digest.run_size W
 have h2 := el_S_api_Digest.run_size W
 have h3 : (fArr zeroD none 0 0).size = 33 := fArr_size _ _ _ _
 have h4 : Array.foldl (fun (cs : Array Value) (x : Value × Nat) => cs.setIfInBounds x.snd x.fst) (fArr zeroD none 0 0) old.arr.zipIdx 0 32 = fArr old none 0 0 := by
  have h := Dig.size old
  have h' := Dig.size zeroD
  have e1 : 32 = old.arr.zipIdx.size := by simp [h]
  have h5 := fold_put old.arr.toList 0 0 (fArr zeroD none 0 0) (by simp [h, h3])
  simp only [Nat.zero_add] at h5
  rw [e1, ← Array.foldl_toList, Array.toList_zipIdx, h5]
  unfold putAt fArr
  apply Array.ext'
  simp [h, h']
 simp [Instr.build, hz, run_underlying Tryd.underlying174, h1, h2, hx, hy, Value.cells, Instr.fill, h3, Dig.size, h4, fArr_size, fArr_set]
end
section
variable {P : Program} {a : Act} {W : World}
theorem bp_cell2 {fn : Func} {R : Ending → World → Prop} {p q : Tmp} {ty ty' : TypeId} (hr : fn.results = #[.cell p ty, .cell q ty']) (hd : a.defers = []) {g g' : Nat} (hp : a.tmps.toList[p]? = some (.pointer (some ⟨g, 0, none⟩))) (hq : a.tmps.toList[q]? = some (.pointer (some ⟨g', 0, none⟩))) {t t' : TypeId} {cs cs' : Array Value} {fr fr' : Nat × Nat} (hg : W.heap[g]? = some (.cells cs t fr)) (hg' : W.heap[g']? = some (.cells cs' t' fr'))
  {td td' : TypeDesc} (hu : P.underlying ty = some td) (hrow : td.isRow = true) (hu' : P.underlying ty' = some td') (hrow' : td'.isRow = true) {z z' : Value} {s s' b b' : Nat} (he : ElemIs P ty z s b) (hs : cs.size = s) (he' : ElemIs P ty' z' s' b') (hs' : cs'.size = s') (hR : R (.returned (.tuple #[.agg cs, .agg cs'])) W) : bodyPost P fn R .ret a W := by
 have hp' : a.tmps[p]?.getD undef = .pointer (some ⟨g, 0, none⟩) := by
  have : a.tmps[p]? = some (.pointer (some ⟨g, 0, none⟩)) := by simpa using hp
  simp [this]
 have hq' : a.tmps[q]?.getD undef = .pointer (some ⟨g', 0, none⟩) := by
  have : a.tmps[q]? = some (.pointer (some ⟨g', 0, none⟩)) := by simpa using hq
  simp [this]
 refine bodyPost_ret ?_ hd hR
 simp [results, hr, hp', hq', asAddr, run_loadVar_row W g t ty cs fr td hg hu (by cases td <;> simp_all [TypeDesc.isRow]) (by rw [he.size, hs]), run_loadVar_row W g' t' ty' cs' fr' td' hg' hu' (by cases td' <;> simp_all [TypeDesc.isRow]) (by rw [he'.size, hs'])]
end
theorem St.keep3 {w0 W : World} {L : List Res} {a x y z : Res} (h : St w0 W (a :: x :: y :: z :: L)) : St w0 W (a :: L) := h.drop ((((List.Sublist.refl L).cons z).cons y).cons x |>.cons_cons a)
theorem St.keep2 {w0 W : World} {L : List Res} {a x y : Res} (h : St w0 W (a :: x :: y :: L)) : St w0 W (a :: L) := h.drop (((List.Sublist.refl L).cons y).cons x |>.cons_cons a)
end Go.Proofs.YtaebeemnipafbaaDoor

set_option maxRecDepth 20000
set_option linter.unusedSimpArgs false
set_option linter.unusedVariables false
namespace Go.Proofs.YtaebeemnipafbaaDoor
open Go.RowKit
theorem lvN_snoc (ns : List NoteN) (n : NoteN) : digsL (lvN ns) ++ (ntLeaf n).arr.toList = digsL (lvN (ns ++ [n])) := by simp [lvN, digsL, Dig.toList]
theorem snoc_len (ns : List NoteN) (n : NoteN) : ((ns ++ [n]).length) = ns.length + 1 := by simp
set_option maxHeartbeats 16000000 in
set_option maxRecDepth 100000 in
theorem add_ok_nn (key : List UInt8) (ns : List NoteN) (s : List UInt8) (k : Dig) (p : LgP) (w0 w : World) (L : List Res) (hT : Tb w0) (hst : St w0 w (lgL p key ns ++ L)) (hm : MapsOf ns p.nm p.am) (hl : Logged ns) (he : addE ns s = 0) (hx : atName ns s = none) (hi : lookA (idxN s) p.am = none) :
  Calls Tryd.prog 24 #[.pointer (some ⟨p.g, 0, none⟩), .string (bsOf s), k.v] w (AddEnd key ns s k p w0 L) := by
 have HT := Lib.hid hT
 obtain ⟨hs, hlen, hnc, hid⟩ := addE_zero he
 have HN := Lib.hid (fun w => by have := named_any s w; rw [hs] at this; exact this)
 have HE := Lib.hid he
 have HI := Lib.hid (fun (w' : World) (h : Tb w') => index_any s w' h (by have := isNm_len hs; omega))
 have HO := Lib.hid hm.ksO
 have HD := Lib.hid hm.nd
 have HOA := Lib.hid hm.ksOA
 have HDA := Lib.hid hm.ndA
 have HS := Lib.hid (sV_ok hs)
 have HSA := Lib.hid (kInt_ok (n := idxN s) (by have := idxN_lt s; omega))
 have hf2 : ¬ (256 : Int) ≤ (ns.length : Int) := by omega
 have HM := Lib.hid (hm.add he k)
 have htl := hl.turn_le s
 have HLF := Lib.hid (fun (w' : World) (h : Tb w') => leafOf_any (newN ns s k) w' h (hl.new_ok hs k))
 have HLV := Lib.hid (lvN_snoc ns (newN ns s k))
 have hx1 : lastI ns s = none := by
  have h2 := atName_isSome ns s
  rw [hx] at h2
  cases h3 : lastI ns s with
  | none => rfl
  | some j => rw [h3] at h2; cases h2
 have htu : turnN ns s = 0 := by unfold turnN lastN?; rw [hx1]; rfl
 have HL := Lib.hid (show lookA s p.nm = none by rw [hm.look]; exact hx)
 have hcc : ¬ (64 : Int) ≤ (p.nm.length : Int) := by have := hnc hx1; rw [hm.len]; omega
 have HL2 := Lib.hid hi
 have HEQ := Lib.hid (show (!decide (s = s)) = false by simp)
 simp only [lgL, List.cons_append, List.nil_append] at hst
 obtain ⟨g, m, c, lc, Mn, Ma, A, O, nm, am⟩ := p
 simp only at *
 obtain ⟨n', hn'⟩ : ∃ n', n' = newN ns s k := ⟨_, rfl⟩
 obtain ⟨df, hdf⟩ : ∃ df, df = ntLeaf (newN ns s k) := ⟨_, rfl⟩
 have HDF := Lib.hid hdf
 have HNN := Lib.hid hn'
 rw [← hn'] at HM hdf HLF HLV
 rw [← hdf] at HLF HLV HM
 have hn2 : (n'.name = s ∧ n'.key = k ∧ n'.turn = turnN ns s) := by rw [hn']; exact ⟨rfl, rfl, rfl⟩
 obtain ⟨q1, q2, q3⟩ := hn2
 rw [q1, q2, q3] at HLF
 obtain ⟨tt, htt⟩ : ∃ tt, tt = turnN ns s := ⟨_, rfl⟩
 rw [← htt] at HLF htl htu q3
 have hn3 : n' = ⟨s, k, tt⟩ := NoteN.ext' q1 q2 q3
 generalize idxN s = ix at *
 subst htu
 have hl256 : ns.length ≤ 256 := by omega
 clear hT hs hm hl he hx hi htl hdf hn' hid hnc hlen q1 q2 q3 hx1 htt
 subst hn3
 go_enter Tryd.func24, Tryd.ntmps24
 go_upto_region 1 with (go_big_may; (refine L_boxA (d := some 5) rfl rfl rfl (ev_tmp rfl) ?_; (try clear hnew); intro g5 W5 hnew; replace hst := hst.trans hnew; simp only [List.cons_append, List.nil_append] at hst))
 go_upto_region 3 with (go_big_may; (go_at_call 52; (try clear hnew); refine (HN.out _).mono ?_; rintro e Wk1 ⟨rfl, hnew⟩; replace hst := hst.keep hnew))
 go_upto_region 4 with (go_big_may; first | (refine L_look2n (fk := sV) (fv := lsV) (y := s) (l := nm) (d := some 26) rfl rfl rfl keyed_str Tryd.underlying93 el_log_last (ev_tmp rfl) (ev_tmp rfl) sV_inj HO.out HD.out HS.out (hst.obj 4 rfl) HL.out ?_) | (refine L_load1 (d := some 24) rfl rfl rfl (by rfl) Tryd.underlying93 rfl (by (exact cell_of (hst.get 1 rfl) lgArr_2)) ?_) | (refine L_allocA (d := some 8) rfl rfl rfl el_log_last ?_; (try clear hnew); intro g8 W8 hnew; replace hst := hst.trans hnew; simp only [List.cons_append, List.nil_append] at hst) | (refine wpl_at (.store 123 (.tmp 8) (.tmp 27)) rfl ?_; (refine L_storeA rfl rfl hst rfl (by rfl) (ev_tmp rfl) (by (exact lsArr_all _ _ _ _ _)) el_log_last (by (rfl)) 0 rfl (by (rfl)) ?_; clear hst; intro WS10 hst; simp only [List.set_cons_zero, List.set_cons_succ] at hst)))
 go_upto_region 6 with (go_big_may; first | (refine L_lenM (fk := sV) (fv := lsV) (l := nm) (d := some 43) rfl rfl rfl Tryd.underlying93 (ev_tmp rfl) (hst.obj 5 rfl) ?_) | (refine L_load1 (d := some 32) rfl rfl rfl (by rfl) Tryd.underlying36 rfl (by (exact cell_of (hst.get 2 rfl) lgArr_1)) ?_) | (refine L_load1 (d := some 42) rfl rfl rfl (by rfl) Tryd.underlying93 rfl (by (exact cell_of (hst.get 2 rfl) lgArr_2)) ?_))
 go_upto_region 7 with (go_big_may; (go_at_call 54; (try clear hnew); refine (HI.out _ (HT.out.of hst)).mono ?_; rintro e Wk2 ⟨rfl, hnew⟩; replace hst := hst.keep hnew))
 go_upto_region 8 with (go_big_may; first | (refine L_look2n (fk := kInt) (fv := sV) (y := ix) (l := am) (d := some 56) rfl rfl rfl keyed_int Tryd.underlying94 el_string (ev_tmp rfl) (ev_tmp rfl) kInt_inj HOA.out HDA.out HSA.out (hst.obj 6 rfl) HL2.out ?_) | (refine L_load1 (d := some 54) rfl rfl rfl (by rfl) Tryd.underlying94 rfl (by (exact cell_of (hst.get 2 rfl) lgArr_3)) ?_))
 go_upto_region 10 with (first | (with_reducible refine L_pass (t := 61) rfl (by kernel_rfl) ?_) | (with_reducible refine L_pass (t := 62) rfl (by kernel_rfl) ?_) | (with_reducible refine L_pass (t := 63) rfl (by kernel_rfl) ?_))
 go_upto_region 11 with (go_big_may; first | (refine L_buildN (d := some 68) rfl rfl rfl (ev_tmp rfl) (ev_tmp rfl) ?_) | ((refine L_loadA (d := some 67) rfl rfl rfl (by rfl) Tryd.underlying30 rfl el_api_Digest (by (exact hst.get 1 rfl)) (by (exact Dig.size _)) ?_)) | (refine L_allocA (d := some 13) rfl rfl rfl el_api_Note ?_; (try clear hnew); intro g13 W13 hnew; replace hst := hst.trans hnew; simp only [List.cons_append, List.nil_append] at hst) | (refine wpl_at (.store 35 (.tmp 13) (.tmp 68)) rfl ?_; (refine L_storeA rfl rfl hst rfl (by rfl) (ev_tmp rfl) (by (exact ntArr_all _ _ _)) el_api_Note (by (exact ntArr_size _ _ _)) 0 rfl (by (rfl)) ?_; clear hst; intro WS4 hst; simp only [List.set_cons_zero, List.set_cons_succ] at hst)))
 go_upto_region 13 with (go_big_may; fail)
 go_upto_region 14 with (go_big_may; first | (go_at_call 55; (try clear hnew); refine (HLF.out _ (HT.out.of hst)).mono ?_; rintro e Wk3 ⟨rfl, hnew⟩; replace hst := hst.keep hnew) | ((refine L_loadA (d := some 76) rfl rfl rfl (by rfl) Tryd.underlying35 rfl el_api_Note (by (exact hst.get 0 rfl)) (by (exact ntArr_size _ _ _)) ?_)) | (refine L_allocA (d := some 14) rfl rfl rfl el_api_Digest ?_; (try clear hnew); intro g14 W14 hnew; replace hst := hst.trans hnew; simp only [List.cons_append, List.nil_append] at hst) | (refine wpl_at (.store 30 (.tmp 14) (.tmp 78)) rfl ?_; (refine L_storeA rfl rfl hst rfl (by rfl) (ev_tmp rfl) (by (exact Dig.one _)) el_api_Digest (by (exact Dig.size _)) 0 rfl (by (rfl)) ?_; clear hst; intro WS6 hst; simp only [List.set_cons_zero, List.set_cons_succ] at hst)))
 go_upto_region 16 with (go_big_may; fail)
 clear hnew
 refine wp_region_idx [(0, 0), (1, 0), (2, 0), (3, 0), (4, 0), (5, 0), (6, 0), (7, 0), (8, 0), (9, 0), (10, 0), (11, 2), (12, 2), (13, 1)] (by kernel_rfl) (by kernel_rfl) ?_
 replace hst := hst.drew
 refine idx_q rfl rfl ?_; go_wp2_with fail
 refine idx_q rfl rfl ?_; go_wp2_with fail
 refine idx_qf rfl rfl (by kernel_rfl) ?_; go_wp2_with fail
 refine idx_q rfl rfl ?_; go_wp2_with ((refine L_load1 (d := some 86) rfl rfl rfl (by rfl) Tryd.underlying93 rfl (by (exact cell_of (hst.get 4 rfl) lgArr_2)) ?_))
 refine idx_q rfl rfl ?_; go_wp2_with fail
 refine idx_q rfl rfl ?_; go_wp2_with (((refine L_loadA (d := some 88) rfl rfl rfl (by rfl) Tryd.underlying35 rfl el_api_Note (by (exact hst.get 1 rfl)) (by (exact ntArr_size _ _ _)) ?_)))
 refine idx_q rfl rfl ?_; go_wp2_with fail
 refine idx_q rfl rfl ?_; go_wp2_with fail
 refine idx_qf rfl rfl (by kernel_rfl) ?_; go_wp2_with fail
 refine idx_q rfl rfl ?_; go_wp2_with ((refine L_load1 (d := some 92) rfl rfl rfl (by rfl) Tryd.underlying36 rfl (by (exact cell_of (hst.get 4 rfl) lgArr_1)) ?_))
 refine idx_q rfl rfl ?_; go_wp2_with (fail)
 refine idx_g rfl ?_; go_wp2_with (((refine L_loadA (d := some 94) rfl rfl rfl (by rfl) Tryd.underlying30 rfl el_api_Digest (by (exact hst.get 0 rfl)) (by (exact Dig.size _)) ?_))); refine ⟨by (exact Below.refl _ _), ?_⟩
 refine idx_g rfl ?_; go_wp2_with ((refine L_buildL (d := some 95) rfl rfl rfl (ev_tmp rfl) (ev_tmp rfl) (ev_tmp rfl) ?_)); refine ⟨by (exact Below.refl _ _), ?_⟩
 refine idx_e rfl ?_; go_wp2_with ((refine L_mapUpd (fk := sV) (fv := lsV) (l := nm) (u := s) (v := (⟨s, k, 0⟩, ns.length, df)) rfl rfl hst rfl keyed_str Tryd.underlying93 (ev_tmp rfl) (ev_tmp rfl) (ev_tmp rfl) sV_inj HO.out HD.out HS.out 7 rfl ?_; clear hst; intro WM hst; simp only [List.set_cons_zero, List.set_cons_succ] at hst))
 refine idx_nil ?_
 go_upto_region 18 with (go_big_may; first | (refine L_mapUpd (fk := kInt) (fv := sV) (l := am) (u := ix) (v := s) rfl rfl hst rfl keyed_int Tryd.underlying94 (ev_tmp rfl) (ev_tmp rfl) (ev_tmp rfl) kInt_inj HOA.out HDA.out HSA.out 8 rfl ?_; clear hst; intro WN hst; simp only [List.set_cons_zero, List.set_cons_succ] at hst) | (refine L_load1 (d := some 99) rfl rfl rfl (by rfl) Tryd.underlying94 rfl (by (exact cell_of (hst.get 4 rfl) lgArr_3)) ?_))
 refine wp_region_pm (.one 0 3 (.one 1 3 (.one 2 0 (.one 3 0 (.one 4 0 (.one 5 2 (.one 6 2 (.one 7 1 (.one 8 2 (.one 9 2 (.one 10 1 .nil))))))))))) (by kernel_rfl) (by kernel_rfl) ?_
 replace hst := hst.drew
 refine pm_p rfl rfl ?_; go_wp2_with fail
 refine pm_p rfl rfl ?_; go_wp2_with fail
 refine pm_q rfl rfl ?_; go_wp2_with fail
 refine pm_qf rfl rfl (by kernel_rfl) ?_; go_wp2_with fail
 refine pm_q rfl rfl ?_; go_wp2_with ((refine L_load1 (d := some 106) rfl rfl rfl (by rfl) Tryd.underlying36 rfl (by (exact cell_of (hst.get 4 rfl) lgArr_1)) ?_))
 refine pm_g rfl ?_; go_wp2_with (((refine L_loadA (d := some 107) rfl rfl rfl (by rfl) Tryd.underlying30 rfl el_api_Digest (by (exact hst.get 0 rfl)) (by (exact Dig.size _)) ?_))); refine ⟨by (exact Below.refl _ _), ?_⟩
 refine pm_g rfl ?_; go_wp2_with ((refine L_buildS (d := some 108) rfl rfl rfl [_] (bs_1 (ev_tmp rfl)) rfl Tryd.underlying36 el_api_Digest rfl (by (simp [Value.cells, Dig.size]; done)) (by decide) (by decide) ?_; (try clear hnew); intro g108 W108 hnew; replace hst := hst.trans hnew; simp only [List.cons_append, List.nil_append] at hst; simp only [List.flatMap_cons, List.flatMap_nil, List.append_nil, Value.cells, List.toList_toArray] at hst)); refine ⟨by (exact hnew.below), ?_⟩
 refine pm_e rfl ?_; go_wp2_with ((refine L_appendO (d := some 109) rfl rfl hst rfl (by rfl) (by rfl) Tryd.underlying36 el_api_Digest rfl (by decide) (by decide) 7 rfl (by (rfl)) (by (exact hst.sl 0 rfl)) (by (exact oneCell_bytes)) (by omega) ?_; clear hst; intro A109 c109 W109 hst; simp only [List.set_cons_zero, List.set_cons_succ, List.nil_append, Nat.zero_add] at hst))
 refine pm_g rfl ?_; go_wp2_with fail; refine ⟨by (exact Below.refl _ _), ?_⟩
 refine pm_g rfl ?_; go_wp2_with fail; refine ⟨by (exact Below.refl _ _), ?_⟩
 refine pm_e rfl ?_; go_wp2_with ((refine wpl_at (.store 36 (.tmp 111) (.tmp 109)) rfl ?_; (refine L_store1 rfl rfl hst rfl (by rfl) (ev_tmp rfl) rfl el_S_api_Digest 5 rfl (by (exact of_decide_eq_true rfl)) ?_; clear hst; intro WS10 hst; simp only [List.set_cons_zero, List.set_cons_succ, lgArr_s1 _ _ _, HLV.out] at hst)))
 refine pm_nil ?_
 go_wp2_with ((refine L_load1 (d := some 115) rfl rfl rfl (by rfl) Tryd.underlying36 rfl (by (exact cell_of (hst.get 5 rfl) lgArr_1)) ?_))
 go_ret2
 refine .inl ⟨HE.out, ?_, ⟨g, m, c, c109, Mn, Ma, A, A109, updA s (⟨s, k, 0⟩, ns.length, df) nm, updA ix s am⟩, rfl, rfl, ?_, ?_⟩
 ·(rfl)
 ·rw [← HNN.out]
  exact HM.out
 ·simp only [lgL, List.cons_append, List.nil_append]
  rw [← HNN.out, snoc_len]
  exact hst.tail.tail.tail.tail.tail
end Go.Proofs.YtaebeemnipafbaaDoor

set_option linter.unusedSimpArgs false
set_option linter.unusedVariables false
namespace Go.Proofs.YtaebeemnipafbaaDoor
open Go.RowKit
attribute [local simp] ntArr_size
set_option maxHeartbeats 16000000 in
set_option maxRecDepth 100000 in
theorem add_ok_hi (key : List UInt8) (ns : List NoteN) (s : List UInt8) (k : Dig) (p : LgP) (w0 w : World) (L : List Res) (hT : Tb w0) (hst : St w0 w (lgL p key ns ++ L)) (hm : MapsOf ns p.nm p.am) (hl : Logged ns) (he : addE ns s = 0) (x : NoteN × Nat × Dig) (hx : atName ns s = some x) (hi : lookA (idxN s) p.am = some s) :
  Calls Tryd.prog 24 #[.pointer (some ⟨p.g, 0, none⟩), .string (bsOf s), k.v] w (AddEnd key ns s k p w0 L) := by
 have HT := Lib.hid hT
 obtain ⟨hs, hlen, hnc, hid⟩ := addE_zero he
 have HN := Lib.hid (fun w => by have := named_any s w; rw [hs] at this; exact this)
 have HE := Lib.hid he
 have HI := Lib.hid (fun (w' : World) (h : Tb w') => index_any s w' h (by have := isNm_len hs; omega))
 have HO := Lib.hid hm.ksO
 have HD := Lib.hid hm.nd
 have HOA := Lib.hid hm.ksOA
 have HDA := Lib.hid hm.ndA
 have HS := Lib.hid (sV_ok hs)
 have HSA := Lib.hid (kInt_ok (n := idxN s) (by have := idxN_lt s; omega))
 have hf2 : ¬ (256 : Int) ≤ (ns.length : Int) := by omega
 have HM := Lib.hid (hm.add he k)
 have htl := hl.turn_le s
 have HLF := Lib.hid (fun (w' : World) (h : Tb w') => leafOf_any (newN ns s k) w' h (hl.new_ok hs k))
 have HLV := Lib.hid (lvN_snoc ns (newN ns s k))
 have hx4 := (atName_some hx).2.2.2
 have htu : turnN ns s = x.1.turn + 1 := by unfold turnN; rw [hx4]
 have HL := Lib.hid (show lookA s p.nm = some x by rw [hm.look]; exact hx)
 have HL2 := Lib.hid hi
 have HEQ := Lib.hid (show (!decide (s = s)) = false by simp)
 simp only [lgL, List.cons_append, List.nil_append] at hst
 obtain ⟨g, m, c, lc, Mn, Ma, A, O, nm, am⟩ := p
 obtain ⟨⟨a1, a2, a3⟩, a4, a5⟩ := x
 simp only at *
 obtain ⟨n', hn'⟩ : ∃ n', n' = newN ns s k := ⟨_, rfl⟩
 obtain ⟨df, hdf⟩ : ∃ df, df = ntLeaf (newN ns s k) := ⟨_, rfl⟩
 have HDF := Lib.hid hdf
 have HNN := Lib.hid hn'
 rw [← hn'] at HM hdf HLF HLV
 rw [← hdf] at HLF HLV HM
 have hn2 : (n'.name = s ∧ n'.key = k ∧ n'.turn = turnN ns s) := by rw [hn']; exact ⟨rfl, rfl, rfl⟩
 obtain ⟨q1, q2, q3⟩ := hn2
 rw [q1, q2, q3] at HLF
 obtain ⟨tt, htt⟩ : ∃ tt, tt = turnN ns s := ⟨_, rfl⟩
 rw [← htt] at HLF htl htu q3
 have hn3 : n' = ⟨s, k, tt⟩ := NoteN.ext' q1 q2 q3
 generalize idxN s = ix at *
 have HTT := Lib.hid htu
 have ha3 : 0 ≤ a3 + 1 ∧ a3 + 1 ≤ 256 := by omega
 obtain ⟨ha31, ha32⟩ := ha3
 have hl256 : ns.length ≤ 256 := by omega
 clear hT hs hm hl he hx hi htl hdf hn' hid hnc hlen q1 q2 q3 htu hx4 htt
 subst hn3
 go_enter Tryd.func24, Tryd.ntmps24
 go_upto_region 1 with (go_big_may; (refine L_boxA (d := some 5) rfl rfl rfl (ev_tmp rfl) ?_; (try clear hnew); intro g5 W5 hnew; replace hst := hst.trans hnew; simp only [List.cons_append, List.nil_append] at hst))
 go_upto_region 3 with (go_big_may; (go_at_call 52; (try clear hnew); refine (HN.out _).mono ?_; rintro e Wk1 ⟨rfl, hnew⟩; replace hst := hst.keep hnew))
 go_upto_region 4 with (go_big_may; first | (refine L_look2s (fk := sV) (fv := lsV) (y := s) (l := nm) (d := some 26) rfl rfl rfl keyed_str Tryd.underlying93 el_log_last (ev_tmp rfl) (ev_tmp rfl) sV_inj HO.out HD.out HS.out (hst.obj 4 rfl) HL.out ?_) | (refine L_load1 (d := some 24) rfl rfl rfl (by rfl) Tryd.underlying93 rfl (by (exact cell_of (hst.get 1 rfl) lgArr_2)) ?_) | (refine L_allocA (d := some 8) rfl rfl rfl el_log_last ?_; (try clear hnew); intro g8 W8 hnew; replace hst := hst.trans hnew; simp only [List.cons_append, List.nil_append] at hst) | (refine wpl_at (.store 123 (.tmp 8) (.tmp 27)) rfl ?_; (refine L_storeA rfl rfl hst rfl (by rfl) (ev_tmp rfl) (by (exact lsArr_all _ _ _ _ _)) el_log_last (by (exact lsArr_size _ _ _ _ _)) 0 rfl (by (rfl)) ?_; clear hst; intro WS10 hst; simp only [List.set_cons_zero, List.set_cons_succ] at hst)))
 go_upto_region 6 with (first | (with_reducible refine L_pass (t := 39) rfl (by kernel_rfl) ?_) | (with_reducible refine L_pass (t := 40) rfl (by kernel_rfl) ?_) | (with_reducible refine L_pass (t := 41) rfl (by kernel_rfl) ?_) | (with_reducible refine L_pass (t := 42) rfl (by kernel_rfl) ?_) | (with_reducible refine L_pass (t := 43) rfl (by kernel_rfl) ?_) | (with_reducible refine L_pass (t := 44) rfl (by kernel_rfl) ?_) | (go_big_may; (refine L_load1 (d := some 32) rfl rfl rfl (by rfl) Tryd.underlying36 rfl (by (exact cell_of (hst.get 2 rfl) lgArr_1)) ?_)))
 go_upto_region 7 with (go_big_may; (go_at_call 54; (try clear hnew); refine (HI.out _ (HT.out.of hst)).mono ?_; rintro e Wk2 ⟨rfl, hnew⟩; replace hst := hst.keep hnew))
 go_upto_region 8 with (go_big_may; first | (refine L_look2s (fk := kInt) (fv := sV) (y := ix) (l := am) (d := some 56) rfl rfl rfl keyed_int Tryd.underlying94 el_string (ev_tmp rfl) (ev_tmp rfl) kInt_inj HOA.out HDA.out HSA.out (hst.obj 6 rfl) HL2.out ?_) | (refine L_load1 (d := some 54) rfl rfl rfl (by rfl) Tryd.underlying94 rfl (by (exact cell_of (hst.get 2 rfl) lgArr_3)) ?_))
 go_upto_region 10 with (go_big_may; (refine L_neStr (d := some 63) rfl rfl rfl eqG_str Tryd.underlying9 (ev_tmp rfl) (ev_tmp rfl) ?_; (try rw [HEQ.out])))
 go_upto_region 11 with (go_big_may; first | (refine L_buildN (d := some 68) rfl rfl rfl (ev_tmp rfl) (ev_tmp rfl) ?_) | ((refine L_loadA (d := some 67) rfl rfl rfl (by rfl) Tryd.underlying30 rfl el_api_Digest (by (exact hst.get 1 rfl)) (by (exact Dig.size _)) ?_)) | (refine L_allocA (d := some 13) rfl rfl rfl el_api_Note ?_; (try clear hnew); intro g13 W13 hnew; replace hst := hst.trans hnew; simp only [List.cons_append, List.nil_append] at hst) | (refine wpl_at (.store 35 (.tmp 13) (.tmp 68)) rfl ?_; (refine L_storeA rfl rfl hst rfl (by rfl) (ev_tmp rfl) (by (exact ntArr_all _ _ _)) el_api_Note (by (exact ntArr_size _ _ _)) 0 rfl (by (rfl)) ?_; clear hst; intro WS4 hst; simp only [List.set_cons_zero, List.set_cons_succ] at hst)))
 go_upto_region 12 with (go_big_may; fail)
 (try clear hnew)
 go_upto_region 13 with (go_big_may; first | (refine L_load1 (d := some 72) rfl rfl rfl (by rfl) Tryd.underlying3 rfl (by (exact cell_of (hst.get 1 rfl) lsArr_33)) ?_) | (refine wpl_at (.store 3 (.tmp 74) (.tmp 73)) rfl ?_; (refine L_store1 rfl rfl hst rfl (by rfl) (ev_tmp rfl) rfl el_int 0 rfl (by (simp; done)) ?_; clear hst; intro WS5 hst; simp only [List.set_cons_zero, List.set_cons_succ, ntArr_turn _ _ _ _] at hst)))
 rw [← HTT.out] at hst
 go_upto_region 14 with (go_big_may; first | (go_at_call 55; (try clear hnew); refine (HLF.out _ (HT.out.of hst)).mono ?_; rintro e Wk3 ⟨rfl, hnew⟩; replace hst := hst.keep hnew) | ((refine L_loadA (d := some 76) rfl rfl rfl (by rfl) Tryd.underlying35 rfl el_api_Note (by (exact hst.get 0 rfl)) (by (exact ntArr_size _ _ _)) ?_)) | (refine L_allocA (d := some 14) rfl rfl rfl el_api_Digest ?_; (try clear hnew); intro g14 W14 hnew; replace hst := hst.trans hnew; simp only [List.cons_append, List.nil_append] at hst) | (refine wpl_at (.store 30 (.tmp 14) (.tmp 78)) rfl ?_; (refine L_storeA rfl rfl hst rfl (by rfl) (ev_tmp rfl) (by (exact Dig.one _)) el_api_Digest (by (exact Dig.size _)) 0 rfl (by (rfl)) ?_; clear hst; intro WS6 hst; simp only [List.set_cons_zero, List.set_cons_succ] at hst)))
 go_upto_region 16 with (go_big_may; fail)
 clear hnew
 refine wp_region_idx [(0, 0), (1, 0), (2, 0), (3, 0), (4, 0), (5, 0), (6, 0), (7, 0), (8, 0), (9, 0), (10, 0), (11, 2), (12, 2), (13, 1)] (by kernel_rfl) (by kernel_rfl) ?_
 replace hst := hst.drew
 refine idx_q rfl rfl ?_; go_wp2_with fail
 refine idx_q rfl rfl ?_; go_wp2_with fail
 refine idx_qf rfl rfl (by kernel_rfl) ?_; go_wp2_with fail
 refine idx_q rfl rfl ?_; go_wp2_with ((refine L_load1 (d := some 86) rfl rfl rfl (by rfl) Tryd.underlying93 rfl (by (exact cell_of (hst.get 4 rfl) lgArr_2)) ?_))
 refine idx_q rfl rfl ?_; go_wp2_with fail
 refine idx_q rfl rfl ?_; go_wp2_with (((refine L_loadA (d := some 88) rfl rfl rfl (by rfl) Tryd.underlying35 rfl el_api_Note (by (exact hst.get 1 rfl)) (by (exact ntArr_size _ _ _)) ?_)))
 refine idx_q rfl rfl ?_; go_wp2_with fail
 refine idx_q rfl rfl ?_; go_wp2_with fail
 refine idx_qf rfl rfl (by kernel_rfl) ?_; go_wp2_with fail
 refine idx_q rfl rfl ?_; go_wp2_with ((refine L_load1 (d := some 92) rfl rfl rfl (by rfl) Tryd.underlying36 rfl (by (exact cell_of (hst.get 4 rfl) lgArr_1)) ?_))
 refine idx_q rfl rfl ?_; go_wp2_with (fail)
 refine idx_g rfl ?_; go_wp2_with (((refine L_loadA (d := some 94) rfl rfl rfl (by rfl) Tryd.underlying30 rfl el_api_Digest (by (exact hst.get 0 rfl)) (by (exact Dig.size _)) ?_))); refine ⟨by (exact Below.refl _ _), ?_⟩
 refine idx_g rfl ?_; go_wp2_with ((refine L_buildL (d := some 95) rfl rfl rfl (ev_tmp rfl) (ev_tmp rfl) (ev_tmp rfl) ?_)); refine ⟨by (exact Below.refl _ _), ?_⟩
 refine idx_e rfl ?_; go_wp2_with ((refine L_mapUpd (fk := sV) (fv := lsV) (l := nm) (u := s) (v := (⟨s, k, tt⟩, ns.length, df)) rfl rfl hst rfl keyed_str Tryd.underlying93 (ev_tmp rfl) (ev_tmp rfl) (ev_tmp rfl) sV_inj HO.out HD.out HS.out 7 rfl ?_; clear hst; intro WM hst; simp only [List.set_cons_zero, List.set_cons_succ] at hst))
 refine idx_nil ?_
 go_upto_region 18 with (go_big_may; first | (refine L_mapUpd (fk := kInt) (fv := sV) (l := am) (u := ix) (v := s) rfl rfl hst rfl keyed_int Tryd.underlying94 (ev_tmp rfl) (ev_tmp rfl) (ev_tmp rfl) kInt_inj HOA.out HDA.out HSA.out 8 rfl ?_; clear hst; intro WN hst; simp only [List.set_cons_zero, List.set_cons_succ] at hst) | (refine L_load1 (d := some 99) rfl rfl rfl (by rfl) Tryd.underlying94 rfl (by (exact cell_of (hst.get 4 rfl) lgArr_3)) ?_))
 refine wp_region_pm (.one 0 3 (.one 1 3 (.one 2 0 (.one 3 0 (.one 4 0 (.one 5 2 (.one 6 2 (.one 7 1 (.one 8 2 (.one 9 2 (.one 10 1 .nil))))))))))) (by kernel_rfl) (by kernel_rfl) ?_
 replace hst := hst.drew
 refine pm_p rfl rfl ?_; go_wp2_with fail
 refine pm_p rfl rfl ?_; go_wp2_with fail
 refine pm_q rfl rfl ?_; go_wp2_with fail
 refine pm_qf rfl rfl (by kernel_rfl) ?_; go_wp2_with fail
 refine pm_q rfl rfl ?_; go_wp2_with ((refine L_load1 (d := some 106) rfl rfl rfl (by rfl) Tryd.underlying36 rfl (by (exact cell_of (hst.get 4 rfl) lgArr_1)) ?_))
 refine pm_g rfl ?_; go_wp2_with (((refine L_loadA (d := some 107) rfl rfl rfl (by rfl) Tryd.underlying30 rfl el_api_Digest (by (exact hst.get 0 rfl)) (by (exact Dig.size _)) ?_))); refine ⟨by (exact Below.refl _ _), ?_⟩
 refine pm_g rfl ?_; go_wp2_with ((refine L_buildS (d := some 108) rfl rfl rfl [_] (bs_1 (ev_tmp rfl)) rfl Tryd.underlying36 el_api_Digest rfl (by (simp [Value.cells, Dig.size]; done)) (by decide) (by decide) ?_; (try clear hnew); intro g108 W108 hnew; replace hst := hst.trans hnew; simp only [List.cons_append, List.nil_append] at hst; simp only [List.flatMap_cons, List.flatMap_nil, List.append_nil, Value.cells, List.toList_toArray] at hst)); refine ⟨by (exact hnew.below), ?_⟩
 refine pm_e rfl ?_; go_wp2_with ((refine L_appendO (d := some 109) rfl rfl hst rfl (by rfl) (by rfl) Tryd.underlying36 el_api_Digest rfl (by decide) (by decide) 7 rfl (by (rfl)) (by (exact hst.sl 0 rfl)) (by (exact oneCell_bytes)) (by omega) ?_; clear hst; intro A109 c109 W109 hst; simp only [List.set_cons_zero, List.set_cons_succ, List.nil_append, Nat.zero_add] at hst))
 refine pm_g rfl ?_; go_wp2_with fail; refine ⟨by (exact Below.refl _ _), ?_⟩
 refine pm_g rfl ?_; go_wp2_with fail; refine ⟨by (exact Below.refl _ _), ?_⟩
 refine pm_e rfl ?_; go_wp2_with ((refine wpl_at (.store 36 (.tmp 111) (.tmp 109)) rfl ?_; (refine L_store1 rfl rfl hst rfl (by rfl) (ev_tmp rfl) rfl el_S_api_Digest 5 rfl (by (exact of_decide_eq_true rfl)) ?_; clear hst; intro WS10 hst; simp only [List.set_cons_zero, List.set_cons_succ, lgArr_s1 _ _ _, HLV.out] at hst)))
 refine pm_nil ?_
 go_wp2_with ((refine L_load1 (d := some 115) rfl rfl rfl (by rfl) Tryd.underlying36 rfl (by (exact cell_of (hst.get 5 rfl) lgArr_1)) ?_))
 go_ret2
 refine .inl ⟨HE.out, ?_, ⟨g, m, c, c109, Mn, Ma, A, A109, updA s (⟨s, k, tt⟩, ns.length, df) nm, updA ix s am⟩, rfl, rfl, ?_, ?_⟩
 ·(rfl)
 ·rw [← HNN.out]
  exact HM.out
 ·simp only [lgL, List.cons_append, List.nil_append]
  rw [← HNN.out, snoc_len]
  exact hst.tail.tail.tail.tail.tail
theorem atName_none {ns : List NoteN} {s : List UInt8} (h : lastI ns s = none) : atName ns s = none := by unfold atName; rw [h]; rfl
theorem add_any (key : List UInt8) (ns : List NoteN) (s : List UInt8) (k : Dig) (p : LgP) (w0 w : World) (L : List Res) (hT : Tb w0) (hst : St w0 w (lgL p key ns ++ L)) (hm : MapsOf ns p.nm p.am) (hl : Logged ns) :
  Calls Tryd.prog 24 #[.pointer (some ⟨p.g, 0, none⟩), .string (bsOf s), k.v] w (AddEnd key ns s k p w0 L) := by
 cases hs : isNm s with
 | false => exact add_unnamed key ns s k p w0 w L hst hs
 | true =>
  by_cases hf : 256 ≤ ns.length
  ·exact add_full1 key ns s k p w0 w L hst hm hs hf
  by_cases hc : lastI ns s = none ∧ 64 ≤ namesC ns
  ·exact add_full2 key ns s k p w0 w L hst hm hs hf hc.1 hc.2
  cases ht : takenN ns s with
  | true => exact add_twice key ns s k p w0 w L hT hst hm hs hf hc ht
  | false =>
   have he : addE ns s = 0 := by unfold addE; rw [if_pos hs, if_neg (not_or.2 ⟨hf, hc⟩), if_neg (by rw [ht]; decide)]
   cases hx : atName ns s with
   | some x =>
    refine add_ok_hi key ns s k p w0 w L hT hst hm hl he x hx ?_
    obtain ⟨h1, h2, _, _⟩ := atName_some hx
    obtain ⟨n, h3, h4⟩ := lastI_some h1
    exact (hm.lookA_ _ _).2 ⟨n, List.mem_of_getElem? h3, h4, rfl⟩
   | none =>
    refine add_ok_nn key ns s k p w0 w L hT hst hm hl he hx ?_
    cases hi : lookA (idxN s) p.am with
    | none => rfl
    | some t =>
     exfalso
     by_cases hts : t = s
     ·subst hts
      obtain ⟨n, h1, h2, _⟩ := (hm.lookA_ _ _).1 hi
      have h3 := atName_isSome ns t
      rw [hx] at h3
      cases h4 : lastI ns t with
      | none => exact (lastI_none.1 h4) n h1 h2
      | some j => rw [h4] at h3; cases h3
     ·have := (hm.taken s).2 ⟨t, hi, hts⟩
      rw [ht] at this
      cases this
end Go.Proofs.YtaebeemnipafbaaDoor

set_option maxRecDepth 20000
set_option linter.unusedSimpArgs false
set_option linter.unusedVariables false
namespace Go.Proofs.YtaebeemnipafbaaDoor
open Go.RowKit
theorem path_end (q : List Dig) (d : Dig) (r : Nat) (h : q.length = r) : ((digsL (q ++ [d])).drop (r * 32)).take 32 = d.arr.toList := by
 rw [digsL_append, digsL_single, ← h, List.drop_left' (by rw [length_digsL]), List.take_of_length_le (by rw [Array.length_toList, Dig.size]; exact Nat.le_refl _)]
set_option maxHeartbeats 4000000 in
set_option maxRecDepth 100000 in
theorem take_any (old d : Dig) (q : List Dig) (A : Option Addr) (n c g : Nat) (w0 w : World) (L : List Res) (hst : St w0 w (.blk g 174 (fArr old A n c) :: L)) (hx : SlR w0 A n c 32 (digsL (q ++ [d]))) :
  Calls Tryd.prog 121 #[.pointer (some ⟨g, 0, none⟩)] w fun e w' => e = .returned d.v ∧ ∃ A' c', St w0 w' (.blk g 174 (fArr old A' (n - 1) c') :: L) ∧ SlR w0 A' (n - 1) c' 32 (digsL q) := by
 have hn : n = q.length + 1 := by have := hx.1; rw [length_digsL, List.length_append] at this; simp at this; omega
 obtain ⟨r, hr⟩ : ∃ r, q.length = r := ⟨_, rfl⟩
 rw [hr] at hn
 subst hn
 have hcap := hx.2.1
 have hmax := hx.2.2.1
 simp only [maxLen] at hmax
 have HF := Lib.hid (fArr_at old A (r + 1) c)
 have HX := Lib.hid (show ((digsL (q ++ [d])).drop ((r : Int).toNat * 32)).take 32 = d.arr.toList from path_end q d r hr)
 have HC := Lib.hid (show ((digsL (q ++ [d])).drop (0 * 32)).take ((r - 0) * 32) = digsL q by rw [digsL_cut, List.drop_zero, Nat.sub_zero, List.take_left' hr])
 have h0 : ((r : Int) + 1 == 0) = false := by rw [beq_eq_false_iff_ne]; omega
 rw [show r + 1 - 1 = r by omega]
 clear hr
 generalize digsL (q ++ [d]) = lx at *
 generalize digsL q = lq at *
 go_enter Tryd.func121, Tryd.ntmps121
 go_upto_region 1 with ((refine L_allocA (d := some 2) rfl rfl rfl el_api_Digest ?_; (try clear hnew); intro g2 W2 hnew; replace hst := hst.trans hnew; simp only [List.cons_append, List.nil_append] at hst))
 go_upto_region 3 with ((refine L_load1 (d := some 7) rfl rfl rfl (by rfl) Tryd.underlying36 rfl (by (exact cell_of (hst.get 1 rfl) HF.out)) ?_))
 (try clear hnew)
 refine wp_region_idx [(0, 0), (1, 0), (2, 0), (3, 0), (4, 0), (5, 0), (6, 0), (7, 0), (8, 0), (9, 0), (10, 0), (11, 0), (12, 2), (13, 1)] (by kernel_rfl) (by kernel_rfl) ?_
 replace hst := hst.drew
 refine idx_q rfl rfl ?_; go_wp2_with fail
 refine idx_q rfl rfl ?_; go_wp2_with fail
 refine idx_qf rfl rfl (by kernel_rfl) ?_; go_wp2_with fail
 refine idx_q rfl rfl ?_; go_wp2_with ((refine L_load1 (d := some 14) rfl rfl rfl (by rfl) Tryd.underlying36 rfl (by (exact cell_of (hst.get 1 rfl) HF.out)) ?_))
 refine idx_q rfl rfl ?_; go_wp2_with fail
 refine idx_q rfl rfl ?_; go_wp2_with fail
 refine idx_qf rfl rfl (by kernel_rfl) ?_; go_wp2_with fail
 refine idx_q rfl rfl ?_; go_wp2_with ((refine L_load1 (d := some 18) rfl rfl rfl (by rfl) Tryd.underlying36 rfl (by (exact cell_of (hst.get 1 rfl) HF.out)) ?_))
 refine idx_q rfl rfl ?_; go_wp2_with (fail)
 refine idx_q rfl rfl ?_; go_wp2_with fail
 refine idx_q rfl rfl ?_; go_wp2_with ((refine L_idxS (d := some 21) rfl rfl rfl (by rfl) (by rfl) Tryd.underlying36 el_api_Digest (by (exact hst.old (by decide) hx)) (by omega) (by omega) ?_; intro o21 p21 ha21 hr21; ((subst ha21))))
 refine idx_q rfl rfl ?_; go_wp2_with ((refine L_loadM (d := some 22) rfl rfl rfl (by rfl) Tryd.underlying30 rfl el_api_Digest (cs := d.arr) (by rw [← HX.out]; exact hr21) (Dig.size _) ?_))
 refine idx_g rfl ?_; go_wp2_with ((refine L_allocA (d := some 3) rfl rfl rfl el_api_Digest ?_; (try clear hnew); intro g3 W3 hnew; replace hst := hst.trans hnew; simp only [List.cons_append, List.nil_append] at hst)); refine ⟨by (exact hnew.below), ?_⟩
 refine idx_e rfl ?_; go_wp2_with ((refine wpl_at (.store 30 (.tmp 3) (.tmp 22)) rfl ?_; (refine L_storeA rfl rfl hst rfl (by rfl) (ev_tmp rfl) (by (exact Dig.one _)) el_api_Digest (by (exact Dig.size _)) 0 rfl (by (rfl)) ?_; clear hst; intro WS13 hst; simp only [List.set_cons_zero, List.set_cons_succ] at hst)))
 refine idx_nil ?_
 go_wp2_with fail
 (try clear hnew)
 refine wp_region_idx [(0, 0), (1, 0), (2, 0), (3, 0), (4, 0), (5, 2), (6, 2), (7, 2), (8, 2), (9, 2), (10, 2), (11, 2), (12, 2), (13, 2), (14, 1)] (by kernel_rfl) (by kernel_rfl) ?_
 replace hst := hst.drew
 refine idx_q rfl rfl ?_; go_wp2_with fail
 refine idx_q rfl rfl ?_; go_wp2_with fail
 refine idx_q rfl rfl ?_; go_wp2_with fail
 refine idx_qf rfl rfl (by kernel_rfl) ?_; go_wp2_with fail
 refine idx_q rfl rfl ?_; go_wp2_with ((refine L_load1 (d := some 27) rfl rfl rfl (by rfl) Tryd.underlying36 rfl (by (exact cell_of (hst.get 2 rfl) HF.out)) ?_))
 refine idx_g rfl ?_; go_wp2_with fail; refine ⟨by (exact Below.refl _ _), ?_⟩
 refine idx_g rfl ?_; go_wp2_with fail; refine ⟨by (exact Below.refl _ _), ?_⟩
 refine idx_g rfl ?_; go_wp2_with fail; refine ⟨by (exact Below.refl _ _), ?_⟩
 refine idx_g rfl ?_; go_wp2_with ((refine L_load1 (d := some 31) rfl rfl rfl (by rfl) Tryd.underlying36 rfl (by (exact cell_of (hst.get 2 rfl) HF.out)) ?_)); refine ⟨by (exact Below.refl _ _), ?_⟩
 refine idx_g rfl ?_; go_wp2_with (fail); refine ⟨by (exact Below.refl _ _), ?_⟩
 refine idx_g rfl ?_; go_wp2_with fail; refine ⟨by (exact Below.refl _ _), ?_⟩
 refine idx_g rfl ?_; go_wp2_with (((refine L_cutV (d := some 34) rfl rfl rfl (by rfl) Tryd.underlying36 el_api_Digest (by decide) hx 0 r _ (Or.inl ⟨rfl, rfl⟩) (Or.inr ⟨_, _, rfl, by (exact ev_tmp rfl)⟩) (Or.inl ⟨rfl, rfl⟩) (by omega) (by omega) (by omega) (by omega) ?_; intro A34 c34 hs34))); refine ⟨by (exact Below.refl _ _), ?_⟩
 refine idx_g rfl ?_; go_wp2_with fail; refine ⟨by (exact Below.refl _ _), ?_⟩
 refine idx_g rfl ?_; go_wp2_with fail; refine ⟨by (exact Below.refl _ _), ?_⟩
 refine idx_e rfl ?_; go_wp2_with ((refine wpl_at (.store 36 (.tmp 36) (.tmp 34)) rfl ?_; refine L_store1 rfl rfl hst rfl (by rfl) (ev_tmp rfl) rfl el_S_api_Digest 2 rfl (by rw [fArr_size]; decide) ?_; clear hst; intro WS14 hst; simp only [List.set_cons_zero, List.set_cons_succ, fArr_set] at hst))
 refine idx_nil ?_
 go_wp2_with (first | ((refine L_loadA (d := some 37) rfl rfl rfl (by rfl) Tryd.underlying30 rfl el_api_Digest (by (exact hst.get 0 rfl)) (by (exact Dig.size _)) ?_)) | (refine wpl_at (.store 30 (.tmp 2) (.tmp 37)) rfl ?_; (refine L_storeA rfl rfl hst rfl (by rfl) (ev_tmp rfl) (by (exact Dig.one _)) el_api_Digest (by (exact Dig.size _)) 1 rfl (by (rfl)) ?_; clear hst; intro WS1 hst; simp only [List.set_cons_zero, List.set_cons_succ] at hst)))
 refine bp_cell rfl rfl rfl (hst.get 1 rfl) Tryd.underlying30 rfl el_api_Digest (by (exact Dig.size _)) ?_
 exact ⟨rfl, A34, c34, hst.tailN 2, by rw [← HC.out]; exact hs34⟩
set_option maxHeartbeats 8000000 in
set_option maxRecDepth 100000 in
theorem gfold_any (old : Dig) (g : Nat) (w0 : World) (hT : Tb w0) (r : List Dig) : ∀ (n m : Nat) (own : Bool) (p : List Dig) (A : Option Addr) (k c : Nat) (w : World) (L : List Res), St w0 w (.blk g 174 (fArr old A k c) :: L) → SlR w0 A k c 32 (digsL (r ++ p)) → p.length = plN n m own → 1 ≤ m → m ≤ n → n ≤ 256 →
  Calls Tryd.prog 107 #[.pointer (some ⟨g, 0, none⟩), .int .i64 (m : Int), .int .i64 (n : Int), .bool own] w fun e w' => e = .returned (.tuple #[(grN n m own old p).1.v, (grN n m own old p).2.v]) ∧ ∃ A' c', St w0 w' (.blk g 174 (fArr old A' r.length c') :: L) ∧ SlR w0 A' r.length c' 32 (digsL r) := by
 intro n
 induction n using Nat.strongRecOn with
 | ind n ih =>
 intro m own p A k c w L hst hx hp hm1 hmn hn
 have HT := Lib.hid hT
 have hk : k = r.length + p.length := by have := hx.1; rw [length_digsL, List.length_append] at this; omega
 by_cases h : m = n
 ·subst h
  rw [plN_all] at hp
  cases own with
  | true =>
   obtain rfl : p = [] := List.eq_nil_of_length_eq_zero (by simpa using hp)
   rw [List.append_nil] at hx
   obtain rfl : k = r.length := by simpa using hk
   rw [grN_all]
   clear ih hp hk
   generalize digsL r = lr at *
   generalize r.length = k at *
   go_enter Tryd.func107, Tryd.ntmps107
   go_upto_region 1 with (first | (refine L_allocA (d := some 8) rfl rfl rfl el_api_Digest ?_; (try clear hnew); intro g8 W8 hnew; replace hst := hst.trans hnew; simp only [List.cons_append, List.nil_append] at hst) | (refine L_allocA (d := some 9) rfl rfl rfl el_api_Digest ?_; (try clear hnew); intro g9 W9 hnew; replace hst := hst.trans hnew; simp only [List.cons_append, List.nil_append] at hst))
   go_upto_region 2 with (fail)
   go_upto_region 3 with (fail)
   (try clear hnew)
   refine wp_region_pm (.one 0 3 (.one 4 3 (.one 1 0 (.one 2 0 (.one 3 0 (.two 5 2 (.two 6 2 (.two 7 2 (.one 8 1 (.one 9 1 .nil)) 8 1 (.one 7 2 (.one 9 1 .nil))) 8 1 (.one 6 2 (.one 7 2 (.one 9 1 .nil)))) 8 1 (.one 5 2 (.one 6 2 (.one 7 2 (.one 9 1 .nil)))))))))) (by kernel_rfl) (by kernel_rfl) ?_
   replace hst := hst.drew
   refine pm_p rfl rfl ?_; go_wp2_with fail
   refine pm_p rfl rfl ?_; go_wp2_with fail
   refine pm_q rfl rfl ?_; go_wp2_with fail
   refine pm_qf rfl rfl (by kernel_rfl) ?_; go_wp2_with fail
   refine pm_q rfl rfl ?_; go_wp2_with (((refine L_loadM (d := some 20) rfl rfl rfl (by rfl) Tryd.underlying30 rfl el_api_Digest (by (exact fArr_old (hst.get 2 rfl))) (by (exact Dig.size _)) ?_)))
   refine pm_two (ki := 2) (kj := 1) rfl rfl ?_ ?_
   ·go_wp2_with fail; refine ⟨fun _ => (by (exact Below.refl _ _)), ?_⟩
    refine pm_two (ki := 2) (kj := 1) rfl rfl ?_ ?_
    ·go_wp2_with fail; refine ⟨fun _ => (by (exact Below.refl _ _)), ?_⟩
     refine pm_two (ki := 2) (kj := 1) rfl rfl ?_ ?_
     ·go_wp2_with (((refine L_loadM (d := some 24) rfl rfl rfl (by rfl) Tryd.underlying30 rfl el_api_Digest (by (exact fArr_old (hst.get 2 rfl))) (by (exact Dig.size _)) ?_))); refine ⟨fun _ => (by (exact Below.refl _ _)), ?_⟩
      refine pm_e rfl ?_; go_wp2_with ((refine wpl_at (.store 30 (.tmp 8) (.tmp 20)) rfl ?_; (refine L_storeA rfl rfl hst rfl (by rfl) (ev_tmp rfl) (by (exact Dig.one _)) el_api_Digest (by (exact Dig.size _)) 1 rfl (by (rfl)) ?_; clear hst; intro WS8 hst; simp only [List.set_cons_zero, List.set_cons_succ] at hst)))
      refine pm_e rfl ?_; go_wp2_with ((refine wpl_at (.store 30 (.tmp 9) (.tmp 24)) rfl ?_; (refine L_storeA rfl rfl hst rfl (by rfl) (ev_tmp rfl) (by (exact Dig.one _)) el_api_Digest (by (exact Dig.size _)) 0 rfl (by (rfl)) ?_; clear hst; intro WS9 hst; simp only [List.set_cons_zero, List.set_cons_succ] at hst)))
      refine pm_nil ?_
      go_wp2_with fail
      refine bp_cell2 rfl rfl rfl rfl (hst.get 1 rfl) (hst.get 0 rfl) Tryd.underlying30 rfl Tryd.underlying30 rfl el_api_Digest (Dig.size _) el_api_Digest (Dig.size _) ?_
      exact ⟨rfl, A, c, hst.tailN 2, hx⟩
     ·go_wp2_with ((refine wpl_at (.store 30 (.tmp 8) (.tmp 20)) rfl ?_; (refine L_storeA rfl rfl hst rfl (by rfl) (ev_tmp rfl) (by (exact Dig.one _)) el_api_Digest (by (exact Dig.size _)) 1 rfl (by (rfl)) ?_; clear hst; intro WS8 hst; simp only [List.set_cons_zero, List.set_cons_succ] at hst))); refine ⟨fun h => absurd h (by decide), ?_⟩
      refine pm_g rfl ?_; go_wp2_with (((refine L_loadM (d := some 24) rfl rfl rfl (by rfl) Tryd.underlying30 rfl el_api_Digest (by (exact fArr_old (hst.get 2 rfl))) (by (exact Dig.size _)) ?_))); refine ⟨by (exact Below.refl _ _), ?_⟩
      refine pm_e rfl ?_; go_wp2_with ((refine wpl_at (.store 30 (.tmp 9) (.tmp 24)) rfl ?_; (refine L_storeA rfl rfl hst rfl (by rfl) (ev_tmp rfl) (by (exact Dig.one _)) el_api_Digest (by (exact Dig.size _)) 0 rfl (by (rfl)) ?_; clear hst; intro WS9 hst; simp only [List.set_cons_zero, List.set_cons_succ] at hst)))
      refine pm_nil ?_
      go_wp2_with fail
      refine bp_cell2 rfl rfl rfl rfl (hst.get 1 rfl) (hst.get 0 rfl) Tryd.underlying30 rfl Tryd.underlying30 rfl el_api_Digest (Dig.size _) el_api_Digest (Dig.size _) ?_
      exact ⟨rfl, A, c, hst.tailN 2, hx⟩
    ·go_wp2_with ((refine wpl_at (.store 30 (.tmp 8) (.tmp 20)) rfl ?_; (refine L_storeA rfl rfl hst rfl (by rfl) (ev_tmp rfl) (by (exact Dig.one _)) el_api_Digest (by (exact Dig.size _)) 1 rfl (by (rfl)) ?_; clear hst; intro WS8 hst; simp only [List.set_cons_zero, List.set_cons_succ] at hst))); refine ⟨fun h => absurd h (by decide), ?_⟩
     refine pm_g rfl ?_; go_wp2_with fail; refine ⟨by (exact Below.refl _ _), ?_⟩
     refine pm_g rfl ?_; go_wp2_with (((refine L_loadM (d := some 24) rfl rfl rfl (by rfl) Tryd.underlying30 rfl el_api_Digest (by (exact fArr_old (hst.get 2 rfl))) (by (exact Dig.size _)) ?_))); refine ⟨by (exact Below.refl _ _), ?_⟩
     refine pm_e rfl ?_; go_wp2_with ((refine wpl_at (.store 30 (.tmp 9) (.tmp 24)) rfl ?_; (refine L_storeA rfl rfl hst rfl (by rfl) (ev_tmp rfl) (by (exact Dig.one _)) el_api_Digest (by (exact Dig.size _)) 0 rfl (by (rfl)) ?_; clear hst; intro WS9 hst; simp only [List.set_cons_zero, List.set_cons_succ] at hst)))
     refine pm_nil ?_
     go_wp2_with fail
     refine bp_cell2 rfl rfl rfl rfl (hst.get 1 rfl) (hst.get 0 rfl) Tryd.underlying30 rfl Tryd.underlying30 rfl el_api_Digest (Dig.size _) el_api_Digest (Dig.size _) ?_
     exact ⟨rfl, A, c, hst.tailN 2, hx⟩
   ·go_wp2_with ((refine wpl_at (.store 30 (.tmp 8) (.tmp 20)) rfl ?_; (refine L_storeA rfl rfl hst rfl (by rfl) (ev_tmp rfl) (by (exact Dig.one _)) el_api_Digest (by (exact Dig.size _)) 1 rfl (by (rfl)) ?_; clear hst; intro WS8 hst; simp only [List.set_cons_zero, List.set_cons_succ] at hst))); refine ⟨fun h => absurd h (by decide), ?_⟩
    refine pm_g rfl ?_; go_wp2_with fail; refine ⟨by (exact Below.refl _ _), ?_⟩
    refine pm_g rfl ?_; go_wp2_with fail; refine ⟨by (exact Below.refl _ _), ?_⟩
    refine pm_g rfl ?_; go_wp2_with (((refine L_loadM (d := some 24) rfl rfl rfl (by rfl) Tryd.underlying30 rfl el_api_Digest (by (exact fArr_old (hst.get 2 rfl))) (by (exact Dig.size _)) ?_))); refine ⟨by (exact Below.refl _ _), ?_⟩
    refine pm_e rfl ?_; go_wp2_with ((refine wpl_at (.store 30 (.tmp 9) (.tmp 24)) rfl ?_; (refine L_storeA rfl rfl hst rfl (by rfl) (ev_tmp rfl) (by (exact Dig.one _)) el_api_Digest (by (exact Dig.size _)) 0 rfl (by (rfl)) ?_; clear hst; intro WS9 hst; simp only [List.set_cons_zero, List.set_cons_succ] at hst)))
    refine pm_nil ?_
    go_wp2_with fail
    refine bp_cell2 rfl rfl rfl rfl (hst.get 1 rfl) (hst.get 0 rfl) Tryd.underlying30 rfl Tryd.underlying30 rfl el_api_Digest (Dig.size _) el_api_Digest (Dig.size _) ?_
    exact ⟨rfl, A, c, hst.tailN 2, hx⟩
  | false =>
   obtain ⟨d, rfl⟩ : ∃ d, p = [d] := by
    match p, hp with
    | [d], _ => exact ⟨d, rfl⟩
   obtain rfl : k = r.length + 1 := by simpa using hk
   have HK := Lib.hid (fun w L hst => take_any old d r A (r.length + 1) c g w0 w L hst hx)
   rw [Nat.add_sub_cancel] at HK
   rw [grN_all]
   simp only [Bool.false_eq_true, if_false, List.getLastD_cons, List.getLastD_nil]
   clear ih hp hk hx
   generalize digsL r = lr at *
   generalize r.length = k at *
   go_enter Tryd.func107, Tryd.ntmps107
   go_upto_region 1 with (first | (refine L_allocA (d := some 8) rfl rfl rfl el_api_Digest ?_; (try clear hnew); intro g8 W8 hnew; replace hst := hst.trans hnew; simp only [List.cons_append, List.nil_append] at hst) | (refine L_allocA (d := some 9) rfl rfl rfl el_api_Digest ?_; (try clear hnew); intro g9 W9 hnew; replace hst := hst.trans hnew; simp only [List.cons_append, List.nil_append] at hst))
   go_upto_region 2 with (fail)
   go_upto_region 4 with (fail)
   go_upto_region 5 with (first | (go_at_call 121; (try clear hnew); refine (HK.out _ _ (hst.front 2 rfl)).mono ?_; rintro e W26 ⟨rfl, A26, c26, hst', hx'⟩; clear hst; have hst := hst'; clear hst'; simp only [List.eraseIdx_cons_succ, List.eraseIdx_cons_zero] at hst) | (refine L_allocA (d := some 10) rfl rfl rfl el_api_Digest ?_; (try clear hnew); intro g10 W10 hnew; replace hst := hst.trans hnew; simp only [List.cons_append, List.nil_append] at hst) | (refine wpl_at (.store 30 (.tmp 10) (.tmp 26)) rfl ?_; (refine L_storeA rfl rfl hst rfl (by rfl) (ev_tmp rfl) (by (exact Dig.one _)) el_api_Digest (by (exact Dig.size _)) 0 rfl (by (rfl)) ?_; clear hst; intro WS3 hst; simp only [List.set_cons_zero, List.set_cons_succ] at hst)))
   (try clear hnew)
   refine wp_region_pm (.one 0 0 (.two 1 2 (.one 2 1 (.one 3 1 .nil)) 2 1 (.one 1 2 (.one 3 1 .nil)))) (by kernel_rfl) (by kernel_rfl) ?_
   replace hst := hst.drew
   refine pm_q rfl rfl ?_; go_wp2_with (((refine L_loadA (d := some 27) rfl rfl rfl (by rfl) Tryd.underlying30 rfl el_api_Digest (by (exact hst.get 0 rfl)) (by (exact Dig.size _)) ?_)))
   refine pm_two (ki := 2) (kj := 1) rfl rfl ?_ ?_
   ·go_wp2_with (((refine L_loadA (d := some 28) rfl rfl rfl (by rfl) Tryd.underlying30 rfl el_api_Digest (by (exact hst.get 0 rfl)) (by (exact Dig.size _)) ?_))); refine ⟨fun _ => (by (exact Below.refl _ _)), ?_⟩
    refine pm_e rfl ?_; go_wp2_with ((refine wpl_at (.store 30 (.tmp 8) (.tmp 27)) rfl ?_; (refine L_storeA rfl rfl hst rfl (by rfl) (ev_tmp rfl) (by (exact Dig.one _)) el_api_Digest (by (exact Dig.size _)) 3 rfl (by (rfl)) ?_; clear hst; intro WS2 hst; simp only [List.set_cons_zero, List.set_cons_succ] at hst)))
    refine pm_e rfl ?_; go_wp2_with ((refine wpl_at (.store 30 (.tmp 9) (.tmp 28)) rfl ?_; (refine L_storeA rfl rfl hst rfl (by rfl) (ev_tmp rfl) (by (exact Dig.one _)) el_api_Digest (by (exact Dig.size _)) 2 rfl (by (rfl)) ?_; clear hst; intro WS3 hst; simp only [List.set_cons_zero, List.set_cons_succ] at hst)))
    refine pm_nil ?_
    go_wp2_with fail
    refine bp_cell2 rfl rfl rfl rfl (hst.get 3 rfl) (hst.get 2 rfl) Tryd.underlying30 rfl Tryd.underlying30 rfl el_api_Digest (Dig.size _) el_api_Digest (Dig.size _) ?_
    exact ⟨rfl, A26, c26, (hst.tailN 1).keep2, hx'⟩
   ·go_wp2_with ((refine wpl_at (.store 30 (.tmp 8) (.tmp 27)) rfl ?_; (refine L_storeA rfl rfl hst rfl (by rfl) (ev_tmp rfl) (by (exact Dig.one _)) el_api_Digest (by (exact Dig.size _)) 3 rfl (by (rfl)) ?_; clear hst; intro WS2 hst; simp only [List.set_cons_zero, List.set_cons_succ] at hst))); refine ⟨fun h => absurd h (by decide), ?_⟩
    refine pm_g rfl ?_; go_wp2_with (((refine L_loadA (d := some 28) rfl rfl rfl (by rfl) Tryd.underlying30 rfl el_api_Digest (by (exact hst.get 0 rfl)) (by (exact Dig.size _)) ?_))); refine ⟨by (exact Below.refl _ _), ?_⟩
    refine pm_e rfl ?_; go_wp2_with ((refine wpl_at (.store 30 (.tmp 9) (.tmp 28)) rfl ?_; (refine L_storeA rfl rfl hst rfl (by rfl) (ev_tmp rfl) (by (exact Dig.one _)) el_api_Digest (by (exact Dig.size _)) 2 rfl (by (rfl)) ?_; clear hst; intro WS3 hst; simp only [List.set_cons_zero, List.set_cons_succ] at hst)))
    refine pm_nil ?_
    go_wp2_with fail
    refine bp_cell2 rfl rfl rfl rfl (hst.get 3 rfl) (hst.get 2 rfl) Tryd.underlying30 rfl Tryd.underlying30 rfl el_api_Digest (Dig.size _) el_api_Digest (Dig.size _) ?_
    exact ⟨rfl, A26, c26, (hst.tailN 1).keep2, hx'⟩
 ·have hlt := halfN_lt n (by omega)
  have hps := halfN_pos n
  have h' : ((m : Int) == (n : Int)) = false := by rw [beq_eq_false_iff_ne]; omega
  have HF := Lib.hid (fun w => half_any n (by omega) (by omega) w)
  by_cases hk2 : m ≤ halfN n
  ·rw [plN_left h (by omega) hk2] at hp
   obtain ⟨q, d, rfl⟩ : ∃ q d, p = q ++ [d] := ⟨p.dropLast, p.getLast (fun e => by rw [e] at hp; simp at hp), (List.dropLast_concat_getLast _).symm⟩
   have hq : q.length = plN (halfN n) m own := by simpa using hp
   rw [grN_left h (by omega) hk2]
   have HK := Lib.hid (fun w L hst => take_any old d (r ++ q) A k c g w0 w L hst (by rw [List.append_assoc]; exact hx))
   have HI := Lib.hid (fun A' c' w L hst hx' => ih (halfN n) hlt m own q A' (k - 1) c' w L hst hx' hq hm1 hk2 (by omega))
   have hk' : (m : Int) ≤ (halfN n : Int) := by omega
   clear ih hp hx hq hk h
   generalize digsL (r ++ q) = lrq at *
   generalize digsL r = lr at *
   generalize grN (halfN n) m own old q = ab at *
   generalize halfN n = kk at *
   generalize r.length = rl at *
   go_enter Tryd.func107, Tryd.ntmps107
   go_upto_region 1 with (first | (refine L_allocA (d := some 8) rfl rfl rfl el_api_Digest ?_; (try clear hnew); intro g8 W8 hnew; replace hst := hst.trans hnew; simp only [List.cons_append, List.nil_append] at hst) | (refine L_allocA (d := some 9) rfl rfl rfl el_api_Digest ?_; (try clear hnew); intro g9 W9 hnew; replace hst := hst.trans hnew; simp only [List.cons_append, List.nil_append] at hst))
   go_upto_region 6 with (fail)
   go_upto_region 7 with (first | (go_at_call 121; (try clear hnew); refine (HK.out _ _ (hst.front 2 rfl)).mono ?_; rintro e W30 ⟨rfl, A30, c30, hst', hx'⟩; clear hst; have hst := hst'; clear hst'; simp only [List.eraseIdx_cons_succ, List.eraseIdx_cons_zero] at hst) | (refine L_allocA (d := some 11) rfl rfl rfl el_api_Digest ?_; (try clear hnew); intro g11 W11 hnew; replace hst := hst.trans hnew; simp only [List.cons_append, List.nil_append] at hst) | (refine wpl_at (.store 30 (.tmp 11) (.tmp 30)) rfl ?_; (refine L_storeA rfl rfl hst rfl (by rfl) (ev_tmp rfl) (by (exact Dig.one _)) el_api_Digest (by (exact Dig.size _)) 0 rfl (by (rfl)) ?_; clear hst; intro WS3 hst; simp only [List.set_cons_zero, List.set_cons_succ] at hst)))
   go_upto_region 8 with ((go_at_call 104; (try clear hnew); refine (HF.out _).mono ?_; rintro e Wk1 ⟨rfl, hnew⟩; replace hst := hst.keep hnew))
   go_upto_region 9 with (fail)
   go_upto_region 10 with (first | (go_at_call 107; (try clear hnew); refine (HI.out _ _ _ _ (hst.front 1 rfl) hx').mono ?_; rintro e W41 ⟨rfl, A41, c41, hst', hx''⟩; clear hst; have hst := hst'; clear hst'; simp only [List.eraseIdx_cons_succ, List.eraseIdx_cons_zero] at hst) | (refine wpl_at (.store 30 (.tmp 8) (.tmp 42)) rfl ?_; (refine L_storeA rfl rfl hst rfl (by rfl) (ev_tmp rfl) (by (exact Dig.one _)) el_api_Digest (by (exact Dig.size _)) 3 rfl (by (rfl)) ?_; clear hst; intro WS8 hst; simp only [List.set_cons_zero, List.set_cons_succ] at hst)) | (refine wpl_at (.store 30 (.tmp 9) (.tmp 43)) rfl ?_; (refine L_storeA rfl rfl hst rfl (by rfl) (ev_tmp rfl) (by (exact Dig.one _)) el_api_Digest (by (exact Dig.size _)) 2 rfl (by (rfl)) ?_; clear hst; intro WS9 hst; simp only [List.set_cons_zero, List.set_cons_succ] at hst)))
   (try clear hnew)
   refine wp_region_idxT [(0, 0), (1, 0), (2, 2), (3, 2), (4, 1), (5, 1)] (by kernel_rfl) (by kernel_rfl) ?_
   replace hst := hst.drew
   refine idx_q rfl rfl ?_; go_wp2_with (((refine L_loadA (d := some 44) rfl rfl rfl (by rfl) Tryd.underlying30 rfl el_api_Digest (by (exact hst.get 3 rfl)) (by (exact Dig.size _)) ?_)))
   refine idx_q rfl rfl ?_; go_wp2_with (((refine L_loadA (d := some 45) rfl rfl rfl (by rfl) Tryd.underlying30 rfl el_api_Digest (by (exact hst.get 2 rfl)) (by (exact Dig.size _)) ?_)))
   refine idx_g rfl ?_; go_wp2_with (((refine L_loadA (d := some 46) rfl rfl rfl (by rfl) Tryd.underlying30 rfl el_api_Digest (by (exact hst.get 1 rfl)) (by (exact Dig.size _)) ?_))); refine ⟨by (exact Below.refl _ _), ?_⟩
   refine idx_g rfl ?_; go_wp2_with ((go_at_call 95; (try clear hnew); with_reducible refine (node_any _ _ _ (HT.out.of hst)).mono ?_; rintro e Wk2 ⟨rfl, hnew⟩; replace hst := hst.keep hnew)); refine ⟨by (exact hnew.below), ?_⟩
   refine idx_e rfl ?_; go_wp2_with ((refine wpl_at (.store 30 (.tmp 8) (.tmp 44)) rfl ?_; (refine L_storeA rfl rfl hst rfl (by rfl) (ev_tmp rfl) (by (exact Dig.one _)) el_api_Digest (by (exact Dig.size _)) 3 rfl (by (exact Dig.size _)) ?_; clear hst; intro WS4 hst; simp only [List.set_cons_zero, List.set_cons_succ] at hst)))
   refine idx_e rfl ?_; go_wp2_with ((refine wpl_at (.store 30 (.tmp 9) (.tmp 47)) rfl ?_; (refine L_storeA rfl rfl hst rfl (by rfl) (ev_tmp rfl) (by (exact Dig.one _)) el_api_Digest (by (rfl)) 2 rfl (by (exact Dig.size _)) ?_; clear hst; intro WS5 hst; simp only [List.set_cons_zero, List.set_cons_succ] at hst)))
   refine idx_nil ?_
   go_wp2_with fail
   refine bp_cell2 rfl rfl rfl rfl (hst.get 3 rfl) (hst.get 2 rfl) Tryd.underlying30 rfl Tryd.underlying30 rfl el_api_Digest (Dig.size _) el_api_Digest (Dig.size _) ?_
   exact ⟨rfl, A41, c41, hst.keep3, hx''⟩
  ·rw [plN_right h (by omega) hk2] at hp
   obtain ⟨q, d, rfl⟩ : ∃ q d, p = q ++ [d] := ⟨p.dropLast, p.getLast (fun e => by rw [e] at hp; simp at hp), (List.dropLast_concat_getLast _).symm⟩
   have hq : q.length = plN (n - halfN n) (m - halfN n) false := by simpa using hp
   rw [grN_right h (by omega) hk2]
   have HK := Lib.hid (fun w L hst => take_any old d (r ++ q) A k c g w0 w L hst (by rw [List.append_assoc]; exact hx))
   have HI := Lib.hid (fun A' c' w L hst hx' => ih (n - halfN n) (by omega) (m - halfN n) false q A' (k - 1) c' w L hst hx' hq (by omega) (by omega) (by omega))
   have e1 : ((m - halfN n : Nat) : Int) = (m : Int) - (halfN n : Int) := by omega
   have e2 : ((n - halfN n : Nat) : Int) = (n : Int) - (halfN n : Int) := by omega
   rw [e1, e2] at HI
   have hk' : ¬ (m : Int) ≤ (halfN n : Int) := by omega
   clear ih hp hx hq hk h e1 e2
   generalize digsL (r ++ q) = lrq at *
   generalize digsL r = lr at *
   generalize grN (n - halfN n) (m - halfN n) false old q = ab at *
   generalize halfN n = kk at *
   generalize r.length = rl at *
   go_enter Tryd.func107, Tryd.ntmps107
   go_upto_region 1 with (first | (refine L_allocA (d := some 8) rfl rfl rfl el_api_Digest ?_; (try clear hnew); intro g8 W8 hnew; replace hst := hst.trans hnew; simp only [List.cons_append, List.nil_append] at hst) | (refine L_allocA (d := some 9) rfl rfl rfl el_api_Digest ?_; (try clear hnew); intro g9 W9 hnew; replace hst := hst.trans hnew; simp only [List.cons_append, List.nil_append] at hst))
   go_upto_region 6 with (fail)
   go_upto_region 7 with (first | (go_at_call 121; (try clear hnew); refine (HK.out _ _ (hst.front 2 rfl)).mono ?_; rintro e W30 ⟨rfl, A30, c30, hst', hx'⟩; clear hst; have hst := hst'; clear hst'; simp only [List.eraseIdx_cons_succ, List.eraseIdx_cons_zero] at hst) | (refine L_allocA (d := some 11) rfl rfl rfl el_api_Digest ?_; (try clear hnew); intro g11 W11 hnew; replace hst := hst.trans hnew; simp only [List.cons_append, List.nil_append] at hst) | (refine wpl_at (.store 30 (.tmp 11) (.tmp 30)) rfl ?_; (refine L_storeA rfl rfl hst rfl (by rfl) (ev_tmp rfl) (by (exact Dig.one _)) el_api_Digest (by (exact Dig.size _)) 0 rfl (by (rfl)) ?_; clear hst; intro WS3 hst; simp only [List.set_cons_zero, List.set_cons_succ] at hst)))
   go_upto_region 8 with ((go_at_call 104; (try clear hnew); refine (HF.out _).mono ?_; rintro e Wk3 ⟨rfl, hnew⟩; replace hst := hst.keep hnew))
   go_upto_region 11 with (fail)
   go_upto_region 12 with (first | (go_at_call 107; (try clear hnew); refine (HI.out _ _ _ _ (hst.front 1 rfl) hx').mono ?_; rintro e W56 ⟨rfl, A56, c56, hst', hx''⟩; clear hst; have hst := hst'; clear hst'; simp only [List.eraseIdx_cons_succ, List.eraseIdx_cons_zero] at hst) | (refine wpl_at (.store 30 (.tmp 8) (.tmp 57)) rfl ?_; (refine L_storeA rfl rfl hst rfl (by rfl) (ev_tmp rfl) (by (exact Dig.one _)) el_api_Digest (by (exact Dig.size _)) 3 rfl (by (rfl)) ?_; clear hst; intro WS11 hst; simp only [List.set_cons_zero, List.set_cons_succ] at hst)) | (refine wpl_at (.store 30 (.tmp 9) (.tmp 58)) rfl ?_; (refine L_storeA rfl rfl hst rfl (by rfl) (ev_tmp rfl) (by (exact Dig.one _)) el_api_Digest (by (exact Dig.size _)) 2 rfl (by (rfl)) ?_; clear hst; intro WS12 hst; simp only [List.set_cons_zero, List.set_cons_succ] at hst)))
   (try clear hnew)
   refine wp_region_idxT [(0, 0), (1, 0), (3, 0), (4, 0), (2, 2), (5, 2), (6, 1), (7, 1)] (by kernel_rfl) (by kernel_rfl) ?_
   replace hst := hst.drew
   refine idx_q rfl rfl ?_; go_wp2_with (((refine L_loadA (d := some 59) rfl rfl rfl (by rfl) Tryd.underlying30 rfl el_api_Digest (by (exact hst.get 1 rfl)) (by (exact Dig.size _)) ?_)))
   refine idx_q rfl rfl ?_; go_wp2_with (((refine L_loadA (d := some 60) rfl rfl rfl (by rfl) Tryd.underlying30 rfl el_api_Digest (by (exact hst.get 3 rfl)) (by (exact Dig.size _)) ?_)))
   refine idx_q rfl rfl ?_; go_wp2_with (((refine L_loadA (d := some 62) rfl rfl rfl (by rfl) Tryd.underlying30 rfl el_api_Digest (by (exact hst.get 1 rfl)) (by (exact Dig.size _)) ?_)))
   refine idx_q rfl rfl ?_; go_wp2_with (((refine L_loadA (d := some 63) rfl rfl rfl (by rfl) Tryd.underlying30 rfl el_api_Digest (by (exact hst.get 2 rfl)) (by (exact Dig.size _)) ?_)))
   refine idx_g rfl ?_; go_wp2_with ((go_at_call 95; (try clear hnew); with_reducible refine (node_any _ _ _ (HT.out.of hst)).mono ?_; rintro e Wk4 ⟨rfl, hnew⟩; replace hst := hst.keep hnew)); refine ⟨by (exact hnew.below), ?_⟩
   refine idx_g rfl ?_; go_wp2_with ((go_at_call 95; (try clear hnew); with_reducible refine (node_any _ _ _ (HT.out.of hst)).mono ?_; rintro e Wk4 ⟨rfl, hnew⟩; replace hst := hst.keep hnew)); refine ⟨by (exact hnew.below), ?_⟩
   refine idx_e rfl ?_; go_wp2_with ((refine wpl_at (.store 30 (.tmp 8) (.tmp 61)) rfl ?_; (refine L_storeA rfl rfl hst rfl (by rfl) (ev_tmp rfl) (by (exact Dig.one _)) el_api_Digest (by (rfl)) 3 rfl (by (exact Dig.size _)) ?_; clear hst; intro WS6 hst; simp only [List.set_cons_zero, List.set_cons_succ] at hst)))
   refine idx_e rfl ?_; go_wp2_with ((refine wpl_at (.store 30 (.tmp 9) (.tmp 64)) rfl ?_; (refine L_storeA rfl rfl hst rfl (by rfl) (ev_tmp rfl) (by (exact Dig.one _)) el_api_Digest (by (rfl)) 2 rfl (by (exact Dig.size _)) ?_; clear hst; intro WS7 hst; simp only [List.set_cons_zero, List.set_cons_succ] at hst)))
   refine idx_nil ?_
   go_wp2_with fail
   refine bp_cell2 rfl rfl rfl rfl (hst.get 3 rfl) (hst.get 2 rfl) Tryd.underlying30 rfl Tryd.underlying30 rfl el_api_Digest (Dig.size _) el_api_Digest (Dig.size _) ?_
   exact ⟨rfl, A56, c56, hst.keep3, hx''⟩
end Go.Proofs.YtaebeemnipafbaaDoor

set_option maxRecDepth 20000
set_option linter.unusedSimpArgs false
set_option linter.unusedVariables false
namespace Go.Proofs.YtaebeemnipafbaaDoor
theorem small_fSha (ns : List Nat) : small (fSha ns) := by
 unfold fSha
 rw [fForceL_eq]
 intro x hx
 simp only [id, List.mem_flatMap, fBytes, List.mem_cons, List.not_mem_nil, or_false] at hx
 obtain ⟨w, _, hx⟩ := hx
 rcases hx with rfl | rfl | rfl | rfl <;> exact Nat.mod_lt _ (by omega)
theorem small_app {a b : List Nat} (ha : small a) (hb : small b) : small (a ++ b) := fun x hx => by
 rcases List.mem_append.1 hx with h | h
 ·exact ha x h
 ·exact hb x h
theorem ofNs_app (a b : List Nat) : ofNs (a ++ b) = ofNs a ++ ofNs b := by simp [ofNs]
theorem ofNs_inj {a b : List Nat} (ha : small a) (hb : small b) (h : ofNs a = ofNs b) : a = b := by
 have e : ∀ l : List Nat, small l → (ofNs l).map UInt8.toNat = l := fun l hl => by
  simp only [ofNs, List.map_map]
  rw [List.map_congr_left (g := id)]
  ·simp
  ·intro x hx
   have := hl x hx
   simp only [Function.comp, UInt8.toNat_ofNat', id]
   omega
 rw [← e a ha, ← e b hb, h]
def fPadK (k : List Nat) (x : Nat) : List Nat := (k ++ List.replicate (64 - k.length) 0).map fun y => Nat.xor y x
def fMac (k b : List Nat) : List Nat := fSha (fPadK k 92 ++ fSha (fPadK k 54 ++ b))
theorem small_padK {k : List Nat} (hk : small k) (x : Nat) (hx : x < 256) : small (fPadK k x) := by
 intro y hy
 simp only [fPadK, List.mem_map, List.mem_append, List.mem_replicate] at hy
 obtain ⟨z, hz, rfl⟩ := hy
 refine Nat.xor_lt_two_pow (n := 8) ?_ hx
 rcases hz with hz | ⟨_, rfl⟩
 ·exact hk z hz
 ·omega
theorem padK_of {k : List Nat} (hk : small k) (hl : k.length ≤ 64) (x : Nat) (hx : x < 256) : padK (ofNs k) (UInt8.ofNat x) = ofNs (fPadK k x) := by
 apply List.ext_getElem?
 intro i
 by_cases hi : i < 64
 ·simp only [padK, fPadK, ofNs, List.getElem?_map, List.getElem?_range hi, Option.map_some]
  have hg : (k ++ List.replicate (64 - k.length) 0)[i]? = some (k.getD i 0) := by
   by_cases h : i < k.length
   ·simp [List.getElem?_append, h]
   ·simp only [List.getElem?_append, h, if_false, List.getD_eq_getElem?_getD, List.getElem?_eq_none (show k.length ≤ i by omega), Option.getD_none]
    rw [List.getElem?_replicate, if_pos (by omega)]
  rw [hg]
  simp only [Option.map_some, Option.some.injEq]
  have hs : k.getD i 0 < 256 := by
   by_cases h : i < k.length
   ·simp only [List.getD_eq_getElem?_getD, List.getElem?_eq_getElem h, Option.getD_some]; exact hk _ (List.getElem_mem h)
   ·simp only [List.getD_eq_getElem?_getD, List.getElem?_eq_none (show k.length ≤ i by omega), Option.getD_none]; omega
  have hm : (List.map UInt8.ofNat k).getD i 0 = UInt8.ofNat (k.getD i 0) := by
   by_cases h : i < k.length
   ·simp [h]
   ·simp [List.getElem?_eq_none (show k.length ≤ i by omega)]
  rw [hm]
  apply UInt8.toNat_inj.1
  rw [UInt8.toNat_xor, UInt8.toNat_ofNat', UInt8.toNat_ofNat', UInt8.toNat_ofNat', Nat.mod_eq_of_lt hs, Nat.mod_eq_of_lt hx]
  exact (Nat.mod_eq_of_lt (Nat.xor_lt_two_pow (n := 8) hs hx)).symm
 ·rw [List.getElem?_eq_none (by rw [length_padK]; omega), List.getElem?_eq_none (by simp [ofNs, fPadK]; omega)]
theorem mac_of {k b : List Nat} (hk : small k) (hl : k.length ≤ 64) (hb : small b) : (macN (ofNs k) (ofNs b)).l = ofNs (fMac k b) := by
 have h1 : keyOf (ofNs k) = ofNs k := by
  rw [keyOf, if_neg (by simp [ofNs]; omega)]
 unfold macN fMac
 rw [h1, show (92 : UInt8) = UInt8.ofNat 92 from rfl, show (54 : UInt8) = UInt8.ofNat 54 from rfl, padK_of hk hl 92 (by omega), padK_of hk hl 54 (by omega), ← ofNs_app,
  fSha_eq _ (small_app (small_padK hk 54 (by omega)) hb), ← ofNs_app, fSha_eq _ (small_app (small_padK hk 92 (by omega)) (small_fSha _))]
theorem zeroD_of : zeroD.l = ofNs (List.replicate 32 0) := by simp [zeroD, ofNs]
theorem small_rep (n x : Nat) (h : x < 256) : small (List.replicate n x) := fun y hy => by
 rw [List.mem_replicate] at hy
 rw [hy.2]; exact h
theorem ne_zero_of {d : Dig} {ns : List Nat} (hd : d.l = ofNs ns) (hs : small ns) (h : (ns == List.replicate 32 0) = false) : d ≠ zeroD := fun e => by
 rw [e, zeroD_of] at hd
 have := ofNs_inj (small_rep 32 0 (by omega)) hs hd
 rw [← this] at h
 simp at h
theorem abc_l : (sha [97, 98, 99]).l = ofNs [186, 120, 22, 191, 143, 1, 207, 234, 65, 65, 64, 222, 93, 174, 34, 35, 176, 3, 97, 163, 150, 23, 122, 156, 180, 16, 255, 97, 242, 0, 21, 173] := by
 have := fSha_eq [97, 98, 99] (small_dec (by decide))
 rw [show fSha [97, 98, 99] = _ from (by decide +kernel : fSha [97, 98, 99] = [186, 120, 22, 191, 143, 1, 207, 234, 65, 65, 64, 222, 93, 174, 34, 35, 176, 3, 97, 163, 150, 23, 122, 156, 180, 16, 255, 97, 242, 0, 21, 173])] at this
 exact this
theorem abc_at (i k : Nat) (h : [186, 120, 22, 191, 143, 1, 207, 234, 65, 65, 64, 222, 93, 174, 34, 35, 176, 3, 97, 163, 150, 23, 122, 156, 180, 16, 255, 97, 242, 0, 21, 173][i]? = some k) (hk : k < 256) : (sha [97, 98, 99]).arr[i]? = some (.int .u8 (k : Int)) := by
 unfold Dig.arr bytesV bytesL
 rw [abc_l]
 simp only [ofNs, List.getElem?_toArray, List.getElem?_map, h, Option.map_some, byteV]
 rw [UInt8.toNat_ofNat', Nat.mod_eq_of_lt hk]
theorem mac_nil_ne : macN [] [] ≠ zeroD :=
 ne_zero_of (mac_of (k := []) (b := []) (small_dec (by decide)) (by decide) (small_dec (by decide))) (small_fSha _) (by decide +kernel)
theorem step_of (ns : List Nat) (hs : small ns) (d : Dig) (hd : d.l = ofNs ns) : (stepN d).l = ofNs (fSha (8 :: ns)) := by
 have : (8 : UInt8) :: allB [d] = ofNs (8 :: ns) := by simp [allB, hd, ofNs]
 unfold stepN ofN
 rw [this]
 exact fSha_eq _ (fun x hx => by
  rcases List.mem_cons.1 hx with rfl | hx
  ·omega
  ·exact hs x hx)
theorem walk1_ne : walkN zeroD 1 ≠ zeroD :=
 ne_zero_of (step_of _ (small_rep 32 0 (by omega)) zeroD zeroD_of) (small_fSha _) (by decide +kernel)
end Go.Proofs.YtaebeemnipafbaaDoor

set_option maxRecDepth 20000
set_option linter.unusedSimpArgs false
set_option linter.unusedVariables false
namespace Go.Proofs.YtaebeemnipafbaaDoor
open Go.RowKit
def tagD (k : UInt8) : Dig := ⟨k :: List.replicate 31 0, by simp⟩
theorem tag_1 : zeroD.arr.setIfInBounds 0 (.int .u8 1) = (tagD 1).arr := by rfl
theorem tag_2 : zeroD.arr.setIfInBounds 0 (.int .u8 2) = (tagD 2).arr := by rfl
theorem node_of (a b : List Nat) (ha : small a) (hb : small b) (d e : Dig) (hd : d.l = ofNs a) (he : e.l = ofNs b) : (nodeN d e).l = ofNs (fSha (1 :: (a ++ b))) := by
 have h : (1 : UInt8) :: allB [d, e] = ofNs (1 :: (a ++ b)) := by simp [allB, hd, he, ofNs]
 unfold nodeN ofN
 rw [h]
 exact fSha_eq _ (fun x hx => by
  rcases List.mem_cons.1 hx with rfl | hx
  ·omega
  ·exact small_app ha hb x hx)
theorem tag_of (k : Nat) : (tagD (UInt8.ofNat k)).l = ofNs (k :: List.replicate 31 0) := by simp [tagD, ofNs]
theorem small_tag (k : Nat) (h : k < 256) : small (k :: List.replicate 31 0) := fun x hx => by
 rcases List.mem_cons.1 hx with rfl | hx
 ·exact h
 ·exact small_rep 31 0 (by omega) x hx
theorem node12_ne : nodeN (tagD 1) (tagD 2) ≠ zeroD :=
 ne_zero_of (node_of _ _ (small_tag 1 (by omega)) (small_tag 2 (by omega)) (tagD 1) (tagD 2) (tag_of 1) (tag_of 2)) (small_fSha _) (by decide +kernel)
theorem root12 : rootN [tagD 1, tagD 2] = nodeN (tagD 1) (tagD 2) := by
 rw [rootN_more _ (by decide), show halfN [tagD 1, tagD 2].length = 1 by decide]
 show nodeN (rootN [tagD 1]) (rootN [tagD 2]) = _
 rw [rootN_one, rootN_one]
end Go.Proofs.YtaebeemnipafbaaDoor

set_option maxRecDepth 20000
set_option linter.unusedSimpArgs false
set_option linter.unusedVariables false
namespace Go.Proofs.YtaebeemnipafbaaDoor
open Go.RowKit
section
variable {P : Program} {W : World}
theorem run_loadVar_one {g : Nat} {ty : TypeId} {v : Value} (hc : W.cell? ⟨g, 0, none⟩ = some v) {td : TypeDesc} (hu : P.underlying ty = some td) (hn : td.isRow = false) : (loadVar ty ⟨g, 0, none⟩).run P W = .ok v W := by
 have hagg : (isAgg ty).run P W = .ok false W := by
  unfold isAgg
  rw [Sem.run_bind, run_underlying hu W]
  cases td <;> simp_all [TypeDesc.isRow]
 simp [loadVar, hagg, load, Sem.run, hc]
theorem res_cell3 {fn : Func} {p q r : Tmp} {ty ty' tz : TypeId} (hr : fn.results = #[.cell p ty, .cell q ty', .cell r tz]) {tmps : Array Value} {g g' gz : Nat} (hp : tmps.toList[p]? = some (.pointer (some ⟨g, 0, none⟩))) (hq : tmps.toList[q]? = some (.pointer (some ⟨g', 0, none⟩))) (hz : tmps.toList[r]? = some (.pointer (some ⟨gz, 0, none⟩))) {t t' : TypeId} {cs cs' : Array Value} {fr fr' : Nat × Nat} (hg : W.heap[g]? = some (.cells cs t fr)) (hg' : W.heap[g']? = some (.cells cs' t' fr')) {v : Value} (hv : W.cell? ⟨gz, 0, none⟩ = some v)
  {td td' tdz : TypeDesc} (hu : P.underlying ty = some td) (hrow : td.isRow = true) (hu' : P.underlying ty' = some td') (hrow' : td'.isRow = true) (huz : P.underlying tz = some tdz) (hrz : tdz.isRow = false) {z z' : Value} {s s' b b' : Nat} (he : ElemIs P ty z s b) (hs : cs.size = s) (he' : ElemIs P ty' z' s' b') (hs' : cs'.size = s') : (results fn tmps).run P W = .ok (.tuple #[.agg cs, .agg cs', v]) W := by
 have hp' : tmps[p]?.getD undef = .pointer (some ⟨g, 0, none⟩) := by
  have : tmps[p]? = some (.pointer (some ⟨g, 0, none⟩)) := by simpa using hp
  simp [this]
 have hq' : tmps[q]?.getD undef = .pointer (some ⟨g', 0, none⟩) := by
  have : tmps[q]? = some (.pointer (some ⟨g', 0, none⟩)) := by simpa using hq
  simp [this]
 have hz' : tmps[r]?.getD undef = .pointer (some ⟨gz, 0, none⟩) := by
  have : tmps[r]? = some (.pointer (some ⟨gz, 0, none⟩)) := by simpa using hz
  simp [this]
 simp [results, hr, hp', hq', hz', asAddr, run_loadVar_row W g t ty cs fr td hg hu (by cases td <;> simp_all [TypeDesc.isRow]) (by rw [he.size, hs]), run_loadVar_row W g' t' ty' cs' fr' td' hg' hu' (by cases td' <;> simp_all [TypeDesc.isRow]) (by rw [he'.size, hs']), run_loadVar_one hv huz hrz]
end
theorem catch_idle (a b c : Value) (w : World) : CallsD Tryd.prog 106 #[a, b, c] .returning w fun e u' w' => e = .returned (.tuple #[]) ∧ u' = .returning ∧ w' = w := by
 refine callsD_of_wpS Tryd.func106 rfl fun c₀ cs hu => ?_
 apply wpS_seq
 apply wpS_region
 simp [wpOpsS, go_sem, recoverD, hu, Tryd.ntmps106, Exit.thenS]
 refine wpS_of_wp ?_
 go_wp2
 cases c₀
 simp_all [bodyPostS, results, Tryd.results106]
set_option maxHeartbeats 4000000 in
set_option maxRecDepth 100000 in
theorem gFold_any (n m : Nat) (old : Dig) (p : List Dig) (A : Option Addr) (k c : Nat) (w : World) (hT : Tb w) (hx : SlR w A k c 32 (digsL p)) (hk : k = plN n m true) (h1 : 1 ≤ m) (hmn : m ≤ n) (hn : n ≤ 256) :
  Calls Tryd.prog 71 #[.int .i64 (m : Int), .int .i64 (n : Int), old.v, .slice A k c] w fun e w' => e = .returned (.tuple #[(grN n m true old p).1.v, (grN n m true old p).2.v, .nilIface]) ∧ St w w' [] := by
 have hst := St.refl w
 have hlp : p.length = plN n m true := by have := hx.1; rw [length_digsL] at this; omega
 have HI := Lib.hid (fun g w' L hst => gfold_any old g w hT [] n m true p A k c w' L hst hx hlp h1 hmn hn)
 have t1 : ¬ (n : Int) < 1 := by omega
 have t2 : ¬ (256 : Int) < (n : Int) := by omega
 have t3 : ¬ (m : Int) < 1 := by omega
 have t4 : ¬ (n : Int) < (m : Int) := by omega
 have hmf : ∀ (fn : Fn) (first cap : Array Value) (w : World), (Instr.makeFunc fn first cap).run Tryd.prog w = .ok (.func fn first cap) w := fun _ _ _ _ => rfl
 have HF := Lib.hid (fun A' c' => fArr_at old A' 0 c')
 clear hlp hk hT hx
 generalize grN n m true old p = ab at *
 go_enter_defers Tryd.func71, Tryd.ntmps71
 go_upto_region 1 with (first | (refine L_boxA (d := some 6) rfl rfl rfl (ev_tmp rfl) ?_; (try clear hnew); intro g6 W6 hnew; replace hst := hst.trans hnew; simp only [List.cons_append, List.nil_append] at hst) | (refine L_allocA (d := some 8) rfl rfl rfl el_api_Digest ?_; (try clear hnew); intro g8 W8 hnew; replace hst := hst.trans hnew; simp only [List.cons_append, List.nil_append] at hst) | (refine L_allocA (d := some 9) rfl rfl rfl el_api_Digest ?_; (try clear hnew); intro g9 W9 hnew; replace hst := hst.trans hnew; simp only [List.cons_append, List.nil_append] at hst) | (refine L_alloc1 (d := some 10) rfl rfl rfl el_error rfl ?_; (try clear hnew); intro g10 W10 hnew; replace hst := hst.trans hnew; simp only [List.cons_append, List.nil_append] at hst))
 go_upto_region 3 with (fail)
 go_upto_region 4 with (fail)
 go_upto_region 5 with (first | (refine L_buildF (d := some 33) rfl rfl rfl (ev_tmp rfl) (ev_tmp rfl) ?_) | ((refine L_loadA (d := some 31) rfl rfl rfl (by rfl) Tryd.underlying30 rfl el_api_Digest (by (exact hst.get 3 rfl)) (by (exact Dig.size _)) ?_)) | (refine L_boxA (d := some 34) rfl rfl rfl (ev_tmp rfl) ?_; (try clear hnew); intro g34 W34 hnew; replace hst := hst.trans hnew; simp only [List.cons_append, List.nil_append] at hst))
 go_upto_region 6 with (first | (go_at_call 107; (try clear hnew); refine (HI.out _ _ _ hst).mono ?_; rintro e W39 ⟨rfl, A39, c39, hst', hx'⟩; clear hst; have hst := hst'; clear hst'; simp only [List.length_nil] at hst) | (refine wpl_at (.store 30 (.tmp 8) (.tmp 40)) rfl ?_; (refine L_storeA rfl rfl hst rfl (by rfl) (ev_tmp rfl) (by (exact Dig.one _)) el_api_Digest (by (exact Dig.size _)) 3 rfl (by (rfl)) ?_; clear hst; intro WS7 hst; simp only [List.set_cons_zero, List.set_cons_succ] at hst)) | (refine wpl_at (.store 30 (.tmp 9) (.tmp 41)) rfl ?_; (refine L_storeA rfl rfl hst rfl (by rfl) (ev_tmp rfl) (by (exact Dig.one _)) el_api_Digest (by (exact Dig.size _)) 2 rfl (by (rfl)) ?_; clear hst; intro WS8 hst; simp only [List.set_cons_zero, List.set_cons_succ] at hst)))
 (try clear hnew)
 go_upto_region 8 with ((refine L_load1 (d := some 45) rfl rfl rfl (by rfl) Tryd.underlying36 rfl (by (exact cell_of (hst.get 0 rfl) (HF.out _ _))) ?_))
 refine wp_region_pm (.one 0 0 (.two 1 2 (.one 2 1 (.one 3 1 (.one 4 1 .nil))) 2 1 (.one 1 2 (.one 3 1 (.one 4 1 .nil))))) (by kernel_rfl) (by kernel_rfl) ?_
 replace hst := hst.drew
 refine pm_q rfl rfl ?_; go_wp2_with (((refine L_loadA (d := some 49) rfl rfl rfl (by rfl) Tryd.underlying30 rfl el_api_Digest (by (exact hst.get 3 rfl)) (by (exact Dig.size _)) ?_)))
 refine pm_two (ki := 2) (kj := 1) rfl rfl ?_ ?_
 ·go_wp2_with (((refine L_loadA (d := some 50) rfl rfl rfl (by rfl) Tryd.underlying30 rfl el_api_Digest (by (exact hst.get 2 rfl)) (by (exact Dig.size _)) ?_))); refine ⟨fun _ => (by (exact Below.refl _ _)), ?_⟩
  refine pm_e rfl ?_; go_wp2_with ((refine wpl_at (.store 30 (.tmp 8) (.tmp 49)) rfl ?_; (refine L_storeA rfl rfl hst rfl (by rfl) (ev_tmp rfl) (by (exact Dig.one _)) el_api_Digest (by (exact Dig.size _)) 3 rfl (by (exact Dig.size _)) ?_; clear hst; intro WS2 hst; simp only [List.set_cons_zero, List.set_cons_succ] at hst)))
  refine pm_e rfl ?_; go_wp2_with ((refine wpl_at (.store 30 (.tmp 9) (.tmp 50)) rfl ?_; (refine L_storeA rfl rfl hst rfl (by rfl) (ev_tmp rfl) (by (exact Dig.one _)) el_api_Digest (by (exact Dig.size _)) 2 rfl (by (exact Dig.size _)) ?_; clear hst; intro WS3 hst; simp only [List.set_cons_zero, List.set_cons_succ] at hst)))
  refine pm_e rfl ?_; go_wp2_with ((refine wpl_at (.store 46 (.tmp 10) _) rfl ?_; (refine L_store1 rfl rfl hst rfl (by rfl) ev_const rfl el_error 1 rfl (by (exact of_decide_eq_true rfl)) ?_; clear hst; intro WS4 hst; simp only [List.set_cons_zero, List.set_cons_succ] at hst)))
  refine pm_nil ?_
  go_wp2_with fail
  refine leaves_cons (f := 106) (args := #[.pointer (some ⟨g8, 0, none⟩), .pointer (some ⟨g9, 0, none⟩), .pointer (some ⟨g10, 0, none⟩)]) (by simp) (by simp [go_sem]) ?_
  refine (catch_idle _ _ _ _).mono ?_
  rintro e u' w'' ⟨rfl, rfl, rfl⟩
  exact ⟨_, res_cell3 rfl rfl rfl rfl (hst.get 3 rfl) (hst.get 2 rfl) (cell_of (hst.get 1 rfl) rfl) Tryd.underlying30 rfl Tryd.underlying30 rfl Tryd.underlying46 rfl el_api_Digest (Dig.size _) el_api_Digest (Dig.size _), rfl, hst.forget⟩
 ·go_wp2_with ((refine wpl_at (.store 30 (.tmp 8) (.tmp 49)) rfl ?_; (refine L_storeA rfl rfl hst rfl (by rfl) (ev_tmp rfl) (by (exact Dig.one _)) el_api_Digest (by (exact Dig.size _)) 3 rfl (by (exact Dig.size _)) ?_; clear hst; intro WS2 hst; simp only [List.set_cons_zero, List.set_cons_succ] at hst))); refine ⟨fun h => absurd h (by decide), ?_⟩
  refine pm_g rfl ?_; go_wp2_with (((refine L_loadA (d := some 50) rfl rfl rfl (by rfl) Tryd.underlying30 rfl el_api_Digest (by (exact hst.get 2 rfl)) (by (exact Dig.size _)) ?_))); refine ⟨by (exact Below.refl _ _), ?_⟩
  refine pm_e rfl ?_; go_wp2_with ((refine wpl_at (.store 30 (.tmp 9) (.tmp 50)) rfl ?_; (refine L_storeA rfl rfl hst rfl (by rfl) (ev_tmp rfl) (by (exact Dig.one _)) el_api_Digest (by (exact Dig.size _)) 2 rfl (by (exact Dig.size _)) ?_; clear hst; intro WS3 hst; simp only [List.set_cons_zero, List.set_cons_succ] at hst)))
  refine pm_e rfl ?_; go_wp2_with ((refine wpl_at (.store 46 (.tmp 10) _) rfl ?_; (refine L_store1 rfl rfl hst rfl (by rfl) ev_const rfl el_error 1 rfl (by (exact of_decide_eq_true rfl)) ?_; clear hst; intro WS4 hst; simp only [List.set_cons_zero, List.set_cons_succ] at hst)))
  refine pm_nil ?_
  go_wp2_with fail
  refine leaves_cons (f := 106) (args := #[.pointer (some ⟨g8, 0, none⟩), .pointer (some ⟨g9, 0, none⟩), .pointer (some ⟨g10, 0, none⟩)]) (by simp) (by simp [go_sem]) ?_
  refine (catch_idle _ _ _ _).mono ?_
  rintro e u' w'' ⟨rfl, rfl, rfl⟩
  exact ⟨_, res_cell3 rfl rfl rfl rfl (hst.get 3 rfl) (hst.get 2 rfl) (cell_of (hst.get 1 rfl) rfl) Tryd.underlying30 rfl Tryd.underlying30 rfl Tryd.underlying46 rfl el_api_Digest (Dig.size _) el_api_Digest (Dig.size _), rfl, hst.forget⟩
set_option maxHeartbeats 4000000 in
set_option maxRecDepth 100000 in
theorem gCheck_any (n m : Nat) (old now : Dig) (p : List Dig) (A : Option Addr) (k c : Nat) (w : World) (hT : Tb w) (hx : SlR w A k c 32 (digsL p)) (hk : k = plN n m true) (h1 : 1 ≤ m) (hmn : m ≤ n) (hn : n ≤ 256) :
  Calls Tryd.prog 32 #[.int .i64 (m : Int), .int .i64 (n : Int), old.v, now.v, .slice A k c] w fun e w' => e = .returned (.bool (decide ((grN n m true old p).1 = old) && decide ((grN n m true old p).2 = now))) ∧ St w w' [] := by
 have hst := St.refl w
 have HF := Lib.hid (fun w hT hs => gFold_any n m old p A k c w hT hs hk h1 hmn hn)
 have HT := Lib.hid hT
 clear hT hk h1 hmn hn
 generalize (grN n m true old p).1 = x at *
 generalize (grN n m true old p).2 = y at *
 by_cases ha : x = old
 ·have H1 := Lib.hid (show decide (x = old) = true by simp [ha])
  by_cases hb : y = now
  ·have H2 := Lib.hid (show decide (y = now) = true by simp [hb])
   rw [H1.out, H2.out]
   clear ha hb
   go_enter Tryd.func32, Tryd.ntmps32
   go_upto_region 1 with (first | (refine L_boxA (d := some 7) rfl rfl rfl (ev_tmp rfl) ?_; (try clear hnew); intro g7 W7 hnew; replace hst := hst.trans hnew; simp only [List.cons_append, List.nil_append] at hst) | (refine L_boxA (d := some 8) rfl rfl rfl (ev_tmp rfl) ?_; (try clear hnew); intro g8 W8 hnew; replace hst := hst.trans hnew; simp only [List.cons_append, List.nil_append] at hst))
   go_upto_region 2 with (first | (go_at_call 71; (try clear hnew); refine (HF.out _ (HT.out.of hst) (hst.old (by decide) hx)).mono ?_; rintro e Wk1 ⟨rfl, hnew⟩; replace hst := hst.keep hnew) | ((refine L_loadA (d := some 17) rfl rfl rfl (by rfl) Tryd.underlying30 rfl el_api_Digest (by (exact hst.get 1 rfl)) (by (exact Dig.size _)) ?_)) | (refine L_allocA (d := some 11) rfl rfl rfl el_api_Digest ?_; (try clear hnew); intro g11 W11 hnew; replace hst := hst.trans hnew; simp only [List.cons_append, List.nil_append] at hst) | (refine L_allocA (d := some 12) rfl rfl rfl el_api_Digest ?_; (try clear hnew); intro g12 W12 hnew; replace hst := hst.trans hnew; simp only [List.cons_append, List.nil_append] at hst) | (refine wpl_at (.store 30 (.tmp 11) (.tmp 20)) rfl ?_; (refine L_storeA rfl rfl hst rfl (by rfl) (ev_tmp rfl) (by (exact Dig.one _)) el_api_Digest (by (exact Dig.size _)) 1 rfl (by (rfl)) ?_; clear hst; intro WS11 hst; simp only [List.set_cons_zero, List.set_cons_succ] at hst)) | (refine wpl_at (.store 30 (.tmp 12) (.tmp 21)) rfl ?_; (refine L_storeA rfl rfl hst rfl (by rfl) (ev_tmp rfl) (by (exact Dig.one _)) el_api_Digest (by (exact Dig.size _)) 0 rfl (by (rfl)) ?_; clear hst; intro WS12 hst; simp only [List.set_cons_zero, List.set_cons_succ] at hst)))
   go_wp2_with (first | ((refine L_loadA (d := some 26) rfl rfl rfl (by rfl) Tryd.underlying30 rfl el_api_Digest (by (exact hst.get 1 rfl)) (by (exact Dig.size _)) ?_)) | ((refine L_loadA (d := some 27) rfl rfl rfl (by rfl) Tryd.underlying30 rfl el_api_Digest (by (exact hst.get 3 rfl)) (by (exact Dig.size _)) ?_)) | (refine L_eqD (d := some 28) rfl rfl rfl Tryd.underlying30 Tryd.underlying5 el_uint8 eqG_D (ev_tmp rfl) (ev_tmp rfl) ?_; (try rw [H1.out])) | ((refine L_loadA (d := some 31) rfl rfl rfl (by rfl) Tryd.underlying30 rfl el_api_Digest (by (exact hst.get 0 rfl)) (by (exact Dig.size _)) ?_)) | ((refine L_loadA (d := some 32) rfl rfl rfl (by rfl) Tryd.underlying30 rfl el_api_Digest (by (exact hst.get 2 rfl)) (by (exact Dig.size _)) ?_)) | (refine L_eqD (d := some 33) rfl rfl rfl Tryd.underlying30 Tryd.underlying5 el_uint8 eqG_D (ev_tmp rfl) (ev_tmp rfl) ?_; (try rw [H2.out])))
   go_ret
   exact ⟨rfl, hst.forget⟩
  ·have H2 := Lib.hid (show decide (y = now) = false by simp [hb])
   rw [H1.out, H2.out]
   clear ha hb
   go_enter Tryd.func32, Tryd.ntmps32
   go_upto_region 1 with (first | (refine L_boxA (d := some 7) rfl rfl rfl (ev_tmp rfl) ?_; (try clear hnew); intro g7 W7 hnew; replace hst := hst.trans hnew; simp only [List.cons_append, List.nil_append] at hst) | (refine L_boxA (d := some 8) rfl rfl rfl (ev_tmp rfl) ?_; (try clear hnew); intro g8 W8 hnew; replace hst := hst.trans hnew; simp only [List.cons_append, List.nil_append] at hst))
   go_upto_region 2 with (first | (go_at_call 71; (try clear hnew); refine (HF.out _ (HT.out.of hst) (hst.old (by decide) hx)).mono ?_; rintro e Wk2 ⟨rfl, hnew⟩; replace hst := hst.keep hnew) | ((refine L_loadA (d := some 17) rfl rfl rfl (by rfl) Tryd.underlying30 rfl el_api_Digest (by (exact hst.get 1 rfl)) (by (exact Dig.size _)) ?_)) | (refine L_allocA (d := some 11) rfl rfl rfl el_api_Digest ?_; (try clear hnew); intro g11 W11 hnew; replace hst := hst.trans hnew; simp only [List.cons_append, List.nil_append] at hst) | (refine L_allocA (d := some 12) rfl rfl rfl el_api_Digest ?_; (try clear hnew); intro g12 W12 hnew; replace hst := hst.trans hnew; simp only [List.cons_append, List.nil_append] at hst) | (refine wpl_at (.store 30 (.tmp 11) (.tmp 20)) rfl ?_; (refine L_storeA rfl rfl hst rfl (by rfl) (ev_tmp rfl) (by (exact Dig.one _)) el_api_Digest (by (exact Dig.size _)) 1 rfl (by (rfl)) ?_; clear hst; intro WS11 hst; simp only [List.set_cons_zero, List.set_cons_succ] at hst)) | (refine wpl_at (.store 30 (.tmp 12) (.tmp 21)) rfl ?_; (refine L_storeA rfl rfl hst rfl (by rfl) (ev_tmp rfl) (by (exact Dig.one _)) el_api_Digest (by (exact Dig.size _)) 0 rfl (by (rfl)) ?_; clear hst; intro WS12 hst; simp only [List.set_cons_zero, List.set_cons_succ] at hst)))
   go_wp2_with (first | ((refine L_loadA (d := some 26) rfl rfl rfl (by rfl) Tryd.underlying30 rfl el_api_Digest (by (exact hst.get 1 rfl)) (by (exact Dig.size _)) ?_)) | ((refine L_loadA (d := some 27) rfl rfl rfl (by rfl) Tryd.underlying30 rfl el_api_Digest (by (exact hst.get 3 rfl)) (by (exact Dig.size _)) ?_)) | (refine L_eqD (d := some 28) rfl rfl rfl Tryd.underlying30 Tryd.underlying5 el_uint8 eqG_D (ev_tmp rfl) (ev_tmp rfl) ?_; (try rw [H1.out])) | ((refine L_loadA (d := some 31) rfl rfl rfl (by rfl) Tryd.underlying30 rfl el_api_Digest (by (exact hst.get 0 rfl)) (by (exact Dig.size _)) ?_)) | ((refine L_loadA (d := some 32) rfl rfl rfl (by rfl) Tryd.underlying30 rfl el_api_Digest (by (exact hst.get 2 rfl)) (by (exact Dig.size _)) ?_)) | (refine L_eqD (d := some 33) rfl rfl rfl Tryd.underlying30 Tryd.underlying5 el_uint8 eqG_D (ev_tmp rfl) (ev_tmp rfl) ?_; (try rw [H2.out])))
   go_ret
   exact ⟨rfl, hst.forget⟩
 ·have H1 := Lib.hid (show decide (x = old) = false by simp [ha])
  rw [H1.out, Bool.false_and]
  clear ha
  go_enter Tryd.func32, Tryd.ntmps32
  go_upto_region 1 with (first | (refine L_boxA (d := some 7) rfl rfl rfl (ev_tmp rfl) ?_; (try clear hnew); intro g7 W7 hnew; replace hst := hst.trans hnew; simp only [List.cons_append, List.nil_append] at hst) | (refine L_boxA (d := some 8) rfl rfl rfl (ev_tmp rfl) ?_; (try clear hnew); intro g8 W8 hnew; replace hst := hst.trans hnew; simp only [List.cons_append, List.nil_append] at hst))
  go_upto_region 2 with (first | (go_at_call 71; (try clear hnew); refine (HF.out _ (HT.out.of hst) (hst.old (by decide) hx)).mono ?_; rintro e Wk3 ⟨rfl, hnew⟩; replace hst := hst.keep hnew) | ((refine L_loadA (d := some 17) rfl rfl rfl (by rfl) Tryd.underlying30 rfl el_api_Digest (by (exact hst.get 1 rfl)) (by (exact Dig.size _)) ?_)) | (refine L_allocA (d := some 11) rfl rfl rfl el_api_Digest ?_; (try clear hnew); intro g11 W11 hnew; replace hst := hst.trans hnew; simp only [List.cons_append, List.nil_append] at hst) | (refine L_allocA (d := some 12) rfl rfl rfl el_api_Digest ?_; (try clear hnew); intro g12 W12 hnew; replace hst := hst.trans hnew; simp only [List.cons_append, List.nil_append] at hst) | (refine wpl_at (.store 30 (.tmp 11) (.tmp 20)) rfl ?_; (refine L_storeA rfl rfl hst rfl (by rfl) (ev_tmp rfl) (by (exact Dig.one _)) el_api_Digest (by (exact Dig.size _)) 1 rfl (by (rfl)) ?_; clear hst; intro WS11 hst; simp only [List.set_cons_zero, List.set_cons_succ] at hst)) | (refine wpl_at (.store 30 (.tmp 12) (.tmp 21)) rfl ?_; (refine L_storeA rfl rfl hst rfl (by rfl) (ev_tmp rfl) (by (exact Dig.one _)) el_api_Digest (by (exact Dig.size _)) 0 rfl (by (rfl)) ?_; clear hst; intro WS12 hst; simp only [List.set_cons_zero, List.set_cons_succ] at hst)))
  go_wp2_with (first | ((refine L_loadA (d := some 26) rfl rfl rfl (by rfl) Tryd.underlying30 rfl el_api_Digest (by (exact hst.get 1 rfl)) (by (exact Dig.size _)) ?_)) | ((refine L_loadA (d := some 27) rfl rfl rfl (by rfl) Tryd.underlying30 rfl el_api_Digest (by (exact hst.get 3 rfl)) (by (exact Dig.size _)) ?_)) | (refine L_eqD (d := some 28) rfl rfl rfl Tryd.underlying30 Tryd.underlying5 el_uint8 eqG_D (ev_tmp rfl) (ev_tmp rfl) ?_; (try rw [H1.out])))
  go_ret
  exact ⟨rfl, hst.forget⟩
end Go.Proofs.YtaebeemnipafbaaDoor

set_option maxRecDepth 20000
set_option linter.unusedSimpArgs false
set_option linter.unusedVariables false
namespace Go.Proofs.YtaebeemnipafbaaDoor
open Go.RowKit
abbrev lenP : PanicEntry := { v := errV 3, recovered := false }
set_option maxHeartbeats 1000000 in
theorem take_none (old : Dig) (A : Option Addr) (c g : Nat) (w0 w : World) (L : List Res) (hst : St w0 w (.blk g 174 (fArr old A 0 c) :: L)) :
  Calls Tryd.prog 121 #[.pointer (some ⟨g, 0, none⟩)] w fun e w' => e = .panicked [lenP] ∧ St w0 w' (.blk g 174 (fArr old A 0 c) :: L) := by
 have HF := Lib.hid (fArr_at old A 0 c)
 go_enter Tryd.func121, Tryd.ntmps121
 go_upto_region 1 with ((refine L_allocA (d := some 2) rfl rfl rfl el_api_Digest ?_; (try clear hnew); intro g2 W2 hnew; replace hst := hst.trans hnew; simp only [List.cons_append, List.nil_append] at hst))
 go_upto_region 2 with ((refine L_load1 (d := some 7) rfl rfl rfl (by rfl) Tryd.underlying36 rfl (by (exact cell_of (hst.get 1 rfl) HF.out)) ?_))
 go_wp2_with (fail)
 exact ⟨rfl, rfl, hst.tail⟩
set_option maxHeartbeats 4000000 in
set_option maxRecDepth 100000 in
theorem gfold_short (old : Dig) (g : Nat) (w0 : World) : ∀ (n m : Nat) (own : Bool) (p : List Dig) (A : Option Addr) (k c : Nat) (w : World) (L : List Res), St w0 w (.blk g 174 (fArr old A k c) :: L) → SlR w0 A k c 32 (digsL p) → k < plN n m own → 1 ≤ m → m ≤ n → n ≤ 256 →
  Calls Tryd.prog 107 #[.pointer (some ⟨g, 0, none⟩), .int .i64 (m : Int), .int .i64 (n : Int), .bool own] w fun e w' => e = .panicked [lenP] ∧ ∃ A' k' c', St w0 w' (.blk g 174 (fArr old A' k' c') :: L) := by
 intro n
 induction n using Nat.strongRecOn with
 | ind n ih =>
 intro m own p A k c w L hst hx hp hm1 hmn hn
 have hk : p.length = k := by have := hx.1; rw [length_digsL] at this; omega
 by_cases h : m = n
 ·subst h
  rw [plN_all] at hp
  cases own with
  | true => simp at hp
  | false =>
   obtain rfl : k = 0 := by simpa using hp
   have HK := Lib.hid (fun w L hst => take_none old A c g w0 w L hst)
   clear ih hp hk hx
   go_enter Tryd.func107, Tryd.ntmps107
   go_upto_region 1 with (first | (refine L_allocA (d := some 8) rfl rfl rfl el_api_Digest ?_; (try clear hnew); intro g8 W8 hnew; replace hst := hst.trans hnew; simp only [List.cons_append, List.nil_append] at hst) | (refine L_allocA (d := some 9) rfl rfl rfl el_api_Digest ?_; (try clear hnew); intro g9 W9 hnew; replace hst := hst.trans hnew; simp only [List.cons_append, List.nil_append] at hst))
   go_upto_region 2 with (fail)
   go_upto_region 4 with (fail)
   go_wp2_with ((go_at_call 121; (try clear hnew); refine (HK.out _ _ (hst.front 2 rfl)).mono ?_; rintro e W26 ⟨rfl, hst'⟩; clear hst; have hst := hst'; clear hst'; simp only [List.eraseIdx_cons_succ, List.eraseIdx_cons_zero] at hst))
   exact ⟨rfl, rfl, _, _, _, hst.keep2⟩
 ·have hlt := halfN_lt n (by omega)
  have hps := halfN_pos n
  have h' : ((m : Int) == (n : Int)) = false := by rw [beq_eq_false_iff_ne]; omega
  have HF := Lib.hid (fun w => half_any n (by omega) (by omega) w)
  by_cases hk0 : k = 0
  ·subst hk0
   have HK := Lib.hid (fun w L hst => take_none old A c g w0 w L hst)
   clear ih hp hk hx HF
   go_enter Tryd.func107, Tryd.ntmps107
   go_upto_region 1 with (first | (refine L_allocA (d := some 8) rfl rfl rfl el_api_Digest ?_; (try clear hnew); intro g8 W8 hnew; replace hst := hst.trans hnew; simp only [List.cons_append, List.nil_append] at hst) | (refine L_allocA (d := some 9) rfl rfl rfl el_api_Digest ?_; (try clear hnew); intro g9 W9 hnew; replace hst := hst.trans hnew; simp only [List.cons_append, List.nil_append] at hst))
   go_upto_region 6 with (fail)
   go_wp2_with ((go_at_call 121; (try clear hnew); refine (HK.out _ _ (hst.front 2 rfl)).mono ?_; rintro e W30 ⟨rfl, hst'⟩; clear hst; have hst := hst'; clear hst'; simp only [List.eraseIdx_cons_succ, List.eraseIdx_cons_zero] at hst))
   exact ⟨rfl, rfl, _, _, _, hst.keep2⟩
  ·obtain ⟨q, d, rfl, hq⟩ : ∃ q d, p = q ++ [d] ∧ q.length = k - 1 := by
    refine ⟨p.dropLast, p.getLast (fun e => by rw [e] at hk; exact hk0 hk.symm), (List.dropLast_concat_getLast _).symm, by rw [List.length_dropLast, hk]⟩
   have HK := Lib.hid (fun w L hst => take_any old d q A k c g w0 w L hst hx)
   by_cases hk2 : m ≤ halfN n
   ·rw [plN_left h (by omega) hk2] at hp
    have HI := Lib.hid (fun A' c' w L hst hx' => ih (halfN n) hlt m own q A' (k - 1) c' w L hst hx' (by omega) hm1 hk2 (by omega))
    have hk' : (m : Int) ≤ (halfN n : Int) := by omega
    clear ih hp hx hq hk hk0 h
    generalize digsL q = lq at *
    generalize halfN n = kk at *
    go_enter Tryd.func107, Tryd.ntmps107
    go_upto_region 1 with (first | (refine L_allocA (d := some 8) rfl rfl rfl el_api_Digest ?_; (try clear hnew); intro g8 W8 hnew; replace hst := hst.trans hnew; simp only [List.cons_append, List.nil_append] at hst) | (refine L_allocA (d := some 9) rfl rfl rfl el_api_Digest ?_; (try clear hnew); intro g9 W9 hnew; replace hst := hst.trans hnew; simp only [List.cons_append, List.nil_append] at hst))
    go_upto_region 6 with (fail)
    go_upto_region 7 with (first | (go_at_call 121; (try clear hnew); refine (HK.out _ _ (hst.front 2 rfl)).mono ?_; rintro e W30 ⟨rfl, A30, c30, hst', hx'⟩; clear hst; have hst := hst'; clear hst'; simp only [List.eraseIdx_cons_succ, List.eraseIdx_cons_zero] at hst) | (refine L_allocA (d := some 11) rfl rfl rfl el_api_Digest ?_; (try clear hnew); intro g11 W11 hnew; replace hst := hst.trans hnew; simp only [List.cons_append, List.nil_append] at hst) | (refine wpl_at (.store 30 (.tmp 11) (.tmp 30)) rfl ?_; (refine L_storeA rfl rfl hst rfl (by rfl) (ev_tmp rfl) (by (exact Dig.one _)) el_api_Digest (by (exact Dig.size _)) 0 rfl (by (rfl)) ?_; clear hst; intro WS3 hst; simp only [List.set_cons_zero, List.set_cons_succ] at hst)))
    go_upto_region 8 with ((go_at_call 104; (try clear hnew); refine (HF.out _).mono ?_; rintro e Wk1 ⟨rfl, hnew⟩; replace hst := hst.keep hnew))
    go_upto_region 9 with (fail)
    go_wp2_with ((go_at_call 107; (try clear hnew); refine (HI.out _ _ _ _ (hst.front 1 rfl) hx').mono ?_; rintro e W41 ⟨rfl, A41, k41, c41, hst'⟩; clear hst; have hst := hst'; clear hst'; simp only [List.eraseIdx_cons_succ, List.eraseIdx_cons_zero] at hst))
    exact ⟨rfl, rfl, A41, k41, c41, hst.keep3⟩
   ·rw [plN_right h (by omega) hk2] at hp
    have HI := Lib.hid (fun A' c' w L hst hx' => ih (n - halfN n) (by omega) (m - halfN n) false q A' (k - 1) c' w L hst hx' (by omega) (by omega) (by omega) (by omega))
    have e1 : ((m - halfN n : Nat) : Int) = (m : Int) - (halfN n : Int) := by omega
    have e2 : ((n - halfN n : Nat) : Int) = (n : Int) - (halfN n : Int) := by omega
    rw [e1, e2] at HI
    have hk' : ¬ (m : Int) ≤ (halfN n : Int) := by omega
    clear ih hp hx hq hk hk0 h e1 e2
    generalize digsL q = lq at *
    generalize halfN n = kk at *
    go_enter Tryd.func107, Tryd.ntmps107
    go_upto_region 1 with (first | (refine L_allocA (d := some 8) rfl rfl rfl el_api_Digest ?_; (try clear hnew); intro g8 W8 hnew; replace hst := hst.trans hnew; simp only [List.cons_append, List.nil_append] at hst) | (refine L_allocA (d := some 9) rfl rfl rfl el_api_Digest ?_; (try clear hnew); intro g9 W9 hnew; replace hst := hst.trans hnew; simp only [List.cons_append, List.nil_append] at hst))
    go_upto_region 6 with (fail)
    go_upto_region 7 with (first | (go_at_call 121; (try clear hnew); refine (HK.out _ _ (hst.front 2 rfl)).mono ?_; rintro e W30 ⟨rfl, A30, c30, hst', hx'⟩; clear hst; have hst := hst'; clear hst'; simp only [List.eraseIdx_cons_succ, List.eraseIdx_cons_zero] at hst) | (refine L_allocA (d := some 11) rfl rfl rfl el_api_Digest ?_; (try clear hnew); intro g11 W11 hnew; replace hst := hst.trans hnew; simp only [List.cons_append, List.nil_append] at hst) | (refine wpl_at (.store 30 (.tmp 11) (.tmp 30)) rfl ?_; (refine L_storeA rfl rfl hst rfl (by rfl) (ev_tmp rfl) (by (exact Dig.one _)) el_api_Digest (by (exact Dig.size _)) 0 rfl (by (rfl)) ?_; clear hst; intro WS3 hst; simp only [List.set_cons_zero, List.set_cons_succ] at hst)))
    go_upto_region 8 with ((go_at_call 104; (try clear hnew); refine (HF.out _).mono ?_; rintro e Wk2 ⟨rfl, hnew⟩; replace hst := hst.keep hnew))
    go_upto_region 11 with (fail)
    go_wp2_with ((go_at_call 107; (try clear hnew); refine (HI.out _ _ _ _ (hst.front 1 rfl) hx').mono ?_; rintro e W56 ⟨rfl, A56, k56, c56, hst'⟩; clear hst; have hst := hst'; clear hst'; simp only [List.eraseIdx_cons_succ, List.eraseIdx_cons_zero] at hst))
    exact ⟨rfl, rfl, A56, k56, c56, hst.keep3⟩
set_option maxHeartbeats 4000000 in
theorem catch_stops (w0 w : World) (ga gb ge : Nat) (xa xb : Array Value) (L : List Res) (ha : xa.size = 32) (hb : xb.size = 32) (hst : St w0 w (.blk ge 46 #[.nilIface] :: .blk gb 30 xb :: .blk ga 30 xa :: L)) :
  CallsD Tryd.prog 106 #[.pointer (some ⟨ga, 0, none⟩), .pointer (some ⟨gb, 0, none⟩), .pointer (some ⟨ge, 0, none⟩)] (.panicking [lenP]) w fun e u' w' => e = .returned (.tuple #[]) ∧ u' = .panicking [{ v := errV 3, recovered := true }] ∧
   St w0 w' (.blk ge 46 #[errV 3] :: .blk gb 30 zeroD.arr :: .blk ga 30 zeroD.arr :: L) := by
 have hta : ∀ w : World, (Instr.typeAssert (Value.iface 89 (Value.int IntKind.i64 3)) 20 89 true).run Tryd.prog w = .ok (.tuple #[.int .i64 3, .bool true]) w := fun w => by kernel_rfl
 refine callsD_of_wpS Tryd.func106 rfl fun c₀ cs hu => ?_
 apply wpS_seq
 apply wpS_region
 simp [wpOpsS, go_sem, recoverD, hu, Tryd.ntmps106, Exit.thenS]
 refine wpS_of_wp ?_
 simp only [errV, Array.replicate_succ, Array.replicate_zero, List.push_toArray, List.append_toArray, List.nil_append, List.cons_append, List.setIfInBounds_toArray, List.set_cons_succ, List.set_cons_zero]
 go_wp2_with (first | (refine L_build0 (d := some 12) rfl rfl rfl Tryd.underlying30 el_uint8 el_api_Digest ?_) | (refine L_build0 (d := some 13) rfl rfl rfl Tryd.underlying30 el_uint8 el_api_Digest ?_) | (refine wpl_at (.store 30 (.tmp 0) (.tmp 12)) rfl ?_; (refine L_storeA rfl rfl hst rfl (by rfl) (ev_tmp rfl) (by (exact Dig.one _)) el_api_Digest (by (rfl)) 2 rfl (by (exact ha)) ?_; clear hst; intro WS4 hst; simp only [List.set_cons_zero, List.set_cons_succ] at hst)) | (refine wpl_at (.store 30 (.tmp 1) (.tmp 13)) rfl ?_; (refine L_storeA rfl rfl hst rfl (by rfl) (ev_tmp rfl) (by (exact Dig.one _)) el_api_Digest (by (rfl)) 1 rfl (by (exact hb)) ?_; clear hst; intro WS5 hst; simp only [List.set_cons_zero, List.set_cons_succ] at hst)) | (refine wpl_at (.store 46 (.tmp 2) (.tmp 15)) rfl ?_; (refine L_store1 rfl rfl hst rfl (by rfl) (ev_tmp rfl) rfl el_error 0 rfl (by (exact of_decide_eq_true rfl)) ?_; clear hst; intro WS6 hst; simp only [List.set_cons_zero, List.set_cons_succ] at hst)))
 exact ⟨rfl, _, rfl, _, results_none rfl _ _ _, rfl, rfl, hst⟩
set_option maxHeartbeats 4000000 in
set_option maxRecDepth 100000 in
theorem gFold_short (n m : Nat) (old : Dig) (p : List Dig) (A : Option Addr) (k c : Nat) (w : World) (hx : SlR w A k c 32 (digsL p)) (hk : k < plN n m true) (h1 : 1 ≤ m) (hmn : m ≤ n) (hn : n ≤ 256) :
  Calls Tryd.prog 71 #[.int .i64 (m : Int), .int .i64 (n : Int), old.v, .slice A k c] w fun e w' => e = .returned (.tuple #[zeroD.v, zeroD.v, errV 3]) ∧ St w w' [] := by
 have hst := St.refl w
 have HI := Lib.hid (fun g w' L hst => gfold_short old g w n m true p A k c w' L hst hx hk h1 hmn hn)
 have t1 : ¬ (n : Int) < 1 := by omega
 have t2 : ¬ (256 : Int) < (n : Int) := by omega
 have t3 : ¬ (m : Int) < 1 := by omega
 have t4 : ¬ (n : Int) < (m : Int) := by omega
 have hmf : ∀ (fn : Fn) (first cap : Array Value) (w : World), (Instr.makeFunc fn first cap).run Tryd.prog w = .ok (.func fn first cap) w := fun _ _ _ _ => rfl
 clear hk hx
 go_enter_defers Tryd.func71, Tryd.ntmps71
 go_upto_region 1 with (first | (refine L_boxA (d := some 6) rfl rfl rfl (ev_tmp rfl) ?_; (try clear hnew); intro g6 W6 hnew; replace hst := hst.trans hnew; simp only [List.cons_append, List.nil_append] at hst) | (refine L_allocA (d := some 8) rfl rfl rfl el_api_Digest ?_; (try clear hnew); intro g8 W8 hnew; replace hst := hst.trans hnew; simp only [List.cons_append, List.nil_append] at hst) | (refine L_allocA (d := some 9) rfl rfl rfl el_api_Digest ?_; (try clear hnew); intro g9 W9 hnew; replace hst := hst.trans hnew; simp only [List.cons_append, List.nil_append] at hst) | (refine L_alloc1 (d := some 10) rfl rfl rfl el_error rfl ?_; (try clear hnew); intro g10 W10 hnew; replace hst := hst.trans hnew; simp only [List.cons_append, List.nil_append] at hst))
 go_upto_region 3 with (fail)
 go_upto_region 4 with (fail)
 go_upto_region 5 with (first | (refine L_buildF (d := some 33) rfl rfl rfl (ev_tmp rfl) (ev_tmp rfl) ?_) | ((refine L_loadA (d := some 31) rfl rfl rfl (by rfl) Tryd.underlying30 rfl el_api_Digest (by (exact hst.get 3 rfl)) (by (exact Dig.size _)) ?_)) | (refine L_boxA (d := some 34) rfl rfl rfl (ev_tmp rfl) ?_; (try clear hnew); intro g34 W34 hnew; replace hst := hst.trans hnew; simp only [List.cons_append, List.nil_append] at hst))
 go_wp2_with ((go_at_call 107; (try clear hnew); refine (HI.out _ _ _ hst).mono ?_; rintro e W39 ⟨rfl, A39, k39, c39, hst'⟩; clear hst; have hst := hst'; clear hst'))
 refine leaves_cons (f := 106) (args := #[.pointer (some ⟨g8, 0, none⟩), .pointer (some ⟨g9, 0, none⟩), .pointer (some ⟨g10, 0, none⟩)]) (by simp) (by simp [go_sem]) ?_
 refine (catch_stops w _ g8 g9 g10 _ _ _ (Dig.size _) (Dig.size _) hst.tail).mono ?_
 rintro e u' w'' ⟨rfl, rfl, hst2⟩
 exact ⟨_, res_cell3 rfl rfl rfl rfl (hst2.get 2 rfl) (hst2.get 1 rfl) (cell_of (hst2.get 0 rfl) rfl) Tryd.underlying30 rfl Tryd.underlying30 rfl Tryd.underlying46 rfl el_api_Digest (Dig.size _) el_api_Digest (Dig.size _), rfl, hst2.forget⟩
set_option maxHeartbeats 4000000 in
set_option maxRecDepth 100000 in
theorem gFold_long (n m : Nat) (old : Dig) (p : List Dig) (A : Option Addr) (k c : Nat) (w : World) (hT : Tb w) (hx : SlR w A k c 32 (digsL p)) (hk : plN n m true < k) (h1 : 1 ≤ m) (hmn : m ≤ n) (hn : n ≤ 256) :
  Calls Tryd.prog 71 #[.int .i64 (m : Int), .int .i64 (n : Int), old.v, .slice A k c] w fun e w' => e = .returned (.tuple #[zeroD.v, zeroD.v, errV 3]) ∧ St w w' [] := by
 have hst := St.refl w
 have hl : p.length = k := by have := hx.1; rw [length_digsL] at this; omega
 obtain ⟨r, q, rfl, hr, hq⟩ : ∃ r q, p = r ++ q ∧ r.length = k - plN n m true ∧ q.length = plN n m true := by
  refine ⟨p.take (k - plN n m true), p.drop (k - plN n m true), (List.take_append_drop _ _).symm, ?_, ?_⟩
  ·rw [List.length_take]; omega
  ·rw [List.length_drop]; omega
 have HI := Lib.hid (fun g w' L hst => gfold_any old g w hT r n m true q A k c w' L hst hx hq h1 hmn hn)
 rw [hr] at HI
 have t1 : ¬ (n : Int) < 1 := by omega
 have t2 : ¬ (256 : Int) < (n : Int) := by omega
 have t3 : ¬ (m : Int) < 1 := by omega
 have t4 : ¬ (n : Int) < (m : Int) := by omega
 have hmf : ∀ (fn : Fn) (first cap : Array Value) (w : World), (Instr.makeFunc fn first cap).run Tryd.prog w = .ok (.func fn first cap) w := fun _ _ _ _ => rfl
 have HF := Lib.hid (fun A' k' c' => fArr_at old A' k' c')
 obtain ⟨x, hx0⟩ : ∃ x, x = k - plN n m true := ⟨_, rfl⟩
 rw [← hx0] at HI
 have t5 : 0 < (x : Int) := by omega
 clear hk hx hl hr hq hT hx0
 generalize grN n m true old q = ab at *
 generalize digsL r = lr at *
 go_enter_defers Tryd.func71, Tryd.ntmps71
 go_upto_region 1 with (first | (refine L_boxA (d := some 6) rfl rfl rfl (ev_tmp rfl) ?_; (try clear hnew); intro g6 W6 hnew; replace hst := hst.trans hnew; simp only [List.cons_append, List.nil_append] at hst) | (refine L_allocA (d := some 8) rfl rfl rfl el_api_Digest ?_; (try clear hnew); intro g8 W8 hnew; replace hst := hst.trans hnew; simp only [List.cons_append, List.nil_append] at hst) | (refine L_allocA (d := some 9) rfl rfl rfl el_api_Digest ?_; (try clear hnew); intro g9 W9 hnew; replace hst := hst.trans hnew; simp only [List.cons_append, List.nil_append] at hst) | (refine L_alloc1 (d := some 10) rfl rfl rfl el_error rfl ?_; (try clear hnew); intro g10 W10 hnew; replace hst := hst.trans hnew; simp only [List.cons_append, List.nil_append] at hst))
 go_upto_region 3 with (fail)
 go_upto_region 4 with (fail)
 go_upto_region 5 with (first | (refine L_buildF (d := some 33) rfl rfl rfl (ev_tmp rfl) (ev_tmp rfl) ?_) | ((refine L_loadA (d := some 31) rfl rfl rfl (by rfl) Tryd.underlying30 rfl el_api_Digest (by (exact hst.get 3 rfl)) (by (exact Dig.size _)) ?_)) | (refine L_boxA (d := some 34) rfl rfl rfl (ev_tmp rfl) ?_; (try clear hnew); intro g34 W34 hnew; replace hst := hst.trans hnew; simp only [List.cons_append, List.nil_append] at hst))
 go_upto_region 6 with (first | (go_at_call 107; (try clear hnew); refine (HI.out _ _ _ hst).mono ?_; rintro e W39 ⟨rfl, A39, c39, hst', hx'⟩; clear hst; have hst := hst'; clear hst' hx') | (refine wpl_at (.store 30 (.tmp 8) (.tmp 40)) rfl ?_; (refine L_storeA rfl rfl hst rfl (by rfl) (ev_tmp rfl) (by (exact Dig.one _)) el_api_Digest (by (exact Dig.size _)) 3 rfl (by (rfl)) ?_; clear hst; intro WS7 hst; simp only [List.set_cons_zero, List.set_cons_succ] at hst)) | (refine wpl_at (.store 30 (.tmp 9) (.tmp 41)) rfl ?_; (refine L_storeA rfl rfl hst rfl (by rfl) (ev_tmp rfl) (by (exact Dig.one _)) el_api_Digest (by (exact Dig.size _)) 2 rfl (by (rfl)) ?_; clear hst; intro WS8 hst; simp only [List.set_cons_zero, List.set_cons_succ] at hst)))
 (try clear hnew)
 go_upto_region 7 with ((refine L_load1 (d := some 45) rfl rfl rfl (by rfl) Tryd.underlying36 rfl (by (exact cell_of (hst.get 0 rfl) (HF.out _ _ _))) ?_))
 go_wp2_with (fail)
 refine leaves_cons (f := 106) (args := #[.pointer (some ⟨g8, 0, none⟩), .pointer (some ⟨g9, 0, none⟩), .pointer (some ⟨g10, 0, none⟩)]) (by simp) (by simp [go_sem]) ?_
 refine (catch_stops w _ g8 g9 g10 _ _ _ (Dig.size _) (Dig.size _) hst.tail).mono ?_
 rintro e u' w'' ⟨rfl, rfl, hst2⟩
 exact ⟨_, res_cell3 rfl rfl rfl rfl (hst2.get 2 rfl) (hst2.get 1 rfl) (cell_of (hst2.get 0 rfl) rfl) Tryd.underlying30 rfl Tryd.underlying30 rfl Tryd.underlying46 rfl el_api_Digest (Dig.size _) el_api_Digest (Dig.size _), rfl, hst2.forget⟩
theorem gFold_length (n m : Nat) (old : Dig) (p : List Dig) (A : Option Addr) (k c : Nat) (w : World) (hT : Tb w) (hx : SlR w A k c 32 (digsL p)) (hk : k ≠ plN n m true) (h1 : 1 ≤ m) (hmn : m ≤ n) (hn : n ≤ 256) :
  Calls Tryd.prog 71 #[.int .i64 (m : Int), .int .i64 (n : Int), old.v, .slice A k c] w fun e w' => e = .returned (.tuple #[zeroD.v, zeroD.v, errV 3]) ∧ St w w' [] := by
 by_cases h : k < plN n m true
 ·exact gFold_short n m old p A k c w hx h h1 hmn hn
 ·exact gFold_long n m old p A k c w hT hx (by omega) h1 hmn hn
set_option maxHeartbeats 4000000 in
set_option maxRecDepth 100000 in
theorem gFold_range (n m : Int) (old : Dig) (A : Option Addr) (k c : Nat) (w : World) (h : n < 1 ∨ ¬ n < 1 ∧ 256 < n ∨ ¬ n < 1 ∧ ¬ 256 < n ∧ m < 1 ∨ ¬ n < 1 ∧ ¬ 256 < n ∧ ¬ m < 1 ∧ n < m) :
  Calls Tryd.prog 71 #[.int .i64 m, .int .i64 n, old.v, .slice A k c] w fun e w' => e = .returned (.tuple #[zeroD.v, zeroD.v, errV 2]) ∧ St w w' [] := by
 have hst := St.refl w
 rcases h with h1 | ⟨h1, h2⟩ | ⟨h1, h2, h3⟩ | ⟨h1, h2, h3, h4⟩
 all_goals
  go_enter_defers Tryd.func71, Tryd.ntmps71
  go_upto_region 1 with (first | (refine L_boxA (d := some 6) rfl rfl rfl (ev_tmp rfl) ?_; (try clear hnew); intro g6 W6 hnew; replace hst := hst.trans hnew; simp only [List.cons_append, List.nil_append] at hst) | (refine L_allocA (d := some 8) rfl rfl rfl el_api_Digest ?_; (try clear hnew); intro g8 W8 hnew; replace hst := hst.trans hnew; simp only [List.cons_append, List.nil_append] at hst) | (refine L_allocA (d := some 9) rfl rfl rfl el_api_Digest ?_; (try clear hnew); intro g9 W9 hnew; replace hst := hst.trans hnew; simp only [List.cons_append, List.nil_append] at hst) | (refine L_alloc1 (d := some 10) rfl rfl rfl el_error rfl ?_; (try clear hnew); intro g10 W10 hnew; replace hst := hst.trans hnew; simp only [List.cons_append, List.nil_append] at hst))
  go_upto_region 2 with (fail)
  go_wp2_with (first | (refine L_build0 (d := some 27) rfl rfl rfl Tryd.underlying30 el_uint8 el_api_Digest ?_) | (refine L_build0 (d := some 28) rfl rfl rfl Tryd.underlying30 el_uint8 el_api_Digest ?_) | (refine wpl_at (.store 30 (.tmp 8) (.tmp 27)) rfl ?_; (refine L_storeA rfl rfl hst rfl (by rfl) (ev_tmp rfl) (by (exact Dig.one _)) el_api_Digest (by (rfl)) 2 rfl (by (rfl)) ?_; clear hst; intro WS3 hst; simp only [List.set_cons_zero, List.set_cons_succ] at hst)) | (refine wpl_at (.store 30 (.tmp 9) (.tmp 28)) rfl ?_; (refine L_storeA rfl rfl hst rfl (by rfl) (ev_tmp rfl) (by (exact Dig.one _)) el_api_Digest (by (rfl)) 1 rfl (by (rfl)) ?_; clear hst; intro WS4 hst; simp only [List.set_cons_zero, List.set_cons_succ] at hst)) | (refine wpl_at (.store 46 (.tmp 10) (.tmp 29)) rfl ?_; (refine L_store1 rfl rfl hst rfl (by rfl) (ev_tmp rfl) rfl el_error 0 rfl (by (exact of_decide_eq_true rfl)) ?_; clear hst; intro WS5 hst; simp only [List.set_cons_zero, List.set_cons_succ] at hst)))
  exact ⟨_, res_cell3 rfl rfl rfl rfl (hst.get 2 rfl) (hst.get 1 rfl) (cell_of (hst.get 0 rfl) rfl) Tryd.underlying30 rfl Tryd.underlying30 rfl Tryd.underlying46 rfl el_api_Digest (Dig.size _) el_api_Digest (Dig.size _), rfl, hst.forget⟩
set_option maxHeartbeats 4000000 in
theorem gCheck_no (n m : Int) (old now : Dig) (A : Option Addr) (k c q : Nat) (w : World) (HF : ∀ w', St w w' [] → Calls Tryd.prog 71 #[.int .i64 m, .int .i64 n, old.v, .slice A k c] w' fun e w'' => e = .returned (.tuple #[zeroD.v, zeroD.v, errV q]) ∧ St w' w'' []) :
  Calls Tryd.prog 32 #[.int .i64 m, .int .i64 n, old.v, now.v, .slice A k c] w fun e w' => e = .returned (.bool false) ∧ St w w' [] := by
 have hst := St.refl w
 have HF := Lib.hid HF
 unfold errV at HF
 go_enter Tryd.func32, Tryd.ntmps32
 go_upto_region 1 with (first | (refine L_boxA (d := some 7) rfl rfl rfl (ev_tmp rfl) ?_; (try clear hnew); intro g7 W7 hnew; replace hst := hst.trans hnew; simp only [List.cons_append, List.nil_append] at hst) | (refine L_boxA (d := some 8) rfl rfl rfl (ev_tmp rfl) ?_; (try clear hnew); intro g8 W8 hnew; replace hst := hst.trans hnew; simp only [List.cons_append, List.nil_append] at hst))
 go_upto_region 2 with (first | (go_at_call 71; (try clear hnew); refine (HF.out _ hst.forget).mono ?_; rintro e Wk3 ⟨rfl, hnew⟩; replace hst := hst.keep hnew) | ((refine L_loadA (d := some 17) rfl rfl rfl (by rfl) Tryd.underlying30 rfl el_api_Digest (by (exact hst.get 1 rfl)) (by (exact Dig.size _)) ?_)) | (refine L_allocA (d := some 11) rfl rfl rfl el_api_Digest ?_; (try clear hnew); intro g11 W11 hnew; replace hst := hst.trans hnew; simp only [List.cons_append, List.nil_append] at hst) | (refine L_allocA (d := some 12) rfl rfl rfl el_api_Digest ?_; (try clear hnew); intro g12 W12 hnew; replace hst := hst.trans hnew; simp only [List.cons_append, List.nil_append] at hst) | (refine wpl_at (.store 30 (.tmp 11) (.tmp 20)) rfl ?_; (refine L_storeA rfl rfl hst rfl (by rfl) (ev_tmp rfl) (by (exact Dig.one _)) el_api_Digest (by (rfl)) 1 rfl (by (rfl)) ?_; clear hst; intro WS11 hst; simp only [List.set_cons_zero, List.set_cons_succ] at hst)) | (refine wpl_at (.store 30 (.tmp 12) (.tmp 21)) rfl ?_; (refine L_storeA rfl rfl hst rfl (by rfl) (ev_tmp rfl) (by (exact Dig.one _)) el_api_Digest (by (rfl)) 0 rfl (by (rfl)) ?_; clear hst; intro WS12 hst; simp only [List.set_cons_zero, List.set_cons_succ] at hst)))
 go_wp2_with (fail)
 go_ret
 exact ⟨rfl, hst.forget⟩
end Go.Proofs.YtaebeemnipafbaaDoor
