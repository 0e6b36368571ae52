/-
  Proved here: the walk of the law OctetBack: it returns true. Condition: no more bytes than a slice of their digits may have.
-/
import Derived.Test.YtnofmbajgjmdfaaUnhex
import Derived.Test.YtnofmbajgjmdfaaOctet
import Derived.Test.YtnofmbajgjmdfaaOctetPlain
import Derived.Test.YtnofmbajgjmdfaaSame
namespace Go.Proofs.Ytnofmbajgjmdfaa
open Go.RowKit

theorem bs_eq (s : ByteArray) : (⟨s.data.toList.toArray⟩ : ByteArray) = s := by simp
/-- the first pair that is none, of m -/
theorem first_bad (l : List UInt8) : ∀ m, ∃ t, t ≤ m ∧ (∀ j, j < t → pairOk l j) ∧ (t < m → ¬ pairOk l t)
  | 0 => ⟨0, by omega, fun j hj => by omega, fun h => by omega⟩
  | m + 1 => by
    obtain ⟨t, h1, h2, h3⟩ := first_bad l m
    by_cases ht : t < m
    · exact ⟨t, by omega, h2, fun _ => h3 ht⟩
    · obtain rfl : t = m := by omega
      by_cases hp : pairOk l t
      · exact ⟨t + 1, by omega, fun j hj => by
          by_cases hjt : j = t
          · subst hjt; exact hp
          · exact h2 j (by omega), fun h => by omega⟩
      · exact ⟨t, by omega, h2, fun _ => hp⟩

set_option maxHeartbeats 8000000 in
theorem octetBack_any (w : World) (b : List UInt8) (A : Option Addr) (n c : Nat) (hx : SlR w A n c 1 (bytesL b)) (hn : n ≤ 1048576) (s : ByteArray) (hs : s.size ≤ 1048576) (N : Int) (hN1 : -9223372036854775808 ≤ N) (hN2 : N ≤ 9223372036854775807) (S : Int) (hS1 : -9223372036854775808 ≤ S) (hS2 : S ≤ 9223372036854775807) :
    Calls Try.prog 5 #[.slice A n c, .string s, .int .i64 N, .int .i64 S] w fun e w' => e = .returned (.bool true) ∧ St w w' [] := by
  have hst := St.refl w
  have hl := hx.1
  rw [length_bytesL, Nat.mul_one] at hl
  have Hl := Lib.hid hl
  have hcap := hx.2.1
  -- what the calls tell
  have HF := Lib.hid (show (⟨(hexL [18, 52]).toArray⟩ : ByteArray) = ⟨#[49, 50, 51, 52]⟩ by rfl)
  have HU := Lib.hid (show ∀ w, Calls Try.prog 9 #[.string ⟨(hexL b).toArray⟩] w fun e w' => ∃ A c, e = .returned (.tuple #[.slice A n c, .nilIface]) ∧ St w w' [.row A n c 5 1 (bytesL b)] from fun w => by
    have hsz : (⟨(hexL b).toArray⟩ : ByteArray).size = 2 * n := by
      show (hexL b).toArray.size = _
      rw [List.size_toArray, length_hexL, hl]
    refine (unhex_any ⟨(hexL b).toArray⟩ n n w (by omega) hsz (Nat.le_refl _) (fun j hj => hexL_ok b j (by omega)) (fun h => by omega)).mono ?_
    rintro e w' (⟨_, A, c, rfl, h⟩ | ⟨h, _⟩)
    · refine ⟨A, c, rfl, ?_⟩
      have hd := dec_hex b
      rw [hl] at hd
      rw [show (⟨(hexL b).toArray⟩ : ByteArray).data.toList = hexL b from rfl, hd] at h
      exact h
    · omega)
  have HS1 := Lib.hid (show (b == b) = true by simp)
  clear hl
  by_cases hodd : s.size % 2 = 1
  · have HUs := Lib.hid (fun w => unhex_odd s w (by omega) hodd)
    clear hodd
    by_cases hp : putNo N S
    · skip
      by_cases hq : n < 1 ∨ 8 < n ∨ n = 8 ∧ 127 < (b.getD 0 0).toNat
      · go_enter Try.func5, Try.ntmps5
        go_wp2_with (first
          | (go_at_call_of 8 (Value.slice A n c); refine (hex_any b _ _ _ _ (hst.old (by decide) hx) (by omega)).mono ?_; rintro e Wh ⟨rfl, hnew⟩; replace hst := hst.keep hnew; clear hnew)
          | (go_at_call_of 8 (Value.slice g19 2 2); (try clear hnew); refine (hex_any [18, 52] _ _ _ _ (hst.sl 0 rfl) (by decide)).mono ?_; rintro e Wh ⟨rfl, hnew⟩; rw [HF.out]; replace hst := hst.keep hnew; clear hnew)
          | (go_at_call_of 9 (Value.string s); refine (HUs.out _).mono ?_; unfold errV; rintro e Wu ⟨rfl, hnew⟩; replace hst := hst.keep hnew; clear hnew)
          | (go_at_call 9; refine (HU.out _).mono ?_; rintro e Wu ⟨A26, c26, rfl, hnew⟩; replace hst := hst.trans hnew; clear hnew; simp only [List.cons_append, List.nil_append] at hst)
          | (go_at_call_of 10 (Value.slice A26 n c26); refine (sameB_any b b _ _ _ _ _ _ _ (by first | exact hst.sl 0 rfl | exact hst.sl 1 rfl) (hst.old (by decide) hx)).mono ?_; rw [HS1.out]; rintro e Ws ⟨rfl, hnew⟩; replace hst := hst.keep hnew; clear hnew)
          | (go_at_call_of 11 (Value.int .i64 N); refine (oput_no N S _ hN1 hN2 hS1 hS2 hp).mono ?_; unfold errV; rintro e Wp ⟨rfl, hnew⟩; replace hst := hst.keep hnew; clear hnew)
          | (go_at_call_of 12 (Value.slice A n c); refine (onum_no b _ _ _ _ (hst.old (by decide) hx) hq).mono ?_; unfold errV; rintro e Wn ⟨rfl, hnew⟩; replace hst := hst.keep hnew; clear hnew)
          | (refine L_buildS (d := some 19) rfl rfl rfl [_, _] (bs_2 ev_const ev_const) rfl Try.underlying30 el_uint8 rfl (by first | (simp [Value.cells]; done) | (simp [Value.cells, Dig.size]; done)) (by decide) (by decide) ?_; (try clear hnew); intro g19 W19 hnew; replace hst := hst.trans hnew; simp only [List.cons_append, List.nil_append] at hst; simp only [List.flatMap_cons, List.flatMap_nil, List.append_nil, Value.cells, List.toList_toArray] at hst)
          | fail)
        go_ret
        exact ⟨rfl, hst.forget⟩
      · have q1 : 1 ≤ n := by omega
        have q2 : n ≤ 8 := by omega
        have q3 : n = 8 → (b.getD 0 0).toNat ≤ 127 := fun h => by omega
        have HQ := Lib.hid (show ∀ w, Calls Try.prog 11 #[.int .i64 (natE b : Int), .int .i64 (n : Int)] w fun e w' => ∃ A, e = .returned (.tuple #[.slice A n n, .nilIface]) ∧ St w w' [.row A n n 5 1 (bytesL b)] from fun w => by
          have hlen := Hl.out
          have h1 := natE_fits b (by omega) (fun h => q3 (by omega)) n (by omega)
          rw [List.take_of_length_le (by omega)] at h1
          have h2 := oput_any (natE b) n w q1 q2 h1 (fun _ => shr_zero _ _ (by rw [← hlen]; exact natE_lt b))
          have h3 := bigE_natE b
          rw [hlen] at h3
          rw [h3] at h2
          exact h2)
        clear hq
        go_enter Try.func5, Try.ntmps5
        go_wp2_with (first
          | (go_at_call_of 8 (Value.slice A n c); refine (hex_any b _ _ _ _ (hst.old (by decide) hx) (by omega)).mono ?_; rintro e Wh ⟨rfl, hnew⟩; replace hst := hst.keep hnew; clear hnew)
          | (go_at_call_of 8 (Value.slice g19 2 2); (try clear hnew); refine (hex_any [18, 52] _ _ _ _ (hst.sl 0 rfl) (by decide)).mono ?_; rintro e Wh ⟨rfl, hnew⟩; rw [HF.out]; replace hst := hst.keep hnew; clear hnew)
          | (go_at_call_of 9 (Value.string s); refine (HUs.out _).mono ?_; unfold errV; rintro e Wu ⟨rfl, hnew⟩; replace hst := hst.keep hnew; clear hnew)
          | (go_at_call 9; refine (HU.out _).mono ?_; rintro e Wu ⟨A26, c26, rfl, hnew⟩; replace hst := hst.trans hnew; clear hnew; simp only [List.cons_append, List.nil_append] at hst)
          | (go_at_call_of 10 (Value.slice A26 n c26); refine (sameB_any b b _ _ _ _ _ _ _ (by first | exact hst.sl 0 rfl | exact hst.sl 1 rfl) (hst.old (by decide) hx)).mono ?_; rw [HS1.out]; rintro e Ws ⟨rfl, hnew⟩; replace hst := hst.keep hnew; clear hnew)
          | (go_at_call_of 11 (Value.int .i64 N); refine (oput_no N S _ hN1 hN2 hS1 hS2 hp).mono ?_; unfold errV; rintro e Wp ⟨rfl, hnew⟩; replace hst := hst.keep hnew; clear hnew)
          | (go_at_call_of 12 (Value.slice A n c); refine (onum_any b _ _ _ _ (hst.old (by decide) hx) q1 q2 q3).mono ?_; rintro e Wn ⟨rfl, hnew⟩; replace hst := hst.keep hnew; clear hnew)
          | (go_at_call_of 11 (Value.int .i64 (n : Int)); refine (HQ.out _).mono ?_; rintro e Wq ⟨A88, rfl, hnew⟩; replace hst := hst.trans hnew; clear hnew; simp only [List.cons_append, List.nil_append] at hst)
          | (go_at_call 10; refine (sameB_any b b _ _ _ _ _ _ _ (hst.sl 0 rfl) (hst.old (by decide) hx)).mono ?_; rw [HS1.out]; rintro e Ws ⟨rfl, hnew⟩; replace hst := hst.keep hnew; clear hnew)
          | (refine L_buildS (d := some 19) rfl rfl rfl [_, _] (bs_2 ev_const ev_const) rfl Try.underlying30 el_uint8 rfl (by first | (simp [Value.cells]; done) | (simp [Value.cells, Dig.size]; done)) (by decide) (by decide) ?_; (try clear hnew); intro g19 W19 hnew; replace hst := hst.trans hnew; simp only [List.cons_append, List.nil_append] at hst; simp only [List.flatMap_cons, List.flatMap_nil, List.append_nil, Value.cells, List.toList_toArray] at hst)
          | fail)
        go_ret
        exact ⟨rfl, hst.forget⟩
    · obtain ⟨hsp, hpw⟩ : ∃ (kz : Nat × Nat), N = (kz.1 : Int) ∧ S = (kz.2 : Int) ∧ 1 ≤ kz.2 ∧ kz.2 ≤ 8 ∧ kz.1 < 256 ^ kz.2 := by
        unfold putNo at hp
        obtain ⟨k, rfl⟩ := Int.eq_ofNat_of_zero_le (show 0 ≤ N by omega)
        obtain ⟨z, rfl⟩ := Int.eq_ofNat_of_zero_le (show 0 ≤ S by omega)
        refine ⟨(k, z), rfl, rfl, by omega, by omega, ?_⟩
        by_cases hz : z < 8
        · refine lt_of_shr k z ?_
          have hc := shr_cell k z
          have h0 : ¬ 0 < (k : Int) / (2 : Int) ^ (8 * z) := fun h => hp (.inr (.inr (.inr ⟨by omega, by simpa using h⟩)))
          rw [hc] at h0
          exact Nat.eq_zero_of_not_pos (fun hpos => h0 (Int.ofNat_lt.2 hpos))
        · obtain rfl : z = 8 := by omega
          show k < 256 ^ 8
          omega
      obtain ⟨hk1, hz1, hz2, hz3, hlt⟩ := hpw
      obtain ⟨k, z⟩ := hsp
      simp only at hk1 hz1 hz2 hz3 hlt
      have HP := Lib.hid (show ∀ w, Calls Try.prog 11 #[.int .i64 N, .int .i64 S] w fun e w' => ∃ A, e = .returned (.tuple #[.slice A z z, .nilIface]) ∧ St w w' [.row A z z 5 1 (bytesL (bigE z k))] from fun w => by
        rw [hk1, hz1]
        exact oput_any k z w hz2 hz3 (by omega) (fun _ => shr_zero k z hlt))
      have HPn := Lib.hid (show ∀ (A : Option Addr) (w : World), SlR w A z z 1 (bytesL (bigE z k)) → Calls Try.prog 12 #[.slice A z z] w fun e w' => e = .returned (.tuple #[.int .i64 N, .nilIface]) ∧ St w w' [] from fun A w h => by
        have := onum_any (bigE z k) A z z w h hz2 hz3 (fun hz8 => by subst hz8; exact bigE_head k (by omega))
        rw [natE_bigE z k hlt, ← hk1] at this
        exact this)
      have hSz : ((z : Int) != S) = false := by rw [bne_eq_false_iff_eq]; omega
      have hNN : (N != N) = false := by simp
      clear hp hlt hk1 hz1
      by_cases hq : n < 1 ∨ 8 < n ∨ n = 8 ∧ 127 < (b.getD 0 0).toNat
      · go_enter Try.func5, Try.ntmps5
        go_wp2_with (first
          | (go_at_call_of 8 (Value.slice A n c); refine (hex_any b _ _ _ _ (hst.old (by decide) hx) (by omega)).mono ?_; rintro e Wh ⟨rfl, hnew⟩; replace hst := hst.keep hnew; clear hnew)
          | (go_at_call_of 8 (Value.slice g19 2 2); (try clear hnew); refine (hex_any [18, 52] _ _ _ _ (hst.sl 0 rfl) (by decide)).mono ?_; rintro e Wh ⟨rfl, hnew⟩; rw [HF.out]; replace hst := hst.keep hnew; clear hnew)
          | (go_at_call_of 9 (Value.string s); refine (HUs.out _).mono ?_; unfold errV; rintro e Wu ⟨rfl, hnew⟩; replace hst := hst.keep hnew; clear hnew)
          | (go_at_call 9; refine (HU.out _).mono ?_; rintro e Wu ⟨A26, c26, rfl, hnew⟩; replace hst := hst.trans hnew; clear hnew; simp only [List.cons_append, List.nil_append] at hst)
          | (go_at_call_of 10 (Value.slice A26 n c26); refine (sameB_any b b _ _ _ _ _ _ _ (by first | exact hst.sl 0 rfl | exact hst.sl 1 rfl) (hst.old (by decide) hx)).mono ?_; rw [HS1.out]; rintro e Ws ⟨rfl, hnew⟩; replace hst := hst.keep hnew; clear hnew)
          | (go_at_call_of 11 (Value.int .i64 N); refine (HP.out _).mono ?_; rintro e Wp ⟨A54, rfl, hnew⟩; replace hst := hst.trans hnew; clear hnew; simp only [List.cons_append, List.nil_append] at hst)
          | (go_at_call_of 12 (Value.slice A n c); refine (onum_no b _ _ _ _ (hst.old (by decide) hx) hq).mono ?_; unfold errV; rintro e Wn ⟨rfl, hnew⟩; replace hst := hst.keep hnew; clear hnew)
          | (go_at_call 12; refine (HPn.out _ _ (hst.sl 0 rfl)).mono ?_; rintro e Wn ⟨rfl, hnew⟩; replace hst := hst.keep hnew; clear hnew)
          | (refine L_buildS (d := some 19) rfl rfl rfl [_, _] (bs_2 ev_const ev_const) rfl Try.underlying30 el_uint8 rfl (by first | (simp [Value.cells]; done) | (simp [Value.cells, Dig.size]; done)) (by decide) (by decide) ?_; (try clear hnew); intro g19 W19 hnew; replace hst := hst.trans hnew; simp only [List.cons_append, List.nil_append] at hst; simp only [List.flatMap_cons, List.flatMap_nil, List.append_nil, Value.cells, List.toList_toArray] at hst)
          | fail)
        go_ret
        exact ⟨rfl, hst.forget⟩
      · have q1 : 1 ≤ n := by omega
        have q2 : n ≤ 8 := by omega
        have q3 : n = 8 → (b.getD 0 0).toNat ≤ 127 := fun h => by omega
        have HQ := Lib.hid (show ∀ w, Calls Try.prog 11 #[.int .i64 (natE b : Int), .int .i64 (n : Int)] w fun e w' => ∃ A, e = .returned (.tuple #[.slice A n n, .nilIface]) ∧ St w w' [.row A n n 5 1 (bytesL b)] from fun w => by
          have hlen := Hl.out
          have h1 := natE_fits b (by omega) (fun h => q3 (by omega)) n (by omega)
          rw [List.take_of_length_le (by omega)] at h1
          have h2 := oput_any (natE b) n w q1 q2 h1 (fun _ => shr_zero _ _ (by rw [← hlen]; exact natE_lt b))
          have h3 := bigE_natE b
          rw [hlen] at h3
          rw [h3] at h2
          exact h2)
        clear hq
        go_enter Try.func5, Try.ntmps5
        go_wp2_with (first
          | (go_at_call_of 8 (Value.slice A n c); refine (hex_any b _ _ _ _ (hst.old (by decide) hx) (by omega)).mono ?_; rintro e Wh ⟨rfl, hnew⟩; replace hst := hst.keep hnew; clear hnew)
          | (go_at_call_of 8 (Value.slice g19 2 2); (try clear hnew); refine (hex_any [18, 52] _ _ _ _ (hst.sl 0 rfl) (by decide)).mono ?_; rintro e Wh ⟨rfl, hnew⟩; rw [HF.out]; replace hst := hst.keep hnew; clear hnew)
          | (go_at_call_of 9 (Value.string s); refine (HUs.out _).mono ?_; unfold errV; rintro e Wu ⟨rfl, hnew⟩; replace hst := hst.keep hnew; clear hnew)
          | (go_at_call 9; refine (HU.out _).mono ?_; rintro e Wu ⟨A26, c26, rfl, hnew⟩; replace hst := hst.trans hnew; clear hnew; simp only [List.cons_append, List.nil_append] at hst)
          | (go_at_call_of 10 (Value.slice A26 n c26); refine (sameB_any b b _ _ _ _ _ _ _ (by first | exact hst.sl 0 rfl | exact hst.sl 1 rfl) (hst.old (by decide) hx)).mono ?_; rw [HS1.out]; rintro e Ws ⟨rfl, hnew⟩; replace hst := hst.keep hnew; clear hnew)
          | (go_at_call_of 11 (Value.int .i64 N); refine (HP.out _).mono ?_; rintro e Wp ⟨A54, rfl, hnew⟩; replace hst := hst.trans hnew; clear hnew; simp only [List.cons_append, List.nil_append] at hst)
          | (go_at_call_of 12 (Value.slice A n c); refine (onum_any b _ _ _ _ (hst.old (by decide) hx) q1 q2 q3).mono ?_; rintro e Wn ⟨rfl, hnew⟩; replace hst := hst.keep hnew; clear hnew)
          | (go_at_call_of 11 (Value.int .i64 (n : Int)); refine (HQ.out _).mono ?_; rintro e Wq ⟨A88, rfl, hnew⟩; replace hst := hst.trans hnew; clear hnew; simp only [List.cons_append, List.nil_append] at hst)
          | (go_at_call 10; refine (sameB_any b b _ _ _ _ _ _ _ (hst.sl 0 rfl) (hst.old (by decide) hx)).mono ?_; rw [HS1.out]; rintro e Ws ⟨rfl, hnew⟩; replace hst := hst.keep hnew; clear hnew)
          | (go_at_call 12; refine (HPn.out _ _ (hst.sl 0 rfl)).mono ?_; rintro e Wn ⟨rfl, hnew⟩; replace hst := hst.keep hnew; clear hnew)
          | (refine L_buildS (d := some 19) rfl rfl rfl [_, _] (bs_2 ev_const ev_const) rfl Try.underlying30 el_uint8 rfl (by first | (simp [Value.cells]; done) | (simp [Value.cells, Dig.size]; done)) (by decide) (by decide) ?_; (try clear hnew); intro g19 W19 hnew; replace hst := hst.trans hnew; simp only [List.cons_append, List.nil_append] at hst; simp only [List.flatMap_cons, List.flatMap_nil, List.append_nil, Value.cells, List.toList_toArray] at hst)
          | fail)
        go_ret
        exact ⟨rfl, hst.forget⟩
  · obtain ⟨m, hm⟩ : ∃ m, s.size = 2 * m := ⟨s.size / 2, by omega⟩
    obtain ⟨t, ht, hok, hend⟩ := first_bad s.data.toList m
    by_cases htm : t < m
    · have HUs := Lib.hid (show ∀ w, Calls Try.prog 9 #[.string s] w fun e w' => e = .returned (.tuple #[.slice none 0 0, errV 1]) ∧ St w w' [] from fun w => (unhex_any s m t w (by omega) hm ht hok hend).mono (by
        rintro e w' (⟨h, _⟩ | ⟨_, h⟩)
        · omega
        · exact h))
      clear hodd hm hok hend htm ht
      by_cases hp : putNo N S
      · skip
        by_cases hq : n < 1 ∨ 8 < n ∨ n = 8 ∧ 127 < (b.getD 0 0).toNat
        · go_enter Try.func5, Try.ntmps5
          go_wp2_with (first
            | (go_at_call_of 8 (Value.slice A n c); refine (hex_any b _ _ _ _ (hst.old (by decide) hx) (by omega)).mono ?_; rintro e Wh ⟨rfl, hnew⟩; replace hst := hst.keep hnew; clear hnew)
            | (go_at_call_of 8 (Value.slice g19 2 2); (try clear hnew); refine (hex_any [18, 52] _ _ _ _ (hst.sl 0 rfl) (by decide)).mono ?_; rintro e Wh ⟨rfl, hnew⟩; rw [HF.out]; replace hst := hst.keep hnew; clear hnew)
            | (go_at_call_of 9 (Value.string s); refine (HUs.out _).mono ?_; unfold errV; rintro e Wu ⟨rfl, hnew⟩; replace hst := hst.keep hnew; clear hnew)
            | (go_at_call 9; refine (HU.out _).mono ?_; rintro e Wu ⟨A26, c26, rfl, hnew⟩; replace hst := hst.trans hnew; clear hnew; simp only [List.cons_append, List.nil_append] at hst)
            | (go_at_call_of 10 (Value.slice A26 n c26); refine (sameB_any b b _ _ _ _ _ _ _ (by first | exact hst.sl 0 rfl | exact hst.sl 1 rfl) (hst.old (by decide) hx)).mono ?_; rw [HS1.out]; rintro e Ws ⟨rfl, hnew⟩; replace hst := hst.keep hnew; clear hnew)
            | (go_at_call_of 11 (Value.int .i64 N); refine (oput_no N S _ hN1 hN2 hS1 hS2 hp).mono ?_; unfold errV; rintro e Wp ⟨rfl, hnew⟩; replace hst := hst.keep hnew; clear hnew)
            | (go_at_call_of 12 (Value.slice A n c); refine (onum_no b _ _ _ _ (hst.old (by decide) hx) hq).mono ?_; unfold errV; rintro e Wn ⟨rfl, hnew⟩; replace hst := hst.keep hnew; clear hnew)
            | (refine L_buildS (d := some 19) rfl rfl rfl [_, _] (bs_2 ev_const ev_const) rfl Try.underlying30 el_uint8 rfl (by first | (simp [Value.cells]; done) | (simp [Value.cells, Dig.size]; done)) (by decide) (by decide) ?_; (try clear hnew); intro g19 W19 hnew; replace hst := hst.trans hnew; simp only [List.cons_append, List.nil_append] at hst; simp only [List.flatMap_cons, List.flatMap_nil, List.append_nil, Value.cells, List.toList_toArray] at hst)
            | fail)
          go_ret
          exact ⟨rfl, hst.forget⟩
        · have q1 : 1 ≤ n := by omega
          have q2 : n ≤ 8 := by omega
          have q3 : n = 8 → (b.getD 0 0).toNat ≤ 127 := fun h => by omega
          have HQ := Lib.hid (show ∀ w, Calls Try.prog 11 #[.int .i64 (natE b : Int), .int .i64 (n : Int)] w fun e w' => ∃ A, e = .returned (.tuple #[.slice A n n, .nilIface]) ∧ St w w' [.row A n n 5 1 (bytesL b)] from fun w => by
            have hlen := Hl.out
            have h1 := natE_fits b (by omega) (fun h => q3 (by omega)) n (by omega)
            rw [List.take_of_length_le (by omega)] at h1
            have h2 := oput_any (natE b) n w q1 q2 h1 (fun _ => shr_zero _ _ (by rw [← hlen]; exact natE_lt b))
            have h3 := bigE_natE b
            rw [hlen] at h3
            rw [h3] at h2
            exact h2)
          clear hq
          go_enter Try.func5, Try.ntmps5
          go_wp2_with (first
            | (go_at_call_of 8 (Value.slice A n c); refine (hex_any b _ _ _ _ (hst.old (by decide) hx) (by omega)).mono ?_; rintro e Wh ⟨rfl, hnew⟩; replace hst := hst.keep hnew; clear hnew)
            | (go_at_call_of 8 (Value.slice g19 2 2); (try clear hnew); refine (hex_any [18, 52] _ _ _ _ (hst.sl 0 rfl) (by decide)).mono ?_; rintro e Wh ⟨rfl, hnew⟩; rw [HF.out]; replace hst := hst.keep hnew; clear hnew)
            | (go_at_call_of 9 (Value.string s); refine (HUs.out _).mono ?_; unfold errV; rintro e Wu ⟨rfl, hnew⟩; replace hst := hst.keep hnew; clear hnew)
            | (go_at_call 9; refine (HU.out _).mono ?_; rintro e Wu ⟨A26, c26, rfl, hnew⟩; replace hst := hst.trans hnew; clear hnew; simp only [List.cons_append, List.nil_append] at hst)
            | (go_at_call_of 10 (Value.slice A26 n c26); refine (sameB_any b b _ _ _ _ _ _ _ (by first | exact hst.sl 0 rfl | exact hst.sl 1 rfl) (hst.old (by decide) hx)).mono ?_; rw [HS1.out]; rintro e Ws ⟨rfl, hnew⟩; replace hst := hst.keep hnew; clear hnew)
            | (go_at_call_of 11 (Value.int .i64 N); refine (oput_no N S _ hN1 hN2 hS1 hS2 hp).mono ?_; unfold errV; rintro e Wp ⟨rfl, hnew⟩; replace hst := hst.keep hnew; clear hnew)
            | (go_at_call_of 12 (Value.slice A n c); refine (onum_any b _ _ _ _ (hst.old (by decide) hx) q1 q2 q3).mono ?_; rintro e Wn ⟨rfl, hnew⟩; replace hst := hst.keep hnew; clear hnew)
            | (go_at_call_of 11 (Value.int .i64 (n : Int)); refine (HQ.out _).mono ?_; rintro e Wq ⟨A88, rfl, hnew⟩; replace hst := hst.trans hnew; clear hnew; simp only [List.cons_append, List.nil_append] at hst)
            | (go_at_call 10; refine (sameB_any b b _ _ _ _ _ _ _ (hst.sl 0 rfl) (hst.old (by decide) hx)).mono ?_; rw [HS1.out]; rintro e Ws ⟨rfl, hnew⟩; replace hst := hst.keep hnew; clear hnew)
            | (refine L_buildS (d := some 19) rfl rfl rfl [_, _] (bs_2 ev_const ev_const) rfl Try.underlying30 el_uint8 rfl (by first | (simp [Value.cells]; done) | (simp [Value.cells, Dig.size]; done)) (by decide) (by decide) ?_; (try clear hnew); intro g19 W19 hnew; replace hst := hst.trans hnew; simp only [List.cons_append, List.nil_append] at hst; simp only [List.flatMap_cons, List.flatMap_nil, List.append_nil, Value.cells, List.toList_toArray] at hst)
            | fail)
          go_ret
          exact ⟨rfl, hst.forget⟩
      · obtain ⟨hsp, hpw⟩ : ∃ (kz : Nat × Nat), N = (kz.1 : Int) ∧ S = (kz.2 : Int) ∧ 1 ≤ kz.2 ∧ kz.2 ≤ 8 ∧ kz.1 < 256 ^ kz.2 := by
          unfold putNo at hp
          obtain ⟨k, rfl⟩ := Int.eq_ofNat_of_zero_le (show 0 ≤ N by omega)
          obtain ⟨z, rfl⟩ := Int.eq_ofNat_of_zero_le (show 0 ≤ S by omega)
          refine ⟨(k, z), rfl, rfl, by omega, by omega, ?_⟩
          by_cases hz : z < 8
          · refine lt_of_shr k z ?_
            have hc := shr_cell k z
            have h0 : ¬ 0 < (k : Int) / (2 : Int) ^ (8 * z) := fun h => hp (.inr (.inr (.inr ⟨by omega, by simpa using h⟩)))
            rw [hc] at h0
            exact Nat.eq_zero_of_not_pos (fun hpos => h0 (Int.ofNat_lt.2 hpos))
          · obtain rfl : z = 8 := by omega
            show k < 256 ^ 8
            omega
        obtain ⟨hk1, hz1, hz2, hz3, hlt⟩ := hpw
        obtain ⟨k, z⟩ := hsp
        simp only at hk1 hz1 hz2 hz3 hlt
        have HP := Lib.hid (show ∀ w, Calls Try.prog 11 #[.int .i64 N, .int .i64 S] w fun e w' => ∃ A, e = .returned (.tuple #[.slice A z z, .nilIface]) ∧ St w w' [.row A z z 5 1 (bytesL (bigE z k))] from fun w => by
          rw [hk1, hz1]
          exact oput_any k z w hz2 hz3 (by omega) (fun _ => shr_zero k z hlt))
        have HPn := Lib.hid (show ∀ (A : Option Addr) (w : World), SlR w A z z 1 (bytesL (bigE z k)) → Calls Try.prog 12 #[.slice A z z] w fun e w' => e = .returned (.tuple #[.int .i64 N, .nilIface]) ∧ St w w' [] from fun A w h => by
          have := onum_any (bigE z k) A z z w h hz2 hz3 (fun hz8 => by subst hz8; exact bigE_head k (by omega))
          rw [natE_bigE z k hlt, ← hk1] at this
          exact this)
        have hSz : ((z : Int) != S) = false := by rw [bne_eq_false_iff_eq]; omega
        have hNN : (N != N) = false := by simp
        clear hp hlt hk1 hz1
        by_cases hq : n < 1 ∨ 8 < n ∨ n = 8 ∧ 127 < (b.getD 0 0).toNat
        · go_enter Try.func5, Try.ntmps5
          go_wp2_with (first
            | (go_at_call_of 8 (Value.slice A n c); refine (hex_any b _ _ _ _ (hst.old (by decide) hx) (by omega)).mono ?_; rintro e Wh ⟨rfl, hnew⟩; replace hst := hst.keep hnew; clear hnew)
            | (go_at_call_of 8 (Value.slice g19 2 2); (try clear hnew); refine (hex_any [18, 52] _ _ _ _ (hst.sl 0 rfl) (by decide)).mono ?_; rintro e Wh ⟨rfl, hnew⟩; rw [HF.out]; replace hst := hst.keep hnew; clear hnew)
            | (go_at_call_of 9 (Value.string s); refine (HUs.out _).mono ?_; unfold errV; rintro e Wu ⟨rfl, hnew⟩; replace hst := hst.keep hnew; clear hnew)
            | (go_at_call 9; refine (HU.out _).mono ?_; rintro e Wu ⟨A26, c26, rfl, hnew⟩; replace hst := hst.trans hnew; clear hnew; simp only [List.cons_append, List.nil_append] at hst)
            | (go_at_call_of 10 (Value.slice A26 n c26); refine (sameB_any b b _ _ _ _ _ _ _ (by first | exact hst.sl 0 rfl | exact hst.sl 1 rfl) (hst.old (by decide) hx)).mono ?_; rw [HS1.out]; rintro e Ws ⟨rfl, hnew⟩; replace hst := hst.keep hnew; clear hnew)
            | (go_at_call_of 11 (Value.int .i64 N); refine (HP.out _).mono ?_; rintro e Wp ⟨A54, rfl, hnew⟩; replace hst := hst.trans hnew; clear hnew; simp only [List.cons_append, List.nil_append] at hst)
            | (go_at_call_of 12 (Value.slice A n c); refine (onum_no b _ _ _ _ (hst.old (by decide) hx) hq).mono ?_; unfold errV; rintro e Wn ⟨rfl, hnew⟩; replace hst := hst.keep hnew; clear hnew)
            | (go_at_call 12; refine (HPn.out _ _ (hst.sl 0 rfl)).mono ?_; rintro e Wn ⟨rfl, hnew⟩; replace hst := hst.keep hnew; clear hnew)
            | (refine L_buildS (d := some 19) rfl rfl rfl [_, _] (bs_2 ev_const ev_const) rfl Try.underlying30 el_uint8 rfl (by first | (simp [Value.cells]; done) | (simp [Value.cells, Dig.size]; done)) (by decide) (by decide) ?_; (try clear hnew); intro g19 W19 hnew; replace hst := hst.trans hnew; simp only [List.cons_append, List.nil_append] at hst; simp only [List.flatMap_cons, List.flatMap_nil, List.append_nil, Value.cells, List.toList_toArray] at hst)
            | fail)
          go_ret
          exact ⟨rfl, hst.forget⟩
        · have q1 : 1 ≤ n := by omega
          have q2 : n ≤ 8 := by omega
          have q3 : n = 8 → (b.getD 0 0).toNat ≤ 127 := fun h => by omega
          have HQ := Lib.hid (show ∀ w, Calls Try.prog 11 #[.int .i64 (natE b : Int), .int .i64 (n : Int)] w fun e w' => ∃ A, e = .returned (.tuple #[.slice A n n, .nilIface]) ∧ St w w' [.row A n n 5 1 (bytesL b)] from fun w => by
            have hlen := Hl.out
            have h1 := natE_fits b (by omega) (fun h => q3 (by omega)) n (by omega)
            rw [List.take_of_length_le (by omega)] at h1
            have h2 := oput_any (natE b) n w q1 q2 h1 (fun _ => shr_zero _ _ (by rw [← hlen]; exact natE_lt b))
            have h3 := bigE_natE b
            rw [hlen] at h3
            rw [h3] at h2
            exact h2)
          clear hq
          go_enter Try.func5, Try.ntmps5
          go_wp2_with (first
            | (go_at_call_of 8 (Value.slice A n c); refine (hex_any b _ _ _ _ (hst.old (by decide) hx) (by omega)).mono ?_; rintro e Wh ⟨rfl, hnew⟩; replace hst := hst.keep hnew; clear hnew)
            | (go_at_call_of 8 (Value.slice g19 2 2); (try clear hnew); refine (hex_any [18, 52] _ _ _ _ (hst.sl 0 rfl) (by decide)).mono ?_; rintro e Wh ⟨rfl, hnew⟩; rw [HF.out]; replace hst := hst.keep hnew; clear hnew)
            | (go_at_call_of 9 (Value.string s); refine (HUs.out _).mono ?_; unfold errV; rintro e Wu ⟨rfl, hnew⟩; replace hst := hst.keep hnew; clear hnew)
            | (go_at_call 9; refine (HU.out _).mono ?_; rintro e Wu ⟨A26, c26, rfl, hnew⟩; replace hst := hst.trans hnew; clear hnew; simp only [List.cons_append, List.nil_append] at hst)
            | (go_at_call_of 10 (Value.slice A26 n c26); refine (sameB_any b b _ _ _ _ _ _ _ (by first | exact hst.sl 0 rfl | exact hst.sl 1 rfl) (hst.old (by decide) hx)).mono ?_; rw [HS1.out]; rintro e Ws ⟨rfl, hnew⟩; replace hst := hst.keep hnew; clear hnew)
            | (go_at_call_of 11 (Value.int .i64 N); refine (HP.out _).mono ?_; rintro e Wp ⟨A54, rfl, hnew⟩; replace hst := hst.trans hnew; clear hnew; simp only [List.cons_append, List.nil_append] at hst)
            | (go_at_call_of 12 (Value.slice A n c); refine (onum_any b _ _ _ _ (hst.old (by decide) hx) q1 q2 q3).mono ?_; rintro e Wn ⟨rfl, hnew⟩; replace hst := hst.keep hnew; clear hnew)
            | (go_at_call_of 11 (Value.int .i64 (n : Int)); refine (HQ.out _).mono ?_; rintro e Wq ⟨A88, rfl, hnew⟩; replace hst := hst.trans hnew; clear hnew; simp only [List.cons_append, List.nil_append] at hst)
            | (go_at_call 10; refine (sameB_any b b _ _ _ _ _ _ _ (hst.sl 0 rfl) (hst.old (by decide) hx)).mono ?_; rw [HS1.out]; rintro e Ws ⟨rfl, hnew⟩; replace hst := hst.keep hnew; clear hnew)
            | (go_at_call 12; refine (HPn.out _ _ (hst.sl 0 rfl)).mono ?_; rintro e Wn ⟨rfl, hnew⟩; replace hst := hst.keep hnew; clear hnew)
            | (refine L_buildS (d := some 19) rfl rfl rfl [_, _] (bs_2 ev_const ev_const) rfl Try.underlying30 el_uint8 rfl (by first | (simp [Value.cells]; done) | (simp [Value.cells, Dig.size]; done)) (by decide) (by decide) ?_; (try clear hnew); intro g19 W19 hnew; replace hst := hst.trans hnew; simp only [List.cons_append, List.nil_append] at hst; simp only [List.flatMap_cons, List.flatMap_nil, List.append_nil, Value.cells, List.toList_toArray] at hst)
            | fail)
          go_ret
          exact ⟨rfl, hst.forget⟩
    · obtain rfl : t = m := by omega
      have HUs := Lib.hid (show ∀ w, Calls Try.prog 9 #[.string s] w fun e w' => ∃ A c, e = .returned (.tuple #[.slice A t c, .nilIface]) ∧ St w w' [.row A t c 5 1 (bytesL (decL s.data.toList t))] from fun w => (unhex_any s t t w (by omega) hm ht hok hend).mono (by
        rintro e w' (⟨_, A, c, h⟩ | ⟨h, _⟩)
        · exact ⟨A, c, h⟩
        · omega))
      have HBack := Lib.hid (show (⟨(hexL (decL s.data.toList t)).toArray⟩ : ByteArray) = s by
        rw [hex_dec s.data.toList t (by simpa using hm) hok])
      have htb : t ≤ 1048576 := by omega
      clear hodd hm hok hend htm ht
      by_cases hp : putNo N S
      · skip
        by_cases hq : n < 1 ∨ 8 < n ∨ n = 8 ∧ 127 < (b.getD 0 0).toNat
        · go_enter Try.func5, Try.ntmps5
          go_wp2_with (first
            | (go_at_call_of 8 (Value.slice A n c); refine (hex_any b _ _ _ _ (hst.old (by decide) hx) (by omega)).mono ?_; rintro e Wh ⟨rfl, hnew⟩; replace hst := hst.keep hnew; clear hnew)
            | (go_at_call_of 8 (Value.slice g19 2 2); (try clear hnew); refine (hex_any [18, 52] _ _ _ _ (hst.sl 0 rfl) (by decide)).mono ?_; rintro e Wh ⟨rfl, hnew⟩; rw [HF.out]; replace hst := hst.keep hnew; clear hnew)
            | (go_at_call_of 9 (Value.string s); refine (HUs.out _).mono ?_; rintro e Wu ⟨A40, c40, rfl, hnew⟩; replace hst := hst.trans hnew; clear hnew; simp only [List.cons_append, List.nil_append] at hst)
            | (go_at_call 9; refine (HU.out _).mono ?_; rintro e Wu ⟨A26, c26, rfl, hnew⟩; replace hst := hst.trans hnew; clear hnew; simp only [List.cons_append, List.nil_append] at hst)
            | (go_at_call_of 8 (Value.slice A40 t c40); refine (hex_any (decL s.data.toList t) _ _ _ _ (hst.sl 0 rfl) (by omega)).mono ?_; rintro e Wh ⟨rfl, hnew⟩; rw [HBack.out]; replace hst := hst.keep hnew; clear hnew)
            | (go_at_call_of 10 (Value.slice A26 n c26); refine (sameB_any b b _ _ _ _ _ _ _ (by first | exact hst.sl 0 rfl | exact hst.sl 1 rfl) (hst.old (by decide) hx)).mono ?_; rw [HS1.out]; rintro e Ws ⟨rfl, hnew⟩; replace hst := hst.keep hnew; clear hnew)
            | (go_at_call_of 11 (Value.int .i64 N); refine (oput_no N S _ hN1 hN2 hS1 hS2 hp).mono ?_; unfold errV; rintro e Wp ⟨rfl, hnew⟩; replace hst := hst.keep hnew; clear hnew)
            | (go_at_call_of 12 (Value.slice A n c); refine (onum_no b _ _ _ _ (hst.old (by decide) hx) hq).mono ?_; unfold errV; rintro e Wn ⟨rfl, hnew⟩; replace hst := hst.keep hnew; clear hnew)
            | (refine L_buildS (d := some 19) rfl rfl rfl [_, _] (bs_2 ev_const ev_const) rfl Try.underlying30 el_uint8 rfl (by first | (simp [Value.cells]; done) | (simp [Value.cells, Dig.size]; done)) (by decide) (by decide) ?_; (try clear hnew); intro g19 W19 hnew; replace hst := hst.trans hnew; simp only [List.cons_append, List.nil_append] at hst; simp only [List.flatMap_cons, List.flatMap_nil, List.append_nil, Value.cells, List.toList_toArray] at hst)
            | fail)
          go_ret
          exact ⟨rfl, hst.forget⟩
        · have q1 : 1 ≤ n := by omega
          have q2 : n ≤ 8 := by omega
          have q3 : n = 8 → (b.getD 0 0).toNat ≤ 127 := fun h => by omega
          have HQ := Lib.hid (show ∀ w, Calls Try.prog 11 #[.int .i64 (natE b : Int), .int .i64 (n : Int)] w fun e w' => ∃ A, e = .returned (.tuple #[.slice A n n, .nilIface]) ∧ St w w' [.row A n n 5 1 (bytesL b)] from fun w => by
            have hlen := Hl.out
            have h1 := natE_fits b (by omega) (fun h => q3 (by omega)) n (by omega)
            rw [List.take_of_length_le (by omega)] at h1
            have h2 := oput_any (natE b) n w q1 q2 h1 (fun _ => shr_zero _ _ (by rw [← hlen]; exact natE_lt b))
            have h3 := bigE_natE b
            rw [hlen] at h3
            rw [h3] at h2
            exact h2)
          clear hq
          go_enter Try.func5, Try.ntmps5
          go_wp2_with (first
            | (go_at_call_of 8 (Value.slice A n c); refine (hex_any b _ _ _ _ (hst.old (by decide) hx) (by omega)).mono ?_; rintro e Wh ⟨rfl, hnew⟩; replace hst := hst.keep hnew; clear hnew)
            | (go_at_call_of 8 (Value.slice g19 2 2); (try clear hnew); refine (hex_any [18, 52] _ _ _ _ (hst.sl 0 rfl) (by decide)).mono ?_; rintro e Wh ⟨rfl, hnew⟩; rw [HF.out]; replace hst := hst.keep hnew; clear hnew)
            | (go_at_call_of 9 (Value.string s); refine (HUs.out _).mono ?_; rintro e Wu ⟨A40, c40, rfl, hnew⟩; replace hst := hst.trans hnew; clear hnew; simp only [List.cons_append, List.nil_append] at hst)
            | (go_at_call 9; refine (HU.out _).mono ?_; rintro e Wu ⟨A26, c26, rfl, hnew⟩; replace hst := hst.trans hnew; clear hnew; simp only [List.cons_append, List.nil_append] at hst)
            | (go_at_call_of 8 (Value.slice A40 t c40); refine (hex_any (decL s.data.toList t) _ _ _ _ (hst.sl 0 rfl) (by omega)).mono ?_; rintro e Wh ⟨rfl, hnew⟩; rw [HBack.out]; replace hst := hst.keep hnew; clear hnew)
            | (go_at_call_of 10 (Value.slice A26 n c26); refine (sameB_any b b _ _ _ _ _ _ _ (by first | exact hst.sl 0 rfl | exact hst.sl 1 rfl) (hst.old (by decide) hx)).mono ?_; rw [HS1.out]; rintro e Ws ⟨rfl, hnew⟩; replace hst := hst.keep hnew; clear hnew)
            | (go_at_call_of 11 (Value.int .i64 N); refine (oput_no N S _ hN1 hN2 hS1 hS2 hp).mono ?_; unfold errV; rintro e Wp ⟨rfl, hnew⟩; replace hst := hst.keep hnew; clear hnew)
            | (go_at_call_of 12 (Value.slice A n c); refine (onum_any b _ _ _ _ (hst.old (by decide) hx) q1 q2 q3).mono ?_; rintro e Wn ⟨rfl, hnew⟩; replace hst := hst.keep hnew; clear hnew)
            | (go_at_call_of 11 (Value.int .i64 (n : Int)); refine (HQ.out _).mono ?_; rintro e Wq ⟨A88, rfl, hnew⟩; replace hst := hst.trans hnew; clear hnew; simp only [List.cons_append, List.nil_append] at hst)
            | (go_at_call 10; refine (sameB_any b b _ _ _ _ _ _ _ (hst.sl 0 rfl) (hst.old (by decide) hx)).mono ?_; rw [HS1.out]; rintro e Ws ⟨rfl, hnew⟩; replace hst := hst.keep hnew; clear hnew)
            | (refine L_buildS (d := some 19) rfl rfl rfl [_, _] (bs_2 ev_const ev_const) rfl Try.underlying30 el_uint8 rfl (by first | (simp [Value.cells]; done) | (simp [Value.cells, Dig.size]; done)) (by decide) (by decide) ?_; (try clear hnew); intro g19 W19 hnew; replace hst := hst.trans hnew; simp only [List.cons_append, List.nil_append] at hst; simp only [List.flatMap_cons, List.flatMap_nil, List.append_nil, Value.cells, List.toList_toArray] at hst)
            | fail)
          go_ret
          exact ⟨rfl, hst.forget⟩
      · obtain ⟨hsp, hpw⟩ : ∃ (kz : Nat × Nat), N = (kz.1 : Int) ∧ S = (kz.2 : Int) ∧ 1 ≤ kz.2 ∧ kz.2 ≤ 8 ∧ kz.1 < 256 ^ kz.2 := by
          unfold putNo at hp
          obtain ⟨k, rfl⟩ := Int.eq_ofNat_of_zero_le (show 0 ≤ N by omega)
          obtain ⟨z, rfl⟩ := Int.eq_ofNat_of_zero_le (show 0 ≤ S by omega)
          refine ⟨(k, z), rfl, rfl, by omega, by omega, ?_⟩
          by_cases hz : z < 8
          · refine lt_of_shr k z ?_
            have hc := shr_cell k z
            have h0 : ¬ 0 < (k : Int) / (2 : Int) ^ (8 * z) := fun h => hp (.inr (.inr (.inr ⟨by omega, by simpa using h⟩)))
            rw [hc] at h0
            exact Nat.eq_zero_of_not_pos (fun hpos => h0 (Int.ofNat_lt.2 hpos))
          · obtain rfl : z = 8 := by omega
            show k < 256 ^ 8
            omega
        obtain ⟨hk1, hz1, hz2, hz3, hlt⟩ := hpw
        obtain ⟨k, z⟩ := hsp
        simp only at hk1 hz1 hz2 hz3 hlt
        have HP := Lib.hid (show ∀ w, Calls Try.prog 11 #[.int .i64 N, .int .i64 S] w fun e w' => ∃ A, e = .returned (.tuple #[.slice A z z, .nilIface]) ∧ St w w' [.row A z z 5 1 (bytesL (bigE z k))] from fun w => by
          rw [hk1, hz1]
          exact oput_any k z w hz2 hz3 (by omega) (fun _ => shr_zero k z hlt))
        have HPn := Lib.hid (show ∀ (A : Option Addr) (w : World), SlR w A z z 1 (bytesL (bigE z k)) → Calls Try.prog 12 #[.slice A z z] w fun e w' => e = .returned (.tuple #[.int .i64 N, .nilIface]) ∧ St w w' [] from fun A w h => by
          have := onum_any (bigE z k) A z z w h hz2 hz3 (fun hz8 => by subst hz8; exact bigE_head k (by omega))
          rw [natE_bigE z k hlt, ← hk1] at this
          exact this)
        have hSz : ((z : Int) != S) = false := by rw [bne_eq_false_iff_eq]; omega
        have hNN : (N != N) = false := by simp
        clear hp hlt hk1 hz1
        by_cases hq : n < 1 ∨ 8 < n ∨ n = 8 ∧ 127 < (b.getD 0 0).toNat
        · go_enter Try.func5, Try.ntmps5
          go_wp2_with (first
            | (go_at_call_of 8 (Value.slice A n c); refine (hex_any b _ _ _ _ (hst.old (by decide) hx) (by omega)).mono ?_; rintro e Wh ⟨rfl, hnew⟩; replace hst := hst.keep hnew; clear hnew)
            | (go_at_call_of 8 (Value.slice g19 2 2); (try clear hnew); refine (hex_any [18, 52] _ _ _ _ (hst.sl 0 rfl) (by decide)).mono ?_; rintro e Wh ⟨rfl, hnew⟩; rw [HF.out]; replace hst := hst.keep hnew; clear hnew)
            | (go_at_call_of 9 (Value.string s); refine (HUs.out _).mono ?_; rintro e Wu ⟨A40, c40, rfl, hnew⟩; replace hst := hst.trans hnew; clear hnew; simp only [List.cons_append, List.nil_append] at hst)
            | (go_at_call 9; refine (HU.out _).mono ?_; rintro e Wu ⟨A26, c26, rfl, hnew⟩; replace hst := hst.trans hnew; clear hnew; simp only [List.cons_append, List.nil_append] at hst)
            | (go_at_call_of 8 (Value.slice A40 t c40); refine (hex_any (decL s.data.toList t) _ _ _ _ (hst.sl 0 rfl) (by omega)).mono ?_; rintro e Wh ⟨rfl, hnew⟩; rw [HBack.out]; replace hst := hst.keep hnew; clear hnew)
            | (go_at_call_of 10 (Value.slice A26 n c26); refine (sameB_any b b _ _ _ _ _ _ _ (by first | exact hst.sl 0 rfl | exact hst.sl 1 rfl) (hst.old (by decide) hx)).mono ?_; rw [HS1.out]; rintro e Ws ⟨rfl, hnew⟩; replace hst := hst.keep hnew; clear hnew)
            | (go_at_call_of 11 (Value.int .i64 N); refine (HP.out _).mono ?_; rintro e Wp ⟨A54, rfl, hnew⟩; replace hst := hst.trans hnew; clear hnew; simp only [List.cons_append, List.nil_append] at hst)
            | (go_at_call_of 12 (Value.slice A n c); refine (onum_no b _ _ _ _ (hst.old (by decide) hx) hq).mono ?_; unfold errV; rintro e Wn ⟨rfl, hnew⟩; replace hst := hst.keep hnew; clear hnew)
            | (go_at_call 12; refine (HPn.out _ _ (hst.sl 0 rfl)).mono ?_; rintro e Wn ⟨rfl, hnew⟩; replace hst := hst.keep hnew; clear hnew)
            | (refine L_buildS (d := some 19) rfl rfl rfl [_, _] (bs_2 ev_const ev_const) rfl Try.underlying30 el_uint8 rfl (by first | (simp [Value.cells]; done) | (simp [Value.cells, Dig.size]; done)) (by decide) (by decide) ?_; (try clear hnew); intro g19 W19 hnew; replace hst := hst.trans hnew; simp only [List.cons_append, List.nil_append] at hst; simp only [List.flatMap_cons, List.flatMap_nil, List.append_nil, Value.cells, List.toList_toArray] at hst)
            | fail)
          go_ret
          exact ⟨rfl, hst.forget⟩
        · have q1 : 1 ≤ n := by omega
          have q2 : n ≤ 8 := by omega
          have q3 : n = 8 → (b.getD 0 0).toNat ≤ 127 := fun h => by omega
          have HQ := Lib.hid (show ∀ w, Calls Try.prog 11 #[.int .i64 (natE b : Int), .int .i64 (n : Int)] w fun e w' => ∃ A, e = .returned (.tuple #[.slice A n n, .nilIface]) ∧ St w w' [.row A n n 5 1 (bytesL b)] from fun w => by
            have hlen := Hl.out
            have h1 := natE_fits b (by omega) (fun h => q3 (by omega)) n (by omega)
            rw [List.take_of_length_le (by omega)] at h1
            have h2 := oput_any (natE b) n w q1 q2 h1 (fun _ => shr_zero _ _ (by rw [← hlen]; exact natE_lt b))
            have h3 := bigE_natE b
            rw [hlen] at h3
            rw [h3] at h2
            exact h2)
          clear hq
          go_enter Try.func5, Try.ntmps5
          go_wp2_with (first
            | (go_at_call_of 8 (Value.slice A n c); refine (hex_any b _ _ _ _ (hst.old (by decide) hx) (by omega)).mono ?_; rintro e Wh ⟨rfl, hnew⟩; replace hst := hst.keep hnew; clear hnew)
            | (go_at_call_of 8 (Value.slice g19 2 2); (try clear hnew); refine (hex_any [18, 52] _ _ _ _ (hst.sl 0 rfl) (by decide)).mono ?_; rintro e Wh ⟨rfl, hnew⟩; rw [HF.out]; replace hst := hst.keep hnew; clear hnew)
            | (go_at_call_of 9 (Value.string s); refine (HUs.out _).mono ?_; rintro e Wu ⟨A40, c40, rfl, hnew⟩; replace hst := hst.trans hnew; clear hnew; simp only [List.cons_append, List.nil_append] at hst)
            | (go_at_call 9; refine (HU.out _).mono ?_; rintro e Wu ⟨A26, c26, rfl, hnew⟩; replace hst := hst.trans hnew; clear hnew; simp only [List.cons_append, List.nil_append] at hst)
            | (go_at_call_of 8 (Value.slice A40 t c40); refine (hex_any (decL s.data.toList t) _ _ _ _ (hst.sl 0 rfl) (by omega)).mono ?_; rintro e Wh ⟨rfl, hnew⟩; rw [HBack.out]; replace hst := hst.keep hnew; clear hnew)
            | (go_at_call_of 10 (Value.slice A26 n c26); refine (sameB_any b b _ _ _ _ _ _ _ (by first | exact hst.sl 0 rfl | exact hst.sl 1 rfl) (hst.old (by decide) hx)).mono ?_; rw [HS1.out]; rintro e Ws ⟨rfl, hnew⟩; replace hst := hst.keep hnew; clear hnew)
            | (go_at_call_of 11 (Value.int .i64 N); refine (HP.out _).mono ?_; rintro e Wp ⟨A54, rfl, hnew⟩; replace hst := hst.trans hnew; clear hnew; simp only [List.cons_append, List.nil_append] at hst)
            | (go_at_call_of 12 (Value.slice A n c); refine (onum_any b _ _ _ _ (hst.old (by decide) hx) q1 q2 q3).mono ?_; rintro e Wn ⟨rfl, hnew⟩; replace hst := hst.keep hnew; clear hnew)
            | (go_at_call_of 11 (Value.int .i64 (n : Int)); refine (HQ.out _).mono ?_; rintro e Wq ⟨A88, rfl, hnew⟩; replace hst := hst.trans hnew; clear hnew; simp only [List.cons_append, List.nil_append] at hst)
            | (go_at_call 10; refine (sameB_any b b _ _ _ _ _ _ _ (hst.sl 0 rfl) (hst.old (by decide) hx)).mono ?_; rw [HS1.out]; rintro e Ws ⟨rfl, hnew⟩; replace hst := hst.keep hnew; clear hnew)
            | (go_at_call 12; refine (HPn.out _ _ (hst.sl 0 rfl)).mono ?_; rintro e Wn ⟨rfl, hnew⟩; replace hst := hst.keep hnew; clear hnew)
            | (refine L_buildS (d := some 19) rfl rfl rfl [_, _] (bs_2 ev_const ev_const) rfl Try.underlying30 el_uint8 rfl (by first | (simp [Value.cells]; done) | (simp [Value.cells, Dig.size]; done)) (by decide) (by decide) ?_; (try clear hnew); intro g19 W19 hnew; replace hst := hst.trans hnew; simp only [List.cons_append, List.nil_append] at hst; simp only [List.flatMap_cons, List.flatMap_nil, List.append_nil, Value.cells, List.toList_toArray] at hst)
            | fail)
          go_ret
          exact ⟨rfl, hst.forget⟩
end Go.Proofs.Ytnofmbajgjmdfaa
