/-
  Proved here: the contract of a hasher's Write: it holds its bytes and those that are written, in whatever pieces.
-/
import Derived.Test.YtaebeemnipafbaaGreatDoorEl
import Derived.Test.YtaebeemnipafbaaGreatDoorNew
import Derived.Test.YtaebeemnipafbaaGreatDoorLaw
import Derived.Deep.LoopGhost
import Derived.BigQuiet
import Derived.Test.YtaebeemnipafbaaGreatDoorSq
set_option linter.unusedSimpArgs false
set_option linter.unusedVariables false
set_option maxRecDepth 100000
set_option maxHeartbeats 200000000
namespace Go.Proofs.YtaebeemnipafbaaGreatDoor
open Go.RowKit
def Mt (b : List UInt8) : Nat := b.length / 64
def stOf (b : List UInt8) : S8 := KW begS b (Mt b)
def KP (b : List UInt8) : List UInt8 := b.drop (64 * Mt b)
theorem sched_take (b : List UInt8) : ∀ n, JD b n = JD (b.take 64) n
 | 0 => rfl
 | n + 1 => by
  have ih := sched_take b n
  have hw : ∀ k, k < 16 → word b k = word (b.take 64) k := fun k hk => by
   have hg : ∀ j, j < 64 → b.getD j 0 = (b.take 64).getD j 0 := fun j hj => by simp [hj]
   unfold word
   rw [hg _ (by omega), hg _ (by omega), hg _ (by omega), hg _ (by omega)]
  unfold JD
  split
  ·rw [ih, hw n ‹_›]
  ·rw [ih]
theorem rounds_take (b : List UInt8) (s : S8) : ∀ n, rounds b s n = rounds (b.take 64) s n
 | 0 => rfl
 | n + 1 => by unfold rounds; rw [rounds_take b s n, ← sched_take b 64]
theorem blockS_take (s : S8) (b : List UInt8) : Nc s b = Nc s (b.take 64) := by
 unfold Nc; rw [rounds_take]
theorem Px (s : S8) (b c : List UInt8) : ∀ n, 64 * n ≤ b.length → KW s (b ++ c) n = KW s b n
 | 0, _ => rfl
 | n + 1, h => by
  unfold KW
  rw [Px s b c n (by omega), blockS_take, blockS_take _ (b.drop (64 * n)), List.drop_append_of_le_length (by omega), List.take_append_of_le_length (by simp; omega)]
structure Mid (b : List UInt8) (k : Nat) (s : S8) (r : List UInt8) : Prop where
 le : 64 * k ≤ b.length
 st : s = KW begS b k
 rest : r = b.drop (64 * k)
theorem Mid.len {b : List UInt8} {k : Nat} {s : S8} {r : List UInt8} (h : Mid b k s r) : r.length = b.length - 64 * k := by rw [h.rest, List.length_drop]
theorem Mid.start (b x : List UInt8) : Mid (b ++ x) (Mt b) (stOf b) (KP b ++ x) := by
 have h : 64 * Mt b ≤ b.length := by unfold Mt; omega
 refine ⟨by rw [List.length_append]; omega, ?_, ?_⟩
 ·unfold stOf
  rw [Px _ _ _ _ h]
 ·unfold KP
  rw [List.drop_append_of_le_length h]
theorem Mid.next {b : List UInt8} {k : Nat} {s : S8} {r : List UInt8} (h : Mid b k s r) (hr : 64 ≤ r.length) : Mid b (k + 1) (Nc s r) (r.drop 64) := by
 have := h.len
 refine ⟨by omega, ?_, ?_⟩
 ·rw [KW, ← h.st, h.rest]
 ·rw [h.rest, List.drop_drop, Nat.mul_add]
theorem Mid.stop {b : List UInt8} {k : Nat} {s : S8} {r : List UInt8} (h : Mid b k s r) (hr : r.length < 64) : s = stOf b ∧ r = KP b := by
 have h1 := h.len
 have h2 := h.le
 have h3 : k = Mt b := by unfold Mt; omega
 subst h3
 exact ⟨h.st, h.rest⟩
theorem hArr_8 {s : S8} {A : Option Addr} {n c : Nat} {m : Int} : (P3 s A n c m)[8]? = some (.slice A n c) := rfl
theorem hArr_9 {s : S8} {A : Option Addr} {n c : Nat} {m : Int} : (P3 s A n c m)[9]? = some (.int .i64 m) := rfl
theorem hArr_s8 (s : S8) (A B : Option Addr) (n c n' c' : Nat) (m : Int) : (P3 s A n c m).setIfInBounds 8 (.slice B n' c') = P3 s B n' c' m := rfl
theorem hArr_s9 (s : S8) (A : Option Addr) (n c : Nat) (m m' : Int) : (P3 s A n c m).setIfInBounds 9 (.int .i64 m') = P3 s A n c m' := rfl
theorem hArr_put (s s' : S8) (A : Option Addr) (n c : Nat) (m : Int) : Jg (P3 s A n c m) 0 s'.arr.toList = P3 s' A n c m := rfl
theorem hArr_range {W : World} {g t : Nat} {s : S8} {A : Option Addr} {n c : Nat} {m : Int} {fr : Nat × Nat} (h : W.heap[g]? = some (.cells (P3 s A n c m) t fr)) : W.rangeAt g 0 s.arr.toList :=
 Jk h (fun j v hv => by
  have hj : j < 8 := by
   have := (List.getElem?_eq_some_iff.1 hv).1
   simpa [S8.arr] using this
  rcases j with _ | _ | _ | _ | _ | _ | _ | _ | j
  all_goals (first | exact hv | omega))
theorem KJ : GW Tryz.prog 198 (.agg (KX 8).toArray) 8 32 := by unfold GW; kernel_rfl
def Hs (g : Nat) (b : List UInt8) (A : Option Addr) (n c : Nat) : List Res :=
 [.blk g 201 (P3 (stOf b) A n c b.length), .row A n c 5 1 (GK (KP b))]
theorem restOf_lt (b : List UInt8) : (KP b).length < 64 := by
 unfold KP Mt; rw [List.length_drop]; omega
theorem write_any (b x : List UInt8) (g n c : Nat) (A B : Option Addr) (m k : Nat) (w0 w : World) (L : List Res) (hT : Tb w0) (Ga : St w0 w (Hs g b A n c ++ L)) (hx : Src w0 L B m k 1 (GK x)) (hl : b.length + x.length ≤ 4611686018427387904) (hm0 : m ≤ 140737488355000) :
  Calls Tryz.prog 101 #[.pointer (some ⟨g, 0, none⟩), .slice B m k] w fun e w' => e = .returned (.tuple #[]) ∧ ∃ A' n' c', St w0 w' (Hs g (b ++ x) A' n' c' ++ L) := by
 simp only [Hs, Gc, Gd] at Ga
 have hm : x.length = m := by have := (hx _ Ga.tail.tail).1; rwa [G7, Nat.mul_one] at this
 have hn : (KP b).length = n := by
  have := (Ga.sl 1 rfl).1
  rwa [G7, Nat.mul_one] at this
 have hlt := restOf_lt b
 have hmid := Mid.start b x
 have hfin : ((b.length : Nat) : Int) + (m : Int) = (((b ++ x).length : Nat) : Int) := by rw [List.length_append, hm]; omega
 have hlen : (b ++ x).length ≤ 4611686018427387904 := by rw [List.length_append]; omega
 have hrl : (KP b ++ x).length = n + m := by rw [List.length_append, hn, hm]
 generalize KP b = r0 at *
 generalize stOf b = s0 at *
 generalize Mt b = k0 at *
 generalize b.length = bl at *
 have HT := Gg hT
 have Hfin := Gg hfin
 have Hrl := Gg hrl
 clear hfin hrl hT
 have hn64 : n < 64 := by omega
 have hblm : bl + m ≤ 4611686018427387904 := by omega
 clear hm hn hl hlt
 go_enter Tryz.func101, Tryz.ntmps101
 go_wp2_with (first | (refine Gj 7 rfl (by rfl) uz3 rfl (Gy (Ga.get 0 rfl) hArr_9) ?_) | ((refine Gt 12 10 Ga rfl (by rfl) (Gw rfl) rfl Jo 0 rfl (of_decide_eq_true rfl) ?_; clear Ga; intro WS9 Ga; simp only [Ge, Gf, hArr_s9, hArr_s8] at Ga)) | (refine Gj 17 rfl (by rfl) uz22 rfl (Gy (Ga.get 0 rfl) hArr_8) ?_) | (refine GY (d := some 19) rfl rfl Ga rfl (by rfl) (by rfl) uz22 GF rfl (by decide) (by decide) 1 rfl (by rfl) (hx _ Ga.tail.tail) (GX) (by omega) ?_; clear Ga; intro A19 c19 W19 Ga; simp only [Ge, Gf, List.nil_append, Nat.zero_add] at Ga) | ((refine Gt 21 19 Ga rfl (by rfl) (Gw rfl) rfl K6 0 rfl (of_decide_eq_true rfl) ?_; clear Ga; intro WS9 Ga; simp only [Ge, Gf, hArr_s9, hArr_s8] at Ga)))
 go_loopg [] (n + m) (fun gk wr => ∃ (kk : Nat) (s : S8) (r : List UInt8) (A' : Option Addr) (c' : Nat), Hid (Mid (b ++ x) kk s r ∧ r.length = gk) ∧ St w0 wr (.blk g 201 (P3 s A' gk c' (bl + m)) :: .row A' gk c' 5 1 (GK r) :: L))
 case atStart =>
  rw [← Hj] at Ga
  exact ⟨_, _, _, _, _, Lib.hid ⟨hmid, Hrl.out⟩, Ga⟩
 case round =>
  clear Ga hmid
  obtain ⟨kk, s, r, A', c', HM, Ga⟩ := hrel
  by_cases h64 : 64 ≤ gk
  ·have h64' : (64 : Int) ≤ (gk : Int) := by omega
   have hc' : gk ≤ c' := (Ga.sl 1 rfl).2.1
   go_wp2_with (refine Gj 25 rfl (by rfl) uz22 rfl (Gy (Ga.get 0 rfl) hArr_8) ?_)
   refine GO [(0, 0), (1, 0), (2, 0), (3, 0), (4, 0), (5, 2), (6, 2), (7, 2), (8, 2), (9, 2), (10, 2), (11, 2), (12, 1)] (by kernel_rfl) (by kernel_rfl) ?_
   replace Ga := Ga.drew
   refine GG rfl rfl ?_; go_wp2_with fail
   refine GG rfl rfl ?_; go_wp2_with fail
   refine GG rfl rfl ?_; go_wp2_with fail
   refine H8 rfl rfl (by kernel_rfl) ?_; go_wp2_with fail
   refine GG rfl rfl ?_; go_wp2_with ((refine Gn 32 rfl (by rfl) uz198 rfl KJ (hArr_range (Ga.get 0 rfl)) (by rfl) ?_))
   refine GA rfl ?_; go_wp2_with fail; refine Gh ?_
   refine GA rfl ?_; go_wp2_with fail; refine Gh ?_
   refine GA rfl ?_; go_wp2_with fail; refine Gh ?_
   refine GA rfl ?_; go_wp2_with (refine Gj 36 rfl (by rfl) uz22 rfl (Gy (Ga.get 0 rfl) hArr_8) ?_); refine Gh ?_
   refine GA rfl ?_; go_wp2_with ((go_at_call 128; with_reducible refine (block_any _ _ _ _ _ _ (HT.out.of Ga) (Ga.sl 1 rfl) h64).mono ?_; rintro e W37 ⟨rfl, Gb⟩; replace Ga := Ga.keep Gb)); refine Gi Gb ?_
   refine GA rfl ?_; go_wp2_with fail; refine Gh ?_
   refine GA rfl ?_; go_wp2_with fail; refine Gh ?_
   refine J6 rfl ?_; go_wp2_with ((refine Gs 39 37 Ga rfl (by rfl) (Gw rfl) (S8.one _) KJ (by rfl) 0 rfl (of_decide_eq_true rfl) ?_; clear Ga; intro WS12 Ga; simp only [Ge, Gf, hArr_put] at Ga))
   refine G5 ?_
   clear Gb
   go_wp2_with (first | (refine Gj 44 rfl (by rfl) uz22 rfl (Gy (Ga.get 0 rfl) hArr_8) ?_) | (refine L_cutO (d := some 45) rfl rfl Ga rfl (by rfl) uz22 GF 1 rfl (by rfl) 64 _ _ (Or.inr ⟨_, _, rfl, rfl⟩) (Or.inl ⟨rfl, rfl, rfl⟩) (Or.inl ⟨rfl, rfl⟩) (by omega) (by omega) (by omega) (by omega) ?_; clear Ga; intro A45 c45 Ga; simp only [Ge, Gf, hArr_s8, Nu] at Ga) | ((refine Gt 47 45 Ga rfl (by rfl) (Gw rfl) rfl K6 0 rfl (of_decide_eq_true rfl) ?_; clear Ga; intro WS8 Ga; simp only [Ge, Gf, hArr_s8, Nu] at Ga)))
   go_roundg (gk - 64)
   case measure => omega
   case rel =>
    obtain ⟨hM, hl⟩ := HM.out
    refine ⟨kk + 1, Nc s r, r.drop 64, A45, c45, Lib.hid ⟨hM.next (by omega), by rw [List.length_drop, hl]⟩, ?_⟩
    rw [List.take_of_length_le (by rw [List.length_drop, hl]; exact Nat.le_refl _)] at Ga
    exact Ga
  ·have h64' : (gk : Int) < 64 := by omega
   go_wp2_with (refine Gj 25 rfl (by rfl) uz22 rfl (Gy (Ga.get 0 rfl) hArr_8) ?_)
   go_end0
   obtain ⟨hM, hl⟩ := HM.out
   obtain ⟨rfl, rfl⟩ := hM.stop (by omega)
   refine ⟨rfl, A', gk, c', ?_⟩
   rw [Hfin.out] at Ga
   exact Ga
end Go.Proofs.YtaebeemnipafbaaGreatDoor
