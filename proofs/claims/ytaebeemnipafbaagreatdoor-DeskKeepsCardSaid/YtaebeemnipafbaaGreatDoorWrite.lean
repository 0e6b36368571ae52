/-
  Proved here: the contract of a hasher's Write: it holds its bytes and those that are written, in whatever pieces.
-/
import Derived.Test.YtaebeemnipafbaaGreatDoorEl
import Derived.Test.YtaebeemnipafbaaGreatDoorNew
import Derived.Test.YtaebeemnipafbaaGreatDoorLaw
import Derived.Deep.LoopGhost
import Derived.BigQuiet
set_option maxRecDepth 20000
set_option linter.unusedSimpArgs false
set_option linter.unusedVariables false
namespace Go.Proofs.YtaebeemnipafbaaGreatDoor
open Go.RowKit

/-! ## the hasher's state, by all bytes that it took -/
def fullOf (b : List UInt8) : Nat := b.length / 64
def stOf (b : List UInt8) : S8 := blocksS begS b (fullOf b)
def restOf (b : List UInt8) : List UInt8 := b.drop (64 * fullOf b)

theorem sched_take (b : List UInt8) : ∀ n, sched b n = sched (b.take 64) n
  | 0 => rfl
  | n + 1 => by
    have ih := sched_take b n
    have hw : ∀ k, k < 16 → word b k = word (b.take 64) k := fun k hk => by
      have hg : ∀ j, j < 64 → b.getD j 0 = (b.take 64).getD j 0 := fun j hj => by simp [hj]
      unfold word
      rw [hg _ (by omega), hg _ (by omega), hg _ (by omega), hg _ (by omega)]
    unfold sched
    split
    · rw [ih, hw n ‹_›]
    · rw [ih]
theorem rounds_take (b : List UInt8) (s : S8) : ∀ n, rounds b s n = rounds (b.take 64) s n
  | 0 => rfl
  | n + 1 => by unfold rounds; rw [rounds_take b s n, ← sched_take b 64]
theorem blockS_take (s : S8) (b : List UInt8) : blockS s b = blockS s (b.take 64) := by
  unfold blockS; rw [rounds_take]
theorem blocksS_append (s : S8) (b c : List UInt8) : ∀ n, 64 * n ≤ b.length → blocksS s (b ++ c) n = blocksS s b n
  | 0, _ => rfl
  | n + 1, h => by
    unfold blocksS
    rw [blocksS_append s b c n (by omega), blockS_take, blockS_take _ (b.drop (64 * n)), List.drop_append_of_le_length (by omega), List.take_append_of_le_length (by simp; omega)]

/-- between the calls of block: k blocks are taken -/
structure Mid (b : List UInt8) (k : Nat) (s : S8) (r : List UInt8) : Prop where
  le : 64 * k ≤ b.length
  st : s = blocksS begS b k
  rest : r = b.drop (64 * k)
theorem Mid.len {b : List UInt8} {k : Nat} {s : S8} {r : List UInt8} (h : Mid b k s r) : r.length = b.length - 64 * k := by rw [h.rest, List.length_drop]
theorem Mid.start (b x : List UInt8) : Mid (b ++ x) (fullOf b) (stOf b) (restOf b ++ x) := by
  have h : 64 * fullOf b ≤ b.length := by unfold fullOf; omega
  refine ⟨by rw [List.length_append]; omega, ?_, ?_⟩
  · unfold stOf
    rw [blocksS_append _ _ _ _ h]
  · unfold restOf
    rw [List.drop_append_of_le_length h]
theorem Mid.next {b : List UInt8} {k : Nat} {s : S8} {r : List UInt8} (h : Mid b k s r) (hr : 64 ≤ r.length) : Mid b (k + 1) (blockS s r) (r.drop 64) := by
  have := h.len
  refine ⟨by omega, ?_, ?_⟩
  · rw [blocksS, ← h.st, h.rest]
  · rw [h.rest, List.drop_drop, Nat.mul_add]
theorem Mid.stop {b : List UInt8} {k : Nat} {s : S8} {r : List UInt8} (h : Mid b k s r) (hr : r.length < 64) : s = stOf b ∧ r = restOf b := by
  have h1 := h.len
  have h2 := h.le
  have h3 : k = fullOf b := by unfold fullOf; omega
  subst h3
  exact ⟨h.st, h.rest⟩

theorem hArr_8 {s : S8} {A : Option Addr} {n c : Nat} {m : Int} : (hArr s A n c m)[8]? = some (.slice A n c) := rfl
theorem hArr_9 {s : S8} {A : Option Addr} {n c : Nat} {m : Int} : (hArr s A n c m)[9]? = some (.int .i64 m) := rfl
theorem hArr_s8 (s : S8) (A B : Option Addr) (n c n' c' : Nat) (m : Int) : (hArr s A n c m).setIfInBounds 8 (.slice B n' c') = hArr s B n' c' m := rfl
theorem hArr_s9 (s : S8) (A : Option Addr) (n c : Nat) (m m' : Int) : (hArr s A n c m).setIfInBounds 9 (.int .i64 m') = hArr s A n c m' := rfl
theorem hArr_put (s s' : S8) (A : Option Addr) (n c : Nat) (m : Int) : putAt (hArr s A n c m) 0 s'.arr.toList = hArr s' A n c m := rfl
theorem hArr_range {W : World} {g t : Nat} {s : S8} {A : Option Addr} {n c : Nat} {m : Int} {fr : Nat × Nat} (h : W.heap[g]? = some (.cells (hArr s A n c m) t fr)) : W.rangeAt g 0 s.arr.toList :=
  rangeAt_of_cells h (fun j v hv => by
    have hj : j < 8 := by
      have := (List.getElem?_eq_some_iff.1 hv).1
      simpa [S8.arr] using this
    rcases j with _ | _ | _ | _ | _ | _ | _ | _ | j
    all_goals (first | exact hv | omega))
theorem el_sha_state : ElemIs Tryz.prog 198 (.agg (zeros32 8).toArray) 8 32 := by unfold ElemIs; kernel_rfl

/-- the hasher at g has taken the bytes b -/
def Hs (g : Nat) (b : List UInt8) (A : Option Addr) (n c : Nat) : List Res :=
  [.blk g 201 (hArr (stOf b) A n c b.length), .row A n c 5 1 (bytesL (restOf b))]

theorem restOf_lt (b : List UInt8) : (restOf b).length < 64 := by
  unfold restOf fullOf; rw [List.length_drop]; omega

set_option maxHeartbeats 1000000 in
theorem write_any (b x : List UInt8) (g n c : Nat) (A B : Option Addr) (m k : Nat) (w0 w : World) (L : List Res) (hT : Tb w0) (hst : St w0 w (Hs g b A n c ++ L)) (hx : Src w0 L B m k 1 (bytesL x)) (hl : b.length + x.length ≤ 4611686018427387904) (hm0 : m ≤ 140737488355000) :
    Calls Tryz.prog 101 #[.pointer (some ⟨g, 0, none⟩), .slice B m k] w fun e w' => e = .returned (.tuple #[]) ∧ ∃ A' n' c', St w0 w' (Hs g (b ++ x) A' n' c' ++ L) := by
  simp only [Hs, List.cons_append, List.nil_append] at hst
  have hm : x.length = m := by have := (hx _ hst.tail.tail).1; rwa [length_bytesL, Nat.mul_one] at this
  have hn : (restOf b).length = n := by
    have := (hst.sl 1 rfl).1
    rwa [length_bytesL, Nat.mul_one] at this
  have hlt := restOf_lt b
  have hmid := Mid.start b x
  have hfin : ((b.length : Nat) : Int) + (m : Int) = (((b ++ x).length : Nat) : Int) := by rw [List.length_append, hm]; omega
  have hlen : (b ++ x).length ≤ 4611686018427387904 := by rw [List.length_append]; omega
  have hrl : (restOf b ++ x).length = n + m := by rw [List.length_append, hn, hm]
  generalize restOf b = r0 at *
  generalize stOf b = s0 at *
  generalize fullOf b = k0 at *
  generalize b.length = bl at *
  have HT := Lib.hid hT
  have Hfin := Lib.hid hfin
  have Hrl := Lib.hid hrl
  clear hfin hrl hT
  have hn64 : n < 64 := by omega
  have hblm : bl + m ≤ 4611686018427387904 := by omega
  clear hm hn hl hlt
  go_enter Tryz.func101, Tryz.ntmps101
  go_wp2_with (first | (refine L_load1 (d := some 7) rfl rfl rfl (by rfl) Tryz.underlying3 rfl (by (exact cell_of (hst.get 0 rfl) hArr_9)) ?_) | (refine wpl_at (.store 3 (.tmp 12) (.tmp 10)) rfl ?_; (refine L_store1 rfl rfl hst rfl (by rfl) (ev_tmp rfl) rfl el_int 0 rfl (by (exact of_decide_eq_true rfl)) ?_; clear hst; intro WS9 hst; simp only [List.set_cons_zero, List.set_cons_succ, hArr_s9, hArr_s8] at hst)) | (refine L_load1 (d := some 17) rfl rfl rfl (by rfl) Tryz.underlying22 rfl (by (exact cell_of (hst.get 0 rfl) hArr_8)) ?_) | (refine L_appendO (d := some 19) rfl rfl hst rfl (by rfl) (by rfl) Tryz.underlying22 el_uint8 rfl (by decide) (by decide) 1 rfl (by (rfl)) (by (exact hx _ hst.tail.tail)) (by (exact oneCell_bytes)) (by omega) ?_; clear hst; intro A19 c19 W19 hst; simp only [List.set_cons_zero, List.set_cons_succ, List.nil_append, Nat.zero_add] at hst) | (refine wpl_at (.store 22 (.tmp 21) (.tmp 19)) rfl ?_; (refine L_store1 rfl rfl hst rfl (by rfl) (ev_tmp rfl) rfl el_S_uint8 0 rfl (by (exact of_decide_eq_true rfl)) ?_; clear hst; intro WS9 hst; simp only [List.set_cons_zero, List.set_cons_succ, hArr_s9, hArr_s8] at hst)))
  go_loopg [] (n + m) (fun gk wr => ∃ (kk : Nat) (s : S8) (r : List UInt8) (A' : Option Addr) (c' : Nat), Hid (Mid (b ++ x) kk s r ∧ r.length = gk) ∧ St w0 wr (.blk g 201 (hArr s A' gk c' (bl + m)) :: .row A' gk c' 5 1 (bytesL r) :: L))
  case atStart =>
    rw [← bytesL_append] at hst
    exact ⟨_, _, _, _, _, Lib.hid ⟨hmid, Hrl.out⟩, hst⟩
  case round =>
    clear hst hmid
    obtain ⟨kk, s, r, A', c', HM, hst⟩ := hrel
    by_cases h64 : 64 ≤ gk
    · have h64' : (64 : Int) ≤ (gk : Int) := by omega
      have hc' : gk ≤ c' := (hst.sl 1 rfl).2.1
      go_wp2_with ((refine L_load1 (d := some 25) rfl rfl rfl (by rfl) Tryz.underlying22 rfl (by (exact cell_of (hst.get 0 rfl) hArr_8)) ?_))
      refine wp_region_idx [(0, 0), (1, 0), (2, 0), (3, 0), (4, 0), (5, 2), (6, 2), (7, 2), (8, 2), (9, 2), (10, 2), (11, 2), (12, 1)] (by kernel_rfl) (by kernel_rfl) ?_
      replace hst := hst.drew
      refine idx_q rfl rfl ?_; go_wp2_with fail
      refine idx_q rfl rfl ?_; go_wp2_with fail
      refine idx_q rfl rfl ?_; go_wp2_with fail
      refine idx_qf rfl rfl (by kernel_rfl) ?_; go_wp2_with fail
      refine idx_q rfl rfl ?_; go_wp2_with (((refine L_loadM (d := some 32) rfl rfl rfl (by rfl) Tryz.underlying198 rfl el_sha_state (by (exact hArr_range (hst.get 0 rfl))) (by (rfl)) ?_)))
      refine idx_g rfl ?_; go_wp2_with fail; refine ⟨by (exact Below.refl _ _), ?_⟩
      refine idx_g rfl ?_; go_wp2_with fail; refine ⟨by (exact Below.refl _ _), ?_⟩
      refine idx_g rfl ?_; go_wp2_with fail; refine ⟨by (exact Below.refl _ _), ?_⟩
      refine idx_g rfl ?_; go_wp2_with ((refine L_load1 (d := some 36) rfl rfl rfl (by rfl) Tryz.underlying22 rfl (by (exact cell_of (hst.get 0 rfl) hArr_8)) ?_)); refine ⟨by (exact Below.refl _ _), ?_⟩
      refine idx_g rfl ?_; go_wp2_with ((go_at_call 128; with_reducible refine (block_any _ _ _ _ _ _ (HT.out.of hst) (hst.sl 1 rfl) h64).mono ?_; rintro e W37 ⟨rfl, hnew⟩; replace hst := hst.keep hnew)); refine ⟨by (exact hnew.below), ?_⟩
      refine idx_g rfl ?_; go_wp2_with fail; refine ⟨by (exact Below.refl _ _), ?_⟩
      refine idx_g rfl ?_; go_wp2_with fail; refine ⟨by (exact Below.refl _ _), ?_⟩
      refine idx_e rfl ?_; go_wp2_with ((refine wpl_at (.store 198 (.tmp 39) (.tmp 37)) rfl ?_; (refine L_storeM rfl rfl hst rfl (by rfl) (ev_tmp rfl) (by (exact S8.one _)) el_sha_state (by (rfl)) 0 rfl (by (exact of_decide_eq_true rfl)) ?_; clear hst; intro WS12 hst; simp only [List.set_cons_zero, List.set_cons_succ, hArr_put] at hst)))
      refine idx_nil ?_
      clear hnew
      go_wp2_with (first | (refine L_load1 (d := some 44) rfl rfl rfl (by rfl) Tryz.underlying22 rfl (by (exact cell_of (hst.get 0 rfl) hArr_8)) ?_) | ((refine L_cutO (d := some 45) rfl rfl hst rfl (by rfl) Tryz.underlying22 el_uint8 1 rfl (by (rfl)) 64 _ _ (Or.inr ⟨_, _, rfl, rfl⟩) (Or.inl ⟨rfl, rfl, rfl⟩) (Or.inl ⟨rfl, rfl⟩) (by omega) (by omega) (by omega) (by omega) ?_; clear hst; intro A45 c45 hst; simp only [List.set_cons_zero, List.set_cons_succ, hArr_s8, bytesL_cut] at hst)) | (refine wpl_at (.store 22 (.tmp 47) (.tmp 45)) rfl ?_; (refine L_store1 rfl rfl hst rfl (by rfl) (ev_tmp rfl) rfl el_S_uint8 0 rfl (by (exact of_decide_eq_true rfl)) ?_; clear hst; intro WS8 hst; simp only [List.set_cons_zero, List.set_cons_succ, hArr_s8, bytesL_cut] at hst)))
      go_roundg (gk - 64)
      case measure => omega
      case rel =>
        obtain ⟨hM, hl⟩ := HM.out
        refine ⟨kk + 1, blockS s r, r.drop 64, A45, c45, Lib.hid ⟨hM.next (by omega), by rw [List.length_drop, hl]⟩, ?_⟩
        rw [List.take_of_length_le (by rw [List.length_drop, hl]; exact Nat.le_refl _)] at hst
        exact hst
    · have h64' : (gk : Int) < 64 := by omega
      go_wp2_with ((refine L_load1 (d := some 25) rfl rfl rfl (by rfl) Tryz.underlying22 rfl (by (exact cell_of (hst.get 0 rfl) hArr_8)) ?_))
      go_end0
      obtain ⟨hM, hl⟩ := HM.out
      obtain ⟨rfl, rfl⟩ := hM.stop (by omega)
      refine ⟨rfl, A', gk, c', ?_⟩
      rw [Hfin.out] at hst
      exact hst
end Go.Proofs.YtaebeemnipafbaaGreatDoor
