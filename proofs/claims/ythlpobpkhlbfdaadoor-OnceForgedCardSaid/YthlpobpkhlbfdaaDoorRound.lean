/-
  Proved here: a statement in a round of a range over a function may be walked by the laws of plain walks; what a call owns abides such a loop's book-keeping. No condition on any program.
-/
import Derived.Test.YthlpobpkhlbfdaaDoorDrawT
import Derived.RangeFuncNested
import Derived.RangeFuncCalls
import Derived.RangeFuncWrites
import Derived.OrdersIn
set_option maxRecDepth 20000
set_option linter.unusedSimpArgs false
set_option linter.unusedVariables false
namespace Go.Proofs.YthlpobpkhlbfdaaDoor
open Go.RowKit

section
variable {P : Program} {r n : Nat} {ops : Array Oper} {Q : Exit → Act → World → Prop} {md : Region.Mode}

theorem rows_in {row : String} {args : Array Value} {w : World} {R : Value → World → Prop} (h : Rows P row args w R) : RowsIn (Fence.wide.inRound r) n P row args w R := fun c cs _ => by
  obtain ⟨v, w', hr, hs⟩ := h c cs
  exact ⟨v, w', hr, (stepsIn_wide (P := P)).2 hs⟩
theorem upon_in {o : Oper} {a : Act} {next next' : Act → World → Prop} (hk : ∀ a w, next a w → next' a w) {res : Result Next} (h : o.upon P a next Q res) : o.uponIn (Fence.wide.inRound r) n P a next' Q res := by
  cases res with
  | ok nx w' =>
    cases nx with
    | value v => exact hk _ _ h
    | skip => exact hk _ _ h
    | defer d => exact hk _ _ h
    | enter f args =>
      refine ⟨fun hd => (by simp [Fence.wide] at hd), CallsIn.inRound r (callsIn_wide.2 (Calls.mono h fun e w'' he => ?_))⟩
      cases e with
      | returned v => exact hk _ _ he
      | panicked c => exact he
      | outgrown => exact he
    | row row args => exact ⟨fun hd => (by simp [Fence.wide] at hd), rows_in (Rows.mono h fun v w'' he => hk _ _ he)⟩
    | _ => exact (h : False).elim
  | halt x w' =>
    cases x with
    | panic v => exact h
    | _ => exact (h : False).elim
/-- no statement that defers -/
def noDefer (o : Oper) : Bool := match o.op with
  | .defer _ => false
  | _ => true
theorem wpOper_in {o : Oper} (hc : noDefer o = true) {a : Act} {w : World} {next next' : Act → World → Prop} (hk : ∀ a w, next a w → next' a w) (h : o.wp P a w next Q) : o.wpIn (Fence.wide.inRound r) n P a w next' Q := by
  refine ⟨fun _ _ => trivial, ?_⟩
  rw [Oper.semAt_eq _ _ _ (fun c e => by simp [noDefer, e] at hc)]
  exact upon_in hk h
theorem wpOp_in (hall : ops.all noDefer = true) (hQ : ¬ LetsOut Q) {i : Nat} {K K' : Act → World → Prop} (hk : ∀ a w, K a w → K' a w) {a : Act} {w : World} (h : wpOp P ops Q i K a w) : wpOpIn (Fence.wide.inRound r) n P ops Q i K' a w := by
  unfold wpOp at h
  unfold wpOpIn
  cases ho : ops[i]? with
  | none => rw [ho] at h; exact hk _ _ h
  | some o =>
    simp only [ho] at h ⊢
    have hc : noDefer o = true := by
      obtain ⟨hi, rfl⟩ := Array.getElem?_eq_some_iff.1 ho
      exact Array.all_eq_true.1 hall i hi
    split
    · rename_i hw
      rw [if_pos hw] at h
      rcases h with h | h
      · exact wpOper_in hc hk h
      · exact absurd h.2 hQ
    · rename_i hw
      rw [if_neg hw] at h
      exact ⟨fun _ _ => trivial, hk _ _ h⟩
theorem wpAny_in (hall : ops.all noDefer = true) (hQ : ¬ LetsOut Q) : ∀ (fuel : Nat) (listed : Array Bool) (a : Act) (w : World), wpAny P md ops Q fuel listed a w → wpAnyIn (Fence.wide.inRound r) n P md ops Q fuel listed a w
  | 0, _, _, _, h => ⟨h.1, h.2⟩
  | fuel + 1, _, _, _, h => ⟨h.1, fun i hi => wpOp_in hall hQ (wpAny_in hall hQ fuel _) (h.2 i hi)⟩
theorem wpOps_in (hall : ops.all noDefer = true) (hQ : ¬ LetsOut Q) : ∀ (l : List Nat) (a : Act) (w : World), wpOps P ops Q l a w → wpOpsIn (Fence.wide.inRound r) n P ops Q l a w
  | [], _, _, h => h
  | i :: l, a, w, h => by
    rw [wpOps_cons] at h
    rw [wpOpsIn_cons]
    exact wpOp_in hall hQ (wpOps_in hall hQ l) h
theorem onlyN_mono {Q : Exit → Act → World → Prop} (e : Exit) (a : Act) (w : World) (q : onlyN (fun a w => Q .normal a w) e a w) : Q e a w := by
  cases e <;> first | exact q | exact (q : False).elim
/-- a region that draws its order, in a round -/
theorem wpIn_region_idx {id : Nat} {l : List Oper} {a : Act} {w : World} (σ : List (Nat × Nat)) (hm : P.follows .mixedOrders = true) (hp : planOK l.toArray σ = true) (hall : l.toArray.all noDefer = true)
    (h : wpIdx P l.toArray (fun a w => Q .normal a w) σ a w.drew) : (Code.region id l.toArray true).wpIn (Fence.wide.inRound r) n P Q a w := by
  simp only [planOK, Bool.and_eq_true, beq_iff_eq] at hp
  obtain ⟨⟨hs, hp⟩, hlen⟩ := hp
  refine wpIn_mono (Q := onlyN fun a w => Q .normal a w) (wpIn_region_any hm (wpAny_in hall onlyN_out _ _ _ _ ?_)) onlyN_mono
  have := wpAnyF_of_idx hs σ (Array.replicate l.toArray.size false) a w.drew hp h
  rw [hlen] at this
  exact wpAny_of_F _ _ _ _ this
theorem wpIn_region_idxT {id : Nat} {l : List Oper} {a : Act} {w : World} (σ : List (Nat × Nat)) (hm : P.follows .mixedOrders = true) (hp : planOKT l.toArray σ = true) (hall : l.toArray.all noDefer = true)
    (h : wpIdx P l.toArray (fun a w => Q .normal a w) σ a w.drew) : (Code.region id l.toArray true).wpIn (Fence.wide.inRound r) n P Q a w := by
  simp only [planOKT, Bool.and_eq_true, beq_iff_eq] at hp
  obtain ⟨⟨hs, hp⟩, hlen⟩ := hp
  refine wpIn_mono (Q := onlyN fun a w => Q .normal a w) (wpIn_region_any hm (wpAny_in hall onlyN_out _ _ _ _ ?_)) onlyN_mono
  have := wpAnyF_of_idxT hs σ (Array.replicate l.toArray.size false) a w.drew hp h
  rw [hlen] at this
  exact wpAny_of_F _ _ _ _ this
/-- a region that does not -/
theorem wpIn_region_plain {id : Nat} {l : List Oper} {a : Act} {w : World} (hall : l.toArray.all noDefer = true) (h : wpList P l.toArray (onlyN fun a w => Q .normal a w) l a w) : (Code.region id l.toArray false).wpIn (Fence.wide.inRound r) n P Q a w := by
  refine wpIn_mono (Q := onlyN fun a w => Q .normal a w) (wpIn_region (wpOps_in hall onlyN_out _ _ _ ?_)) onlyN_mono
  rw [List.range_eq_range', ← Array.length_toList, wpOps_eq_wpList l.toArray.toList 0 (by simp)]
  exact h
end

/-! ### what a call owns, and the loop's book-keeping -/
def Res.soft : Res → Bool
  | .obj _ _ => false
  | _ => true
theorem Res.soft_cells {W : World} {x : Res} (hs : x.soft = true) (h : x.holds W) {g : Nat} (hg : x.dom = some g) : ∃ o : Obj, W.heap[g]? = some o ∧ o.isCells = true := by
  cases x with
  | blk g' t cs => simp [Res.dom] at hg; subst hg; exact ⟨_, h, rfl⟩
  | obj g' o => cases hs
  | row A n c e s xs =>
    rcases h with ⟨rfl, _⟩ | ⟨g', off, cur, rfl, hh, _⟩
    · simp [Res.dom] at hg
    · simp [Res.dom] at hg; subst hg; exact ⟨_, hh, rfl⟩
theorem St.grown {w0 A B : World} {L : List Res} {row : Option Nat} (h : St w0 A L) (hs : L.all Res.soft = true) (hg : A.grownBy B row) (hr : ∀ r, row = some r → w0.heap.size ≤ r ∧ ∃ o : Obj, A.heap[r]? = some o ∧ o.isCells = false) : St w0 B L := by
  refine ⟨⟨hg.os.trans h.below.os, hg.tape.trans h.below.tape, hg.output.trans h.below.output, Nat.le_trans h.below.size hg.size, fun k hk => ?_⟩, fun x hx => ?_, h.ge, h.nd⟩
  · have := h.below.size
    exact (hg.block k (by omega) (fun e => by have := (hr k e.symm).1; omega)).trans (h.below.block k hk)
  · refine Res.holds_of (h.res x hx) fun g hgd => ?_
    obtain ⟨o, ho, hc⟩ := Res.soft_cells (List.all_eq_true.1 hs x hx) (h.res x hx) hgd
    refine hg.block g (Array.getElem?_eq_some_iff.1 ho).1 (fun e => ?_)
    obtain ⟨_, o', ho', hc'⟩ := hr g e.symm
    rw [ho] at ho'
    cases ho'
    rw [hc] at hc'
    cases hc'
/-- whatever is no cells, from B on -/
def objsOf (W : World) (B : Nat) : List Res := (List.range W.heap.size).filterMap fun k => match W.heap[k]? with
  | some o => if B ≤ k ∧ o.isCells = false then some (.obj k o) else none
  | none => none
theorem mem_objsOf {W : World} {B : Nat} {x : Res} : x ∈ objsOf W B ↔ ∃ k o, W.heap[k]? = some o ∧ B ≤ k ∧ o.isCells = false ∧ x = .obj k o := by
  unfold objsOf
  rw [List.mem_filterMap]
  constructor
  · rintro ⟨k, _, h⟩
    cases ho : W.heap[k]? with
    | none => rw [ho] at h; cases h
    | some o =>
      rw [ho] at h
      simp only at h
      split at h
      · rename_i hc
        exact ⟨k, o, ho, hc.1, hc.2, (Option.some.inj h).symm⟩
      · cases h
  · rintro ⟨k, o, ho, hB, hc, rfl⟩
    refine ⟨k, List.mem_range.2 (Array.getElem?_eq_some_iff.1 ho).1, ?_⟩
    rw [ho]
    simp only [hB, hc, and_self, if_true]
theorem St.withObjs {w0 W : World} {L : List Res} (h : St w0 W L) (hs : L.all Res.soft = true) {B : Nat} (hB : w0.heap.size ≤ B) : St w0 W (L ++ objsOf W B) := by
  refine ⟨h.below, fun x hx => ?_, fun x hx g hg => ?_, List.pairwise_append.2 ⟨h.nd, ?_, fun x hx y hy g hgx hgy => ?_⟩⟩
  · rcases List.mem_append.1 hx with hx | hx
    · exact h.res x hx
    · obtain ⟨k, o, ho, _, _, rfl⟩ := mem_objsOf.1 hx
      exact ho
  · rcases List.mem_append.1 hx with hx | hx
    · exact h.ge x hx g hg
    · obtain ⟨k, o, ho, hk, _, rfl⟩ := mem_objsOf.1 hx
      simp [Res.dom] at hg
      omega
  · unfold objsOf
    refine List.Pairwise.filterMap _ ?_ (List.nodup_range (n := W.heap.size))
    intro k k' hne x hx y hy g hgx hgy
    have key : ∀ (j : Nat) (z : Res), (match W.heap[j]? with
        | some o => if B ≤ j ∧ o.isCells = false then some (Res.obj j o) else none
        | none => none) = some z → z.dom = some j := by
      intro j z hz
      cases ho : W.heap[j]? with
      | none => rw [ho] at hz; cases hz
      | some o =>
        rw [ho] at hz
        simp only at hz
        split at hz
        · cases hz; rfl
        · cases hz
    have h1 := key k x hx
    have h2 := key k' y hy
    rw [h1] at hgx
    rw [h2] at hgy
    cases hgx
    cases hgy
    exact hne rfl
  · obtain ⟨o, ho, hc⟩ := Res.soft_cells (List.all_eq_true.1 hs x hx) (h.res x hx) hgx
    obtain ⟨k, o', ho', _, hc', rfl⟩ := mem_objsOf.1 hy
    simp [Res.dom] at hgy
    subst hgy
    rw [ho] at ho'
    cases ho'
    rw [hc] at hc'
    cases hc'
theorem St.keepsFrom {w0 W W' : World} {L : List Res} {B : Nat} (h : St w0 W' (L ++ objsOf W B)) (hsz : W.heap.size ≤ W'.heap.size) : KeepsFrom B W W' :=
  ⟨hsz, fun k o hk ho hc => h.res (.obj k o) (List.mem_append_right _ (mem_objsOf.2 ⟨k, o, ho, hk, hc, rfl⟩))⟩
/-- a row that was new stands: the heap is no smaller -/
theorem St.size_of_row {w0 W1 W2 W' : World} {L : List Res} {A : Option Addr} {n c e s n' c' e' s' : Nat} {xs xs' : List Value} (hnew : St W1 W2 [.row A n c e s xs]) (h : St w0 W' L) (i : Nat) (hi : L[i]? = some (.row A n' c' e' s' xs')) (hn : 0 < n') : W1.heap.size ≤ W'.heap.size := by
  rcases h.at_ i hi with ⟨_, h0, _⟩ | ⟨g, off, cur, rfl, hh, _⟩
  · omega
  · have := hnew.ge _ (List.mem_singleton.2 rfl) g rfl
    have := (Array.getElem?_eq_some_iff.1 hh).1
    omega
theorem St.size_of_blk {w0 W1 W2 W' : World} {L : List Res} {g : Nat} {t t' : TypeId} {cs cs' : Array Value} (hnew : St W1 W2 [.blk g t cs]) (h : St w0 W' L) (i : Nat) (hi : L[i]? = some (.blk g t' cs')) : W1.heap.size ≤ W'.heap.size := by
  have h1 := hnew.ge _ (List.mem_singleton.2 rfl) g rfl
  have h2 := (Array.getElem?_eq_some_iff.1 (h.get i hi)).1
  omega
end Go.Proofs.YthlpobpkhlbfdaaDoor
