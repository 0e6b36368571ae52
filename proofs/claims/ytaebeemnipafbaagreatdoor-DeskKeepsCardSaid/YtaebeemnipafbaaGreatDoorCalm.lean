/-
  Proved here: which operations only read: run once, they give the same in every later world in which nothing that stood has changed. No condition on any program.
-/
import Derived.Test.YtaebeemnipafbaaGreatDoorMem
import Derived.Orders
set_option linter.unusedSimpArgs false
set_option linter.unusedVariables false
namespace Go.Proofs.YtaebeemnipafbaaGreatDoor
open Go.RowKit

/-- it leaves the world alone, and gives the same wherever what stood still stands -/
def Calm (P : Program) {α : Type} (s : Sem α) : Prop := ∀ w x w', s.run P w = .ok x w' → w' = w ∧ ∀ W, Below w.heap.size w W → s.run P W = .ok x W

section
variable {P : Program} {α β : Type}
theorem Calm.pure (a : α) : Calm P (Pure.pure a : Sem α) := fun w x w' h => by
  simp only [Sem.run_pure, Result.ok.injEq] at h
  obtain ⟨rfl, rfl⟩ := h
  exact ⟨rfl, fun W _ => by simp⟩
theorem Calm.bind {s : Sem α} {f : α → Sem β} (hs : Calm P s) (hf : ∀ a, Calm P (f a)) : Calm P (s >>= f) := fun w x w' h => by
  rw [Sem.run_bind] at h
  cases hr : s.run P w with
  | ok a w1 =>
    rw [hr] at h
    simp only [Result.andThen_ok] at h
    obtain ⟨rfl, h1⟩ := hs w a w1 hr
    obtain ⟨rfl, h2⟩ := hf a w1 x w' h
    exact ⟨rfl, fun W hW => by rw [Sem.run_bind, h1 W hW]; simp only [Result.andThen_ok]; exact h2 W hW⟩
  | halt e w1 => rw [hr] at h; simp at h
theorem Calm.halt (e : Halt) : Calm P (Sem.halt e : Sem α) := fun w x w' h => by simp [Sem.run] at h
theorem Calm.program : Calm P program := fun w x w' h => by
  simp only [Go.program, Sem.run, Result.ok.injEq] at h
  obtain ⟨rfl, rfl⟩ := h
  exact ⟨rfl, fun W _ => by simp [Go.program, Sem.run]⟩
theorem Calm.never {s : Sem α} (h : ∀ w x w', s.run P w ≠ .ok x w') : Calm P s := fun w x w' hr => absurd hr (h w x w')
/-- it never comes to an end -/
def Never (P : Program) (s : Sem α) : Prop := ∀ w x w', s.run P w ≠ .ok x w'
theorem Never.halt (e : Halt) : Never P (Sem.halt e : Sem α) := fun w x w' h => by simp [Sem.run] at h
theorem Never.bind {s : Sem α} {f : α → Sem β} (hf : ∀ a, Never P (f a)) : Never P (s >>= f) := fun w x w' h => by
  rw [Sem.run_bind] at h
  cases hr : s.run P w with
  | ok a w1 => rw [hr] at h; simp only [Result.andThen_ok] at h; exact hf a w1 x w' h
  | halt e w1 => rw [hr] at h; simp at h
theorem Never.calm {s : Sem α} (h : Never P s) : Calm P s := Calm.never h
theorem Never.panicString (m : String) : Never P (panicString m : Sem α) := Never.bind fun _ => Never.halt _
theorem Never.runtimePanic (e : RuntimeError) : Never P (runtimePanic e : Sem α) := by
  unfold Go.runtimePanic
  refine Never.bind fun p => ?_
  cases e <;> (try exact Never.halt _) <;> (try (dsimp only; (refine Never.bind fun _ => ?_; exact Never.bind fun _ => Never.halt _)))
theorem Never.boundsPanic (k : IntKind) (x y : Int) (c : BoundsCode) : Never P (boundsPanic k x y c : Sem α) := by
  unfold Go.boundsPanic
  dsimp only
  split <;> exact Never.bind fun _ => Never.runtimePanic _

theorem Calm.typeInfo (t : TypeId) : Calm P (typeInfo t) := by
  unfold Go.typeInfo
  refine Calm.program.bind fun p => ?_
  split
  · exact Calm.pure _
  · exact Calm.halt _
theorem Calm.underlying (t : TypeId) : Calm P (underlying t) := by
  unfold Go.underlying
  refine Calm.program.bind fun p => ?_
  split
  · exact Calm.pure _
  · exact Calm.halt _
theorem Calm.sizeOf (t : TypeId) : Calm P (sizeOf t) := by
  unfold Go.sizeOf
  exact (Calm.typeInfo t).bind fun _ => Calm.pure _
theorem Calm.zeroValue (t : TypeId) : Calm P (zeroValue t) := by
  unfold Go.zeroValue
  refine (Calm.typeInfo t).bind fun i => ?_
  split
  · exact Calm.pure _
  · exact Calm.halt _
theorem Calm.isAgg (t : TypeId) : Calm P (isAgg t) := by
  unfold Go.isAgg
  refine (Calm.underlying t).bind fun d => ?_
  split <;> exact Calm.pure _
theorem Calm.asIntOf (v : Value) : Calm P (asIntOf v) := by
  unfold Go.asIntOf
  split <;> first | exact Calm.pure _ | exact Calm.halt _
theorem Calm.sureAddr (v : Value) : Calm P (Instr.sureAddr v) := by
  unfold Instr.sureAddr
  split
  · exact Calm.pure _
  · exact Calm.halt _
theorem Calm.part (t : TypeId) (cs : Array Value) (off : Nat) : Calm P (part t cs off) := by
  unfold Go.part
  refine (Calm.isAgg t).bind fun b => ?_
  split
  · exact (Calm.sizeOf t).bind fun _ => Calm.pure _
  · split
    · exact Calm.pure _
    · exact Calm.halt _

/-! ### loads -/
theorem below_heap {w W : World} (h : Below w.heap.size w W) {b : Nat} {o : Obj} (hb : w.heap[b]? = some o) : W.heap[b]? = some o :=
  (h.block b (Array.getElem?_eq_some_iff.1 hb).1).trans hb
theorem below_cell {w W : World} (h : Below w.heap.size w W) {a : Addr} {v : Value} (hc : w.cell? a = some v) : W.cell? a = some v := by
  unfold World.cell? at *
  cases hb : w.heap[a.block]? with
  | none => rw [hb] at hc; simp at hc
  | some o => rw [below_heap h hb]; rw [hb] at hc; exact hc
theorem seen_of_row {p : Program} {w W : World} {at_ k : Addr} {u : TypeId} {at1 : Bool} (h : Below w.heap.size w W) {r} (hr : w.seen p at_ u k at1 = .ok r) : W.seen p at_ u k at1 = .ok r := by
  cases hb : w.heap[at_.block]? with
  | some o =>
    have hB := below_heap h hb
    unfold World.seen at *
    rw [hB]
    rw [hb] at hr
    exact hr
  | none =>
    exfalso
    unfold World.seen at hr
    rw [hb] at hr
    revert hr
    simp only [bind, Except.bind]
    intro hr
    repeat' split at hr
    all_goals ((cases hr; done))
theorem Calm.load (a : Addr) : Calm P (load a) := fun w x w' h => by
  simp only [Go.load, Sem.run] at h
  cases hc : w.cell? a with
  | some v =>
    simp only [hc, Result.ok.injEq] at h
    obtain ⟨rfl, rfl⟩ := h
    exact ⟨rfl, fun W hW => by simp [Go.load, Sem.run, below_cell hW hc]⟩
  | none =>
    simp only [hc] at h
    cases hf : w.farLoad P a (Mode.plain == Mode.atomic) with
    | error e => simp [hf] at h
    | ok r =>
      obtain ⟨v, l⟩ := r
      simp only [hf, Result.ok.injEq] at h
      obtain ⟨rfl, rfl⟩ := h
      refine ⟨rfl, fun W hW => ?_⟩
      unfold World.farLoad at hf
      cases hb : w.heap[a.block]? with
      | none => simp [hb] at hf
      | some o =>
        have hB := below_heap hW hb
        cases o with
        | view at_ u =>
          simp only [hb] at hf
          cases hs : w.viewLoad P at_ u a (Mode.plain == Mode.atomic) with
          | error e => simp [hs] at hf
          | ok r =>
            simp only [hs, Except.ok.injEq] at hf
            subst hf
            have hv : W.viewLoad P at_ u a (Mode.plain == Mode.atomic) = .ok (v, l) := by
              unfold World.viewLoad at hs ⊢
              cases hq : w.seen P at_ u a (Mode.plain == Mode.atomic) with
              | error e =>
                rw [hq] at hs
                have hs' : (Except.error e : Except String (Value × List Addr)) = .ok (v, l) := hs
                cases hs'
              | ok r => rw [seen_of_row hW hq]; rw [hq] at hs; exact hs
            have hWc : W.cell? a = none := by simp [World.cell?, hB]
            simp [Go.load, Sem.run, hWc, World.farLoad, hB, hv]
        | _ => simp [hb] at hf
theorem Calm.loadCellsFrom (a : Addr) : ∀ (n i : Nat) (acc : Array Value), Calm P (loadCellsFrom a i n acc)
  | 0, _, _ => Calm.pure _
  | n + 1, i, acc => by
    unfold Go.loadCellsFrom
    exact (Calm.load _).bind fun v => Calm.loadCellsFrom a n (i + 1) _
theorem Calm.loadVar (t : TypeId) (a : Addr) : Calm P (loadVar t a) := by
  unfold Go.loadVar
  refine (Calm.isAgg t).bind fun b => ?_
  split
  · exact (Calm.sizeOf t).bind fun n => (Calm.loadCellsFrom a n 0 _).bind fun _ => Calm.pure _
  · exact Calm.load a
theorem Calm.loadAt (t : TypeId) (v : Value) : Calm P (Instr.loadAt t v) := by
  unfold Instr.loadAt
  exact (Calm.sureAddr v).bind fun a => Calm.loadVar t a

/-! ### addresses and cuts -/
theorem Calm.fieldAt_slot (s : TypeId) (v : Value) (f : Nat) (hz : ∀ fs x, P.underlying s = some (.struct fs) → fs[f]? = some x → (P.info? x.type).any (fun i => i.size != 0)) : Calm P (Instr.fieldAt s v f) := by
  intro w x w' h
  unfold Instr.fieldAt at *
  rw [Sem.run_bind] at h
  cases hu : P.underlying s with
  | none => simp [Go.underlying, Go.program, Sem.run, hu, stuck] at h
  | some d =>
    have hru : ∀ W, (Go.underlying s).run P W = .ok d W := fun W => by simp [Go.underlying, Go.program, Sem.run, hu]
    rw [hru] at h
    simp only [Result.andThen_ok] at h
    cases d with
    | struct fs =>
      cases hf : fs[f]? with
      | none => simp [hf, stuck] at h
      | some y =>
        have hy := hz fs y hu hf
        cases hi : P.info? y.type with
        | none => simp [hi] at hy
        | some i =>
          have hs0 : i.size ≠ 0 := by simpa [hi] using hy
          have hsz : ∀ W, (Go.sizeOf y.type).run P W = .ok i.size W := fun W => by simp [Go.sizeOf, Go.typeInfo, Go.program, Sem.run, hi]
          cases v with
          | pointer a =>
            cases a with
            | none => simp [hf, Instr.sureAddr, stuck, Sem.run] at h
            | some a =>
              have hrun : ∀ W, (fieldPlace a y).run P W = .ok (a.add y.offset) W := fun W => by simp [fieldPlace, hsz, hs0]
              simp [hf, Instr.sureAddr, hrun] at h
              obtain ⟨rfl, rfl⟩ := h
              exact ⟨rfl, fun W _ => by simp [hru, hf, Instr.sureAddr, hrun]⟩
          | _ => simp [hf, Instr.sureAddr, stuck, Sem.run] at h
    | _ => simp [stuck] at h
theorem Calm.indexAt (t : TypeId) (x i : Value) : Calm P (Instr.indexAt t x i) := by
  unfold Instr.indexAt
  repeat' (first | exact Calm.pure _ | exact Calm.halt _ | exact (Never.boundsPanic _ _ _ _).calm | exact Calm.sureAddr _ | exact Calm.asIntOf _ | exact Calm.sizeOf _ | exact Calm.underlying _ | refine Calm.bind ?_ (fun _ => ?_) | split | dsimp only)
theorem Calm.sliceBound (v : Value) (y : Nat) (c : BoundsCode) : Calm P (Instr.sliceBound v y c) := by
  unfold Instr.sliceBound
  repeat' (first | exact Calm.pure _ | exact (Never.boundsPanic _ _ _ _).calm | exact Calm.asIntOf _ | refine Calm.bind ?_ (fun _ => ?_) | split)
theorem Calm.sliceBounds (b : Bool) (len cap : Nat) (l h m : Option Value) : Calm P (Instr.sliceBounds b len cap l h m) := by
  unfold Instr.sliceBounds
  repeat' (first | exact Calm.pure _ | exact Calm.halt _ | exact Calm.sliceBound _ _ _ | refine Calm.bind ?_ (fun _ => ?_) | split)
theorem Calm.slice (t : TypeId) (x : Value) (l h m : Option Value) : Calm P (Instr.slice t x l h m) := by
  unfold Instr.slice Go.asAddr
  repeat' (first | exact Calm.pure _ | exact Calm.halt _ | exact (Never.runtimePanic _).calm | exact Calm.sizeOf _ | exact Calm.underlying _ | exact Calm.sliceBounds _ _ _ _ _ _ | refine Calm.bind ?_ (fun _ => ?_) | split)
theorem Calm.sliceAt (t : TypeId) (x : Value) (l h m : Option Value) : Calm P (Instr.sliceAt t x l h m) := by
  unfold Instr.sliceAt
  repeat' (first | exact Calm.pure _ | exact Calm.sureAddr _ | exact Calm.sizeOf _ | exact Calm.underlying _ | exact Calm.sliceBounds _ _ _ _ _ _ | exact Calm.slice _ _ _ _ _ | refine Calm.bind ?_ (fun _ => ?_) | split)
theorem Calm.index (t : TypeId) (x i : Value) : Calm P (Instr.index t x i) := by
  unfold Instr.index
  repeat' (first | exact Calm.pure _ | exact Calm.halt _ | exact (Never.boundsPanic _ _ _ _).calm | exact Calm.asIntOf _ | exact Calm.sizeOf _ | exact Calm.underlying _ | exact Calm.part _ _ _ | refine Calm.bind ?_ (fun _ => ?_) | split)
theorem Calm.field (t : TypeId) (x : Value) (f : Nat) : Calm P (Instr.field t x f) := by
  unfold Instr.field asAgg
  repeat' (first | exact Calm.pure _ | exact Calm.halt _ | exact Calm.underlying _ | exact Calm.part _ _ _ | refine Calm.bind ?_ (fun _ => ?_) | split)
theorem Calm.makeInterface (t : TypeId) (x : Value) : Calm P (Instr.makeInterface t x) := by
  unfold Instr.makeInterface
  repeat' (first | exact Calm.pure _ | exact Calm.halt _ | exact Calm.underlying _ | refine Calm.bind ?_ (fun _ => ?_) | split)
theorem Calm.extract (x : Value) (i : Nat) : Calm P (Instr.extract x i) := by
  unfold Instr.extract
  repeat' (first | exact Calm.pure _ | exact Calm.halt _ | split)
theorem Calm.mapM {l : List α} {f : α → Sem β} (hf : ∀ a, Calm P (f a)) : Calm P (l.mapM f) := by
  induction l with
  | nil => exact Calm.pure _
  | cons a l ih =>
    rw [List.mapM_cons]
    exact (hf a).bind fun _ => ih.bind fun _ => Calm.pure _
theorem Calm.map {s : Sem α} {f : α → β} (hs : Calm P s) : Calm P (f <$> s) := by
  rw [← bind_pure_comp]
  exact hs.bind fun _ => Calm.pure _
theorem Calm.mapMA {l : Array α} {f : α → Sem β} (hf : ∀ a, Calm P (f a)) : Calm P (l.mapM f) := by
  rw [Array.mapM_eq_mapM_toList]
  exact (Calm.mapM hf).map

theorem Calm.build (t : TypeId) (ps : Array (Nat × Value)) : Calm P (Instr.build t ps) := by
  unfold Instr.build
  repeat' (first | exact Calm.pure _ | exact Calm.halt _ | exact Calm.sizeOf _ | exact Calm.underlying _ | exact Calm.zeroValue _ | exact Calm.mapMA (fun _ => (Calm.sizeOf _).bind fun _ => Calm.pure _) | refine Calm.bind ?_ (fun _ => ?_) | split)
/-! ### numbers -/
theorem Calm.intDiv (op : BinOp) (k : IntKind) (x y : Int) : Calm P (Op.intDiv op k x y) := by
  unfold Op.intDiv
  split
  · exact (Never.runtimePanic _).calm
  · split <;> first | exact Calm.pure _ | exact Calm.halt _
theorem Calm.shift (op : BinOp) (k : IntKind) (x : Int) (yk : IntKind) (y : Int) : Calm P (Op.shift op k x yk y) := by
  unfold Op.shift
  split
  · exact (Never.runtimePanic _).calm
  · dsimp only
    split <;> first | exact Calm.pure _ | exact Calm.halt _
theorem Calm.binInt (op : BinOp) (t : TypeId) (k k' : IntKind) (a b : Int) : Calm P (Go.binOp op t (.int k a) (.int k' b)) := by
  have h1 : Calm P (if k ≠ k' then stuck "BinOp: operands of different kinds" else
    match op with
    | .add | .sub | .mul => Op.intArith op k a b
    | .quo | .rem => Op.intDiv op k a b
    | .and | .or | .xor | .andNot => Op.intBits op k a b
    | _ => Op.intCmp op a b : Sem Value) := by
    split
    · exact Calm.halt _
    · cases op <;> first | exact Calm.pure _ | exact Calm.intDiv _ _ _ _ | exact Calm.halt _
  cases op <;> first | exact h1 | (simp only [Go.binOp]; exact Calm.shift _ _ _ _ _)
theorem Calm.unary (op : UnOp) (x : Value) : Calm P (Op.unary op x) := by
  unfold Op.unary
  split <;> first | exact Calm.pure _ | exact Calm.halt _
theorem Calm.lenSlice (ts : Array TypeId) (t : TypeId) (A : Option Addr) (n c : Nat) : Calm P (Builtin.len_ ts t #[.slice A n c]) := by
  unfold Builtin.len_
  repeat' (first | exact Calm.pure _ | exact Calm.halt _ | exact Calm.underlying _ | (exfalso; simp_all; done) | refine Calm.bind ?_ (fun _ => ?_) | split)
theorem Calm.lenString (ts : Array TypeId) (t : TypeId) (s : ByteArray) : Calm P (Builtin.len_ ts t #[.string s]) := by
  unfold Builtin.len_
  repeat' (first | exact Calm.pure _ | exact Calm.halt _ | exact Calm.underlying _ | (exfalso; simp_all; done) | refine Calm.bind ?_ (fun _ => ?_) | split)
/-! ### operations -/
/-- an operation that yields a value and only reads -/
def CalmV (P : Program) (s : Sem Next) : Prop := ∀ w n w', s.run P w = .ok n w' → (∃ v, n = .value v) ∧ w' = w ∧ ∀ W, Below w.heap.size w W → s.run P W = .ok n W
theorem CalmV.of {s : Sem Value} (h : Calm P s) : CalmV P (do Pure.pure (.value (← s))) := fun w n w' hr => by
  rw [Sem.run_bind] at hr
  cases hs : s.run P w with
  | ok v w1 =>
    rw [hs] at hr
    simp only [Result.andThen_ok, Sem.run_pure, Result.ok.injEq] at hr
    obtain ⟨rfl, rfl⟩ := hr
    obtain ⟨rfl, h2⟩ := h w v w1 hs
    exact ⟨⟨v, rfl⟩, rfl, fun W hW => by rw [Sem.run_bind, h2 W hW]; simp⟩
  | halt e w1 => rw [hs] at hr; simp at hr
theorem CalmV.pure (v : Value) : CalmV P (Pure.pure (.value v)) := fun w n w' hr => by
  simp only [Sem.run_pure, Result.ok.injEq] at hr
  obtain ⟨rfl, rfl⟩ := hr
  exact ⟨⟨v, rfl⟩, rfl, fun W _ => by simp⟩
def isInt : Value → Bool
  | .int _ _ => true
  | _ => false
theorem isInt_form {v : Value} (h : isInt v = true) : ∃ k n, v = .int k n := by
  cases v <;> simp_all [isInt]
def noFunc : Value → Bool
  | .func _ _ _ => false
  | _ => true
def lenable : Value → Bool
  | .slice _ _ _ => true
  | .string _ => true
  | _ => false
/-- the kinds that only read, by what the operands hold -/
def calmK (ρ : Operand → Value) : Op → Bool
  | .move _ | .assign _ | .pick .. | .load .. | .index .. | .indexAddr .. | .slice .. | .field .. | .extract .. | .makeInterface .. | .build .. | .unOp .. => true
  | .nilCheck x => noFunc (ρ x)
  | .binOp _ _ x y _ => isInt (ρ x) && isInt (ρ y)
  | .call { callee := .builtin .len, args, .. } => args.size == 1 && lenable (ρ (args.getD 0 (.tmp 0)))
  | _ => false
theorem eqGuard_int {op : BinOp} {t : TypeId} {x y : Operand} {k k' : IntKind} {a b : Int} : Calm P (eqGuard op t x y (.int k a) (.int k' b)) := by
  have e : eqGuard op t x y (.int k a) (.int k' b) = Pure.pure () := by cases op <;> rfl
  rw [e]
  exact Calm.pure _
theorem calmV_k {ρ : Operand → Value} {o : Oper} (h : calmK ρ o.op = true) : CalmV P (execOp ρ o) := by
  obtain ⟨dst, op, type, pos, after, guard⟩ := o
  cases op <;> simp only [calmK] at h <;> simp only [execOp] <;> (try (cases h; done))
  case move x => exact CalmV.pure _
  case assign x => exact CalmV.pure _
  case pick c a b =>
    intro w n w' hr
    cases hc : ρ c <;> simp [hc, asBool, stuck, Sem.run] at hr
    obtain ⟨rfl, rfl⟩ := hr
    exact ⟨⟨_, rfl⟩, rfl, fun W _ => by simp [asBool]⟩
  case load t a => exact CalmV.of (Calm.loadAt _ _)
  case index t x i => exact CalmV.of (Calm.index _ _ _)
  case indexAddr t x i => exact CalmV.of (Calm.indexAt _ _ _)
  case slice t x l hh m => exact CalmV.of (Calm.sliceAt _ _ _ _ _)
  case field t x f => exact CalmV.of (Calm.field _ _ _)
  case extract x i => exact CalmV.of (Calm.extract _ _)
  case makeInterface t x => exact CalmV.of (Calm.makeInterface _ _)
  case build t ps => exact CalmV.of (Calm.build _ _)
  case unOp op t x => exact CalmV.of (Calm.unary _ _)
  case nilCheck x =>
    split
    · exact fun w n w' hr => absurd hr (Never.runtimePanic _ w n w')
    · exact fun w n w' hr => absurd hr (Never.runtimePanic _ w n w')
    · exact fun w n w' hr => absurd hr (Never.runtimePanic _ w n w')
    · simp_all [noFunc]
    · exact CalmV.pure _
  case binOp op t x y t' =>
    simp only [Bool.and_eq_true] at h
    obtain ⟨k, a, ha⟩ := isInt_form h.1
    obtain ⟨k', b, hb⟩ := isInt_form h.2
    rw [ha, hb]
    exact CalmV.of (eqGuard_int.bind fun _ => Calm.binInt _ _ _ _ _ _)
  case call c =>
    obtain ⟨callee, args, tys⟩ := c
    cases callee <;> (try (cases h; done))
    rename_i b
    cases b <;> (try (cases h; done))
    simp only [Bool.and_eq_true, beq_iff_eq] at h
    obtain ⟨h1, h2⟩ := h
    obtain ⟨x, rfl⟩ : ∃ x, args = #[x] := by
      obtain ⟨l⟩ := args
      simp only [List.size_toArray] at h1
      obtain ⟨x, rfl⟩ := List.length_eq_one_iff.1 h1
      exact ⟨x, rfl⟩
    simp only [Array.getD, List.size_toArray, List.length_cons, List.length_nil] at h2
    have h2' : lenable (ρ x) = true := h2
    have hc : Calm P (Builtin.len_ tys type #[ρ x]) := by
      cases hv : ρ x <;> rw [hv] at h2' <;> first | exact Calm.lenSlice _ _ _ _ _ | exact Calm.lenString _ _ _ | (simp [lenable] at h2')
    have := CalmV.of hc
    intro w n w' hr
    have e : ∀ W, (do let d ← resolve ρ { callee := .builtin .len, args := #[x], argTypes := tys } type; invoke d.target d.args : Sem Next).run P W = (do Pure.pure (.value (← Builtin.len_ tys type #[ρ x])) : Sem Next).run P W := fun W => by
      simp [resolve, invoke, builtin]
    rw [e] at hr
    obtain ⟨q1, q2, q3⟩ := this w n w' hr
    exact ⟨q1, q2, fun W hW => by rw [e]; exact q3 W hW⟩
end
end Go.Proofs.YtaebeemnipafbaaGreatDoor
