/-
  Proved here: which operations only read: run once, they give the same in every later world in which nothing that stood has changed. No condition on any program.
-/
import Derived.Test.YtaebeemnipafbaaGreatDoorMem
import Derived.Orders
set_option linter.unusedSimpArgs false
set_option linter.unusedVariables false
set_option maxRecDepth 100000
set_option maxHeartbeats 200000000
namespace Go.Proofs.YtaebeemnipafbaaGreatDoor
open Go.RowKit
def G2 (P : Program) {α : Type} (s : Sem α) : Prop := ∀ w x w', s.run P w = .ok x w' → w' = w ∧ ∀ W, Below w.heap.size w W → s.run P W = .ok x W
section
variable {P : Program} {α β : Type}
theorem G2.pure (a : α) : G2 P (Pure.pure a : Sem α) := fun w x w' h => by
 simp only [Sem.run_pure, Result.ok.injEq] at h
 obtain ⟨rfl, rfl⟩ := h
 exact ⟨rfl, fun W _ => by simp⟩
theorem G2.bind {s : Sem α} {f : α → Sem β} (hs : G2 P s) (hf : ∀ a, G2 P (f a)) : G2 P (s >>= f) := fun w x w' h => by
 rw [Sem.run_bind] at h
 cases hr : s.run P w with
 | ok a w1 =>
  rw [hr] at h
  simp only [Result.andThen_ok] at h
  obtain ⟨rfl, h1⟩ := hs w a w1 hr
  obtain ⟨rfl, h2⟩ := hf a w1 x w' h
  exact ⟨rfl, fun W hW => by rw [Sem.run_bind, h1 W hW]; simp only [Result.andThen_ok]; exact h2 W hW⟩
 | halt e w1 => rw [hr] at h; simp at h
theorem G2.halt (e : Halt) : G2 P (Sem.halt e : Sem α) := fun w x w' h => by simp [Sem.run] at h
theorem G2.program : G2 P program := fun w x w' h => by
 simp only [Go.program, Sem.run, Result.ok.injEq] at h
 obtain ⟨rfl, rfl⟩ := h
 exact ⟨rfl, fun W _ => by simp [Go.program, Sem.run]⟩
theorem G2.never {s : Sem α} (h : ∀ w x w', s.run P w ≠ .ok x w') : G2 P s := fun w x w' hr => absurd hr (h w x w')
def KB (P : Program) (s : Sem α) : Prop := ∀ w x w', s.run P w ≠ .ok x w'
theorem KB.halt (e : Halt) : KB P (Sem.halt e : Sem α) := fun w x w' h => by simp [Sem.run] at h
theorem KB.bind {s : Sem α} {f : α → Sem β} (hf : ∀ a, KB P (f a)) : KB P (s >>= f) := fun w x w' h => by
 rw [Sem.run_bind] at h
 cases hr : s.run P w with
 | ok a w1 => rw [hr] at h; simp only [Result.andThen_ok] at h; exact hf a w1 x w' h
 | halt e w1 => rw [hr] at h; simp at h
theorem KB.calm {s : Sem α} (h : KB P s) : G2 P s := G2.never h
theorem KB.panicString (m : String) : KB P (panicString m : Sem α) := KB.bind fun _ => KB.halt _
theorem KB.runtimePanic (e : RuntimeError) : KB P (runtimePanic e : Sem α) := by
 unfold Go.runtimePanic
 refine KB.bind fun p => ?_
 cases e <;> (try exact KB.halt _) <;> (try (dsimp only; (refine KB.bind fun _ => ?_; exact KB.bind fun _ => KB.halt _)))
theorem KB.boundsPanic (k : IntKind) (x y : Int) (c : BoundsCode) : KB P (boundsPanic k x y c : Sem α) := by
 unfold Go.boundsPanic
 dsimp only
 split <;> exact KB.bind fun _ => KB.runtimePanic _
theorem G2.typeInfo (t : TypeId) : G2 P (typeInfo t) := by
 unfold Go.typeInfo
 refine G2.program.bind fun p => ?_
 split
 ·exact G2.pure _
 ·exact G2.halt _
theorem G2.underlying (t : TypeId) : G2 P (underlying t) := by
 unfold Go.underlying
 refine G2.program.bind fun p => ?_
 split
 ·exact G2.pure _
 ·exact G2.halt _
theorem G2.sizeOf (t : TypeId) : G2 P (sizeOf t) := by
 unfold Go.sizeOf
 exact (G2.typeInfo t).bind fun _ => G2.pure _
theorem G2.zeroValue (t : TypeId) : G2 P (zeroValue t) := by
 unfold Go.zeroValue
 refine (G2.typeInfo t).bind fun i => ?_
 split
 ·exact G2.pure _
 ·exact G2.halt _
theorem G2.isAgg (t : TypeId) : G2 P (isAgg t) := by
 unfold Go.isAgg
 refine (G2.underlying t).bind fun d => ?_
 split <;> exact G2.pure _
theorem G2.asIntOf (v : Value) : G2 P (asIntOf v) := by
 unfold Go.asIntOf
 split <;> first | exact G2.pure _ | exact G2.halt _
theorem G2.sureAddr (v : Value) : G2 P (Instr.sureAddr v) := by
 unfold Instr.sureAddr
 split
 ·exact G2.pure _
 ·exact G2.halt _
theorem G2.part (t : TypeId) (cs : Array Value) (off : Nat) : G2 P (part t cs off) := by
 unfold Go.part
 refine (G2.isAgg t).bind fun b => ?_
 split
 ·exact (G2.sizeOf t).bind fun _ => G2.pure _
 ·split
  ·exact G2.pure _
  ·exact G2.halt _
theorem below_heap {w W : World} (h : Below w.heap.size w W) {b : Nat} {o : Obj} (hb : w.heap[b]? = some o) : W.heap[b]? = some o :=
 (h.block b (Array.getElem?_eq_some_iff.1 hb).1).trans hb
theorem below_cell {w W : World} (h : Below w.heap.size w W) {a : Addr} {v : Value} (hc : w.cell? a = some v) : W.cell? a = some v := by
 unfold World.cell? at *
 cases hb : w.heap[a.block]? with
 | none => rw [hb] at hc; simp at hc
 | some o => rw [below_heap h hb]; rw [hb] at hc; exact hc
theorem seen_of_row {p : Program} {w W : World} {at_ k : Addr} {u : TypeId} {at1 : Bool} (h : Below w.heap.size w W) {r} (hr : w.seen p at_ u k at1 = .ok r) : W.seen p at_ u k at1 = .ok r := by
 cases hb : w.heap[at_.block]? with
 | some o =>
  have hB := below_heap h hb
  unfold World.seen at *
  rw [hB]
  rw [hb] at hr
  exact hr
 | none =>
  exfalso
  unfold World.seen at hr
  rw [hb] at hr
  revert hr
  simp only [bind, Except.bind]
  intro hr
  repeat' split at hr
  all_goals ((cases hr; done))
theorem G2.load (a : Addr) : G2 P (load a) := fun w x w' h => by
 simp only [Go.load, Sem.run] at h
 cases hc : w.cell? a with
 | some v =>
  simp only [hc, Result.ok.injEq] at h
  obtain ⟨rfl, rfl⟩ := h
  exact ⟨rfl, fun W hW => by simp [Go.load, Sem.run, below_cell hW hc]⟩
 | none =>
  simp only [hc] at h
  cases hf : w.farLoad P a (Mode.plain == Mode.atomic) with
  | error e => simp [hf] at h
  | ok r =>
   obtain ⟨v, l⟩ := r
   simp only [hf, Result.ok.injEq] at h
   obtain ⟨rfl, rfl⟩ := h
   refine ⟨rfl, fun W hW => ?_⟩
   unfold World.farLoad at hf
   cases hb : w.heap[a.block]? with
   | none => simp [hb] at hf
   | some o =>
    have hB := below_heap hW hb
    cases o with
    | view at_ u =>
     simp only [hb] at hf
     cases hs : w.viewLoad P at_ u a (Mode.plain == Mode.atomic) with
     | error e => simp [hs] at hf
     | ok r =>
      simp only [hs, Except.ok.injEq] at hf
      subst hf
      have hv : W.viewLoad P at_ u a (Mode.plain == Mode.atomic) = .ok (v, l) := by
       unfold World.viewLoad at hs ⊢
       cases hq : w.seen P at_ u a (Mode.plain == Mode.atomic) with
       | error e =>
        rw [hq] at hs
        have hs' : (Except.error e : Except String (Value × List Addr)) = .ok (v, l) := hs
        cases hs'
       | ok r => rw [seen_of_row hW hq]; rw [hq] at hs; exact hs
      have hWc : W.cell? a = none := by simp [World.cell?, hB]
      simp [Go.load, Sem.run, hWc, World.farLoad, hB, hv]
    | _ => simp [hb] at hf
theorem G2.loadCellsFrom (a : Addr) : ∀ (n i : Nat) (acc : Array Value), G2 P (loadCellsFrom a i n acc)
 | 0, _, _ => G2.pure _
 | n + 1, i, acc => by
  unfold Go.loadCellsFrom
  exact (G2.load _).bind fun v => G2.loadCellsFrom a n (i + 1) _
theorem G2.loadVar (t : TypeId) (a : Addr) : G2 P (loadVar t a) := by
 unfold Go.loadVar
 refine (G2.isAgg t).bind fun b => ?_
 split
 ·exact (G2.sizeOf t).bind fun n => (G2.loadCellsFrom a n 0 _).bind fun _ => G2.pure _
 ·exact G2.load a
theorem G2.loadAt (t : TypeId) (v : Value) : G2 P (Instr.loadAt t v) := by
 unfold Instr.loadAt
 exact (G2.sureAddr v).bind fun a => G2.loadVar t a
theorem G2.fieldAt_slot (s : TypeId) (v : Value) (f : Nat) (hz : ∀ fs x, P.underlying s = some (.struct fs) → fs[f]? = some x → (P.info? x.type).any (fun i => i.size != 0)) : G2 P (Instr.fieldAt s v f) := by
 intro w x w' h
 unfold Instr.fieldAt at *
 rw [Sem.run_bind] at h
 cases hu : P.underlying s with
 | none => simp [Go.underlying, Go.program, Sem.run, hu, stuck] at h
 | some d =>
  have hru : ∀ W, (Go.underlying s).run P W = .ok d W := fun W => by simp [Go.underlying, Go.program, Sem.run, hu]
  rw [hru] at h
  simp only [Result.andThen_ok] at h
  cases d with
  | struct fs =>
   cases hf : fs[f]? with
   | none => simp [hf, stuck] at h
   | some y =>
    have hy := hz fs y hu hf
    cases hi : P.info? y.type with
    | none => simp [hi] at hy
    | some i =>
     have hs0 : i.size ≠ 0 := by simpa [hi] using hy
     have hsz : ∀ W, (Go.sizeOf y.type).run P W = .ok i.size W := fun W => by simp [Go.sizeOf, Go.typeInfo, Go.program, Sem.run, hi]
     cases v with
     | pointer a =>
      cases a with
      | none => simp [hf, Instr.sureAddr, stuck, Sem.run] at h
      | some a =>
       have hrun : ∀ W, (fieldPlace a y).run P W = .ok (a.add y.offset) W := fun W => by simp [fieldPlace, hsz, hs0]
       simp [hf, Instr.sureAddr, hrun] at h
       obtain ⟨rfl, rfl⟩ := h
       exact ⟨rfl, fun W _ => by simp [hru, hf, Instr.sureAddr, hrun]⟩
     | _ => simp [hf, Instr.sureAddr, stuck, Sem.run] at h
  | _ => simp [stuck] at h
theorem G2.indexAt (t : TypeId) (x i : Value) : G2 P (Instr.indexAt t x i) := by
 unfold Instr.indexAt
 repeat' (first | exact G2.pure _ | exact G2.halt _ | exact (KB.boundsPanic _ _ _ _).calm | exact G2.sureAddr _ | exact G2.asIntOf _ | exact G2.sizeOf _ | exact G2.underlying _ | refine G2.bind ?_ (fun _ => ?_) | split | dsimp only)
theorem G2.sliceBound (v : Value) (y : Nat) (c : BoundsCode) : G2 P (Instr.sliceBound v y c) := by
 unfold Instr.sliceBound
 repeat' (first | exact G2.pure _ | exact (KB.boundsPanic _ _ _ _).calm | exact G2.asIntOf _ | refine G2.bind ?_ (fun _ => ?_) | split)
theorem G2.sliceBounds (b : Bool) (len cap : Nat) (l h m : Option Value) : G2 P (Instr.sliceBounds b len cap l h m) := by
 unfold Instr.sliceBounds
 repeat' (first | exact G2.pure _ | exact G2.halt _ | exact G2.sliceBound _ _ _ | refine G2.bind ?_ (fun _ => ?_) | split)
theorem G2.slice (t : TypeId) (x : Value) (l h m : Option Value) : G2 P (Instr.slice t x l h m) := by
 unfold Instr.slice Go.asAddr
 repeat' (first | exact G2.pure _ | exact G2.halt _ | exact (KB.runtimePanic _).calm | exact G2.sizeOf _ | exact G2.underlying _ | exact G2.sliceBounds _ _ _ _ _ _ | refine G2.bind ?_ (fun _ => ?_) | split)
theorem G2.sliceAt (t : TypeId) (x : Value) (l h m : Option Value) : G2 P (Instr.sliceAt t x l h m) := by
 unfold Instr.sliceAt
 repeat' (first | exact G2.pure _ | exact G2.sureAddr _ | exact G2.sizeOf _ | exact G2.underlying _ | exact G2.sliceBounds _ _ _ _ _ _ | exact G2.slice _ _ _ _ _ | refine G2.bind ?_ (fun _ => ?_) | split)
theorem G2.index (t : TypeId) (x i : Value) : G2 P (Instr.index t x i) := by
 unfold Instr.index
 repeat' (first | exact G2.pure _ | exact G2.halt _ | exact (KB.boundsPanic _ _ _ _).calm | exact G2.asIntOf _ | exact G2.sizeOf _ | exact G2.underlying _ | exact G2.part _ _ _ | refine G2.bind ?_ (fun _ => ?_) | split)
theorem G2.field (t : TypeId) (x : Value) (f : Nat) : G2 P (Instr.field t x f) := by
 unfold Instr.field asAgg
 repeat' (first | exact G2.pure _ | exact G2.halt _ | exact G2.underlying _ | exact G2.part _ _ _ | refine G2.bind ?_ (fun _ => ?_) | split)
theorem G2.makeInterface (t : TypeId) (x : Value) : G2 P (Instr.makeInterface t x) := by
 unfold Instr.makeInterface
 repeat' (first | exact G2.pure _ | exact G2.halt _ | exact G2.underlying _ | refine G2.bind ?_ (fun _ => ?_) | split)
theorem G2.extract (x : Value) (i : Nat) : G2 P (Instr.extract x i) := by
 unfold Instr.extract
 repeat' (first | exact G2.pure _ | exact G2.halt _ | split)
theorem G2.mapM {l : List α} {f : α → Sem β} (hf : ∀ a, G2 P (f a)) : G2 P (l.mapM f) := by
 induction l with
 | nil => exact G2.pure _
 | cons a l ih =>
  rw [List.mapM_cons]
  exact (hf a).bind fun _ => ih.bind fun _ => G2.pure _
theorem G2.map {s : Sem α} {f : α → β} (hs : G2 P s) : G2 P (f <$> s) := by
 rw [← bind_pure_comp]
 exact hs.bind fun _ => G2.pure _
theorem G2.mapMA {l : Array α} {f : α → Sem β} (hf : ∀ a, G2 P (f a)) : G2 P (l.mapM f) := by
 rw [Array.mapM_eq_mapM_toList]
 exact (G2.mapM hf).map
theorem G2.build (t : TypeId) (ps : Array (Nat × Value)) : G2 P (Instr.build t ps) := by
 unfold Instr.build
 repeat' (first | exact G2.pure _ | exact G2.halt _ | exact G2.sizeOf _ | exact G2.underlying _ | exact G2.zeroValue _ | exact G2.mapMA (fun _ => (G2.sizeOf _).bind fun _ => G2.pure _) | refine G2.bind ?_ (fun _ => ?_) | split)
theorem G2.intDiv (op : BinOp) (k : IntKind) (x y : Int) : G2 P (Op.intDiv op k x y) := by
 unfold Op.intDiv
 split
 ·exact (KB.runtimePanic _).calm
 ·split <;> first | exact G2.pure _ | exact G2.halt _
theorem G2.shift (op : BinOp) (k : IntKind) (x : Int) (yk : IntKind) (y : Int) : G2 P (Op.shift op k x yk y) := by
 unfold Op.shift
 split
 ·exact (KB.runtimePanic _).calm
 ·dsimp only
  split <;> first | exact G2.pure _ | exact G2.halt _
theorem G2.binInt (op : BinOp) (t : TypeId) (k k' : IntKind) (a b : Int) : G2 P (Go.binOp op t (.int k a) (.int k' b)) := by
 have h1 : G2 P (if k ≠ k' then stuck "BinOp: operands of different kinds" else
  match op with
  | .add | .sub | .mul => Op.intArith op k a b
  | .quo | .rem => Op.intDiv op k a b
  | .and | .or | .xor | .andNot => Op.intBits op k a b
  | _ => Op.intCmp op a b : Sem Value) := by
  split
  ·exact G2.halt _
  ·cases op <;> first | exact G2.pure _ | exact G2.intDiv _ _ _ _ | exact G2.halt _
 cases op <;> first | exact h1 | (simp only [Go.binOp]; exact G2.shift _ _ _ _ _)
theorem G2.unary (op : UnOp) (x : Value) : G2 P (Op.unary op x) := by
 unfold Op.unary
 split <;> first | exact G2.pure _ | exact G2.halt _
theorem G2.lenSlice (ts : Array TypeId) (t : TypeId) (A : Option Addr) (n c : Nat) : G2 P (Builtin.len_ ts t #[.slice A n c]) := by
 unfold Builtin.len_
 repeat' (first | exact G2.pure _ | exact G2.halt _ | exact G2.underlying _ | (exfalso; simp_all; done) | refine G2.bind ?_ (fun _ => ?_) | split)
theorem G2.lenString (ts : Array TypeId) (t : TypeId) (s : ByteArray) : G2 P (Builtin.len_ ts t #[.string s]) := by
 unfold Builtin.len_
 repeat' (first | exact G2.pure _ | exact G2.halt _ | exact G2.underlying _ | (exfalso; simp_all; done) | refine G2.bind ?_ (fun _ => ?_) | split)
def KT (P : Program) (s : Sem Next) : Prop := ∀ w n w', s.run P w = .ok n w' → (∃ v, n = .value v) ∧ w' = w ∧ ∀ W, Below w.heap.size w W → s.run P W = .ok n W
theorem KT.of {s : Sem Value} (h : G2 P s) : KT P (do Pure.pure (.value (← s))) := fun w n w' hr => by
 rw [Sem.run_bind] at hr
 cases hs : s.run P w with
 | ok v w1 =>
  rw [hs] at hr
  simp only [Result.andThen_ok, Sem.run_pure, Result.ok.injEq] at hr
  obtain ⟨rfl, rfl⟩ := hr
  obtain ⟨rfl, h2⟩ := h w v w1 hs
  exact ⟨⟨v, rfl⟩, rfl, fun W hW => by rw [Sem.run_bind, h2 W hW]; simp⟩
 | halt e w1 => rw [hs] at hr; simp at hr
theorem KT.pure (v : Value) : KT P (Pure.pure (.value v)) := fun w n w' hr => by
 simp only [Sem.run_pure, Result.ok.injEq] at hr
 obtain ⟨rfl, rfl⟩ := hr
 exact ⟨⟨v, rfl⟩, rfl, fun W _ => by simp⟩
def isInt : Value → Bool
 | .int _ _ => true
 | _ => false
theorem isInt_form {v : Value} (h : isInt v = true) : ∃ k n, v = .int k n := by
 cases v <;> simp_all [isInt]
def noFunc : Value → Bool
 | .func _ _ _ => false
 | _ => true
def lenable : Value → Bool
 | .slice _ _ _ => true
 | .string _ => true
 | _ => false
def calmK (ρ : Operand → Value) : Op → Bool
 | .move _ | .assign _ | .pick .. | .load .. | .index .. | .indexAddr .. | .slice .. | .field .. | .extract .. | .makeInterface .. | .build .. | .unOp .. => true
 | .nilCheck x => noFunc (ρ x)
 | .binOp _ _ x y _ => isInt (ρ x) && isInt (ρ y)
 | .call { callee := .builtin .len, args, .. } => args.size == 1 && lenable (ρ (args.getD 0 (.tmp 0)))
 | _ => false
theorem eqGuard_int {op : BinOp} {t : TypeId} {x y : Operand} {k k' : IntKind} {a b : Int} : G2 P (eqGuard op t x y (.int k a) (.int k' b)) := by
 have e : eqGuard op t x y (.int k a) (.int k' b) = Pure.pure () := by cases op <;> rfl
 rw [e]
 exact G2.pure _
theorem calmV_k {ρ : Operand → Value} {o : Oper} (h : calmK ρ o.op = true) : KT P (execOp ρ o) := by
 obtain ⟨dst, op, type, pos, after, guard⟩ := o
 cases op <;> simp only [calmK] at h <;> simp only [execOp] <;> (try (cases h; done))
 case move x => exact KT.pure _
 case assign x => exact KT.pure _
 case pick c a b =>
  intro w n w' hr
  cases hc : ρ c <;> simp [hc, asBool, stuck, Sem.run] at hr
  obtain ⟨rfl, rfl⟩ := hr
  exact ⟨⟨_, rfl⟩, rfl, fun W _ => by simp [asBool]⟩
 case load t a => exact KT.of (G2.loadAt _ _)
 case index t x i => exact KT.of (G2.index _ _ _)
 case indexAddr t x i => exact KT.of (G2.indexAt _ _ _)
 case slice t x l hh m => exact KT.of (G2.sliceAt _ _ _ _ _)
 case field t x f => exact KT.of (G2.field _ _ _)
 case extract x i => exact KT.of (G2.extract _ _)
 case makeInterface t x => exact KT.of (G2.makeInterface _ _)
 case build t ps => exact KT.of (G2.build _ _)
 case unOp op t x => exact KT.of (G2.unary _ _)
 case nilCheck x =>
  split
  ·exact fun w n w' hr => absurd hr (KB.runtimePanic _ w n w')
  ·exact fun w n w' hr => absurd hr (KB.runtimePanic _ w n w')
  ·exact fun w n w' hr => absurd hr (KB.runtimePanic _ w n w')
  ·simp_all [noFunc]
  ·exact KT.pure _
 case binOp op t x y t' =>
  simp only [Bool.and_eq_true] at h
  obtain ⟨k, a, ha⟩ := isInt_form h.1
  obtain ⟨k', b, hb⟩ := isInt_form h.2
  rw [ha, hb]
  exact KT.of (eqGuard_int.bind fun _ => G2.binInt _ _ _ _ _ _)
 case call c =>
  obtain ⟨callee, args, tys⟩ := c
  cases callee <;> (try (cases h; done))
  rename_i b
  cases b <;> (try (cases h; done))
  simp only [Bool.and_eq_true, beq_iff_eq] at h
  obtain ⟨h1, h2⟩ := h
  obtain ⟨x, rfl⟩ : ∃ x, args = #[x] := by
   obtain ⟨l⟩ := args
   simp only [List.size_toArray] at h1
   obtain ⟨x, rfl⟩ := List.length_eq_one_iff.1 h1
   exact ⟨x, rfl⟩
  simp only [Array.getD, List.size_toArray, List.length_cons, List.length_nil] at h2
  have h2' : lenable (ρ x) = true := h2
  have hc : G2 P (Builtin.len_ tys type #[ρ x]) := by
   cases hv : ρ x <;> rw [hv] at h2' <;> first | exact G2.lenSlice _ _ _ _ _ | exact G2.lenString _ _ _ | (simp [lenable] at h2')
  have := KT.of hc
  intro w n w' hr
  have e : ∀ W, (do let d ← resolve ρ { callee := .builtin .len, args := #[x], argTypes := tys } type; invoke d.target d.args : Sem Next).run P W = (do Pure.pure (.value (← Builtin.len_ tys type #[ρ x])) : Sem Next).run P W := fun W => by
   simp [resolve, invoke, builtin]
  rw [e] at hr
  obtain ⟨q1, q2, q3⟩ := this w n w' hr
  exact ⟨q1, q2, fun W hW => by rw [e]; exact q3 W hW⟩
end
end Go.Proofs.YtaebeemnipafbaaGreatDoor
