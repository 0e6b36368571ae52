/-
  Proved here: how a struct is built out of some of its fields, whatever the struct. No condition on any program but what it names.
-/
import Derived.Test.YtaebeemnipafbaaGreatDoorLaw
import Derived.Laws.Tables
set_option maxRecDepth 20000
set_option linter.unusedSimpArgs false
set_option linter.unusedVariables false
namespace Go.Proofs.YtaebeemnipafbaaGreatDoor
open Go.RowKit

/-- parts put at their places -/
def putAll (cs : Array Value) : List (Nat × List Value) → Array Value
  | [] => cs
  | (off, vs) :: r => putAll (putAt cs off vs) r
theorem putAt_size {cs : Array Value} {o : Nat} {vs : List Value} (h : o + vs.length ≤ cs.size) : (putAt cs o vs).size = cs.size := by
  simp only [putAt, List.size_toArray, List.length_append, List.length_take, List.length_drop, Array.length_toList]
  omega
theorem fill_one {f : Nat → Option (Nat × Nat)} {cs : Array Value} {i off : Nat} {v : Value} {vs : List Value} (hf : f i = some (off, vs.length)) (hv : v.cells.toList = vs) (hb : off + vs.length ≤ cs.size) (rest : List (Nat × Value)) :
    Instr.fill f cs ((i, v) :: rest) = Instr.fill f (putAt cs off vs) rest := by
  have hl : v.cells.size = vs.length := by rw [← hv, Array.length_toList]
  have hz : (v.cells.zipIdx.foldl (fun cs x => match x with | (c, j) => cs.setIfInBounds (off + j) c) cs) = putAt cs off vs := by
    have := fold_put vs 0 off cs (by simpa using hb)
    rw [← Array.foldl_toList, Array.toList_zipIdx, hv]
    simpa using this
  rw [Instr.fill, hf]
  simp only
  rw [if_neg (by rw [hl]; simp; omega)]
  exact congrArg (fun c => Instr.fill f c rest) hz
/-- the parts are of their sizes -/
def Fits (f : Nat → Option (Nat × Nat)) (n : Nat) : List (Nat × Value) → List (Nat × List Value) → Prop
  | [], [] => True
  | (i, v) :: ps, (off, vs) :: qs => f i = some (off, vs.length) ∧ v.cells.toList = vs ∧ off + vs.length ≤ n ∧ Fits f n ps qs
  | _, _ => False
theorem fill_all {f : Nat → Option (Nat × Nat)} {n : Nat} : ∀ (ps : List (Nat × Value)) (qs : List (Nat × List Value)) (cs : Array Value), cs.size = n → Fits f n ps qs → Instr.fill f cs ps = some (putAll cs qs)
  | [], [], cs, _, _ => rfl
  | (i, v) :: ps, (off, vs) :: qs, cs, hn, h => by
    obtain ⟨h1, h2, h3, h4⟩ := h
    rw [fill_one h1 h2 (by omega), putAll]
    exact fill_all ps qs _ (by rw [putAt_size (by omega), hn]) h4
  | [], _ :: _, _, _, h => absurd h (by simp [Fits])
  | _ :: _, [], _, _, h => absurd h (by simp [Fits])
section
variable {P : Program} {ops : Array Oper} {rest : List Oper} {o : Oper} {a : Act} {W : World} {Q : Exit → Act → World → Prop} {d : Option Tmp}
/-- 'T{..}' with any of its fields -/
theorem L_buildT (hd : o.dst = d) (hw : Region.wanted o (yielded ops a.tmps) = true) {T : TypeId} {parts : Array (Nat × Operand)} (ho : o.op = .build T parts) {fields : Array Field} (hu : P.underlying T = some (.struct fields)) {cs : Array Value} {s b : Nat} (he : ElemIs P T (.agg cs) s b)
    (pl : List (Nat × Nat)) (hpl : fields.toList.mapM (fun f => (P.info? f.type).map fun i => (f.offset, i.size)) = some pl) {ps : List (Nat × Value)} (hp : parts.toList.map (fun p => (p.1, a.eval p.2)) = ps) {qs : List (Nat × List Value)}
    (hq : Fits (pl[·]?) cs.size ps qs) {r : Array Value} (hr : putAll cs qs = r)
    (h : wpList P ops Q rest (a.put d (.agg r)) W) : wpList P ops Q (o :: rest) a W := by
  obtain ⟨it, hit, hz, _⟩ := he.parts
  have hb : P.built T (parts.map fun p => (p.1, a.eval p.2)).toList = some r := by
    have h3 := fill_all ps qs cs rfl hq
    rw [hr] at h3
    unfold Program.built
    simp only [hit, hu, hz, hpl, Value.cells, Array.toList_map, hp]
    simpa using h3
  exact L_val hd hw (by unfold execOp; simp only [ho]; simp [run_build W T _ r hb]) h
end
end Go.Proofs.YtaebeemnipafbaaGreatDoor
