/-
  Proved here: the building of an array of eight one-cell parts, at a plain region's list. No condition on any program.
-/
import Derived.Test.YtaebeemnipafbaaGreatDoorDig
import Derived.Test.YtaebeemnipafbaaGreatDoorSq
set_option linter.unusedSimpArgs false
set_option linter.unusedVariables false
set_option maxRecDepth 100000
set_option maxHeartbeats 200000000
namespace Go.Proofs.YtaebeemnipafbaaGreatDoor
open Go.RowKit
theorem M3 {v : Value} (h : v.oneCell' = true) : v.cells = #[v] := by
 cases v <;> simp_all [Value.oneCell', Value.cells]
theorem fill8 (z0 z1 z2 z3 z4 z5 z6 z7 v0 v1 v2 v3 v4 v5 v6 v7 : Value) (h0 : v0.oneCell' = true) (h1 : v1.oneCell' = true) (h2 : v2.oneCell' = true) (h3 : v3.oneCell' = true) (h4 : v4.oneCell' = true) (h5 : v5.oneCell' = true) (h6 : v6.oneCell' = true) (h7 : v7.oneCell' = true) :
  Instr.fill (fun i => some (i * 1, 1)) #[z0, z1, z2, z3, z4, z5, z6, z7] [(0, v0), (1, v1), (2, v2), (3, v3), (4, v4), (5, v5), (6, v6), (7, v7)] = some #[v0, v1, v2, v3, v4, v5, v6, v7] := by
 simp [Instr.fill, M3 h0, M3 h1, M3 h2, M3 h3, M3 h4, M3 h5, M3 h6, M3 h7]
theorem wpl_build8 {P : Program} {ops : Array Oper} {rest : List Oper} {o : Oper} {a : Act} {W : World} {Q : Exit → Act → World → Prop} (hgd : o.guard = none) (T : TypeId) (x0 x1 x2 x3 x4 x5 x6 x7 : Operand)
  (ho : o.op = .build T #[(0, x0), (1, x1), (2, x2), (3, x3), (4, x4), (5, x5), (6, x6), (7, x7)]) {e : TypeId} {z : Value} {b bb : Nat} (hu : P.underlying T = some (.array 8 e)) (he : GW P e z 1 b)
  {z0 z1 z2 z3 z4 z5 z6 z7 : Value} (hz : GW P T (.agg #[z0, z1, z2, z3, z4, z5, z6, z7]) 8 bb) {v0 v1 v2 v3 v4 v5 v6 v7 : Value}
  (e0 : a.eval x0 = v0) (e1 : a.eval x1 = v1) (e2 : a.eval x2 = v2) (e3 : a.eval x3 = v3) (e4 : a.eval x4 = v4) (e5 : a.eval x5 = v5) (e6 : a.eval x6 = v6) (e7 : a.eval x7 = v7)
  (h0 : v0.oneCell' = true) (h1 : v1.oneCell' = true) (h2 : v2.oneCell' = true) (h3 : v3.oneCell' = true) (h4 : v4.oneCell' = true) (h5 : v5.oneCell' = true) (h6 : v6.oneCell' = true) (h7 : v7.oneCell' = true)
  (h : wpList P ops Q rest (a.put o.dst (.agg #[v0, v1, v2, v3, v4, v5, v6, v7])) W) : wpList P ops Q (o :: rest) a W := by
 refine wpl_run hgd ?_ h
 have hf := fill8 z0 z1 z2 z3 z4 z5 z6 z7 v0 v1 v2 v3 v4 v5 v6 v7 h0 h1 h2 h3 h4 h5 h6 h7
 unfold execOp
 simp only [ho]
 simp [Instr.build, hz.run_zero, run_underlying hu, he.run_size, Value.cells, e0, e1, e2, e3, e4, e5, e6, e7]
 simp only [Nat.mul_one] at hf
 rw [hf]
 rfl
end Go.Proofs.YtaebeemnipafbaaGreatDoor
