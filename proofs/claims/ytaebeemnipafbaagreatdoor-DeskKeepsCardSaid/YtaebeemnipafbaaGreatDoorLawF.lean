/-
  Proved here: a cut of a slice that is only read, as it reads in any other world; two results that are no variables. No condition on any program.
-/
import Derived.Test.YtaebeemnipafbaaGreatDoorLawB
set_option linter.unusedSimpArgs false
set_option linter.unusedVariables false
namespace Go.Proofs.YtaebeemnipafbaaGreatDoor
open Go.RowKit
section
variable {P : Program} {ops : Array Oper} {rest : List Oper} {o : Oper} {a : Act} {W V : World} {Q : Exit → Act → World → Prop} {d : Option Tmp}
theorem L_cutV (hd : o.dst = d) (hw : Region.wanted o (yielded ops a.tmps) = true) {T : TypeId} {x : Operand} {l h m : Option Operand} (ho : o.op = .slice T x l h m) {A : Option Addr} {n c : Nat} (hx : a.eval x = .slice A n c)
    {e : TypeId} (hu : P.underlying T = some (.slice e)) {z : Value} {s b : Nat} (he : ElemIs P e z s b) (hs0 : 0 < s) {xs : List Value} (hs : SlR V A n c s xs) (lo hi mx : Nat)
    (hl : (l.map a.eval = none ∧ lo = 0) ∨ ∃ k v, l.map a.eval = some v ∧ v = .int k ((lo : Nat) : Int)) (hh : (h.map a.eval = none ∧ hi = n ∧ m.map a.eval = none) ∨ ∃ k v, h.map a.eval = some v ∧ v = .int k ((hi : Nat) : Int)) (hm : (m.map a.eval = none ∧ mx = c) ∨ ∃ k v, m.map a.eval = some v ∧ v = .int k ((mx : Nat) : Int))
    (h1 : lo ≤ hi) (h2 : hi ≤ n) (h3 : hi ≤ mx) (h4 : mx ≤ c)
    (hk : ∀ (A' : Option Addr) (c' : Nat), SlR V A' (hi - lo) c' s ((xs.drop (lo * s)).take ((hi - lo) * s)) → wpList P ops Q rest (a.put d (.slice A' (hi - lo) c')) W) : wpList P ops Q (o :: rest) a W := by
  refine L_val hd hw ?_ (hk _ _ (hs.cut hs0 h1 h2 h3 h4))
  unfold execOp
  simp only [ho, hx]
  simp [run_cutS (P := P) (W := W) hu he hl hh hm h1 h3 h4]
end
section
variable {P : Program} {a : Act} {W : World}
theorem bp_two {fn : Func} {R : Ending → World → Prop} {p q : Tmp} (hr : fn.results = #[.tmp p, .tmp q]) (hd : a.defers = []) {v1 v2 : Value} (hp : a.tmps.toList[p]? = some v1) (hq : a.tmps.toList[q]? = some v2) (hR : R (.returned (.tuple #[v1, v2])) W) : bodyPost P fn R .ret a W := by
  have hp' : a.tmps[p]?.getD undef = v1 := by
    have : a.tmps[p]? = some v1 := by simpa using hp
    simp [this]
  have hq' : a.tmps[q]?.getD undef = v2 := by
    have : a.tmps[q]? = some v2 := by simpa using hq
    simp [this]
  refine bodyPost_ret ?_ hd hR
  simp [results, hr, hp', hq']
end
end Go.Proofs.YtaebeemnipafbaaGreatDoor
