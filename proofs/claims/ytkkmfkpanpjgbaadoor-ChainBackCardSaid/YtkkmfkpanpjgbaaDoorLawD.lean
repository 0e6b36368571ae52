/-
  Proved here: the law of '[]byte("..")': the row that was written out is marked behind its last cell, and reads as before. No condition on any program.
-/
import Derived.Test.YtkkmfkpanpjgbaaDoorLawB
set_option linter.unusedSimpArgs false
set_option linter.unusedVariables false
namespace Go.Proofs.YtkkmfkpanpjgbaaDoor
open Go.RowKit

theorem some_addr {a b c d : Nat} (h : (some ⟨a, b, none⟩ : Option Addr) = some ⟨c, d, none⟩) : a = c ∧ b = d := by
  simpa using h
section
variable {P : Program} {ops : Array Oper} {rest : List Oper} {o : Oper} {a : Act} {W w0 : World} {Q : Exit → Act → World → Prop} {L : List Res} {d : Option Tmp}

theorem freeze_here {g n : Nat} {cs : Array Value} {e : TypeId} (h : W.heap[g]? = some (.cells cs e (0, 0))) : (W.freeze ⟨g, n, none⟩ 1).heap[g]? = some (.cells cs e (n, n + 1)) := by
  unfold World.freeze
  rw [if_neg (by decide)]
  simp [Array.getElem?_modify, h]
theorem freeze_else {g n k : Nat} (h : k ≠ g) : (W.freeze ⟨g, n, none⟩ 1).heap[k]? = W.heap[k]? := by
  unfold World.freeze
  rw [if_neg (by decide)]
  simp [Array.getElem?_modify, Ne.symm h]
theorem L_convB (hd : o.dst = d) (hw : Region.wanted o (yielded ops a.tmps) = true) (hst : St w0 W L) {t e : TypeId} {x : Operand} (ho : o.op = .convert t t x) {A : Option Addr} {n c : Nat} (hx : a.eval x = .slice A n c)
    (ht : P.underlying t = some (.slice e)) (he : P.underlying e = some (.int .u8)) (k : Nat) {ee s : Nat} {xs : List Value} (hk : L[k]? = some (.row A n c ee s xs)) (hn : 0 < n)
    (h : ∀ (g : Nat) (ob : Obj) (W' : World), St w0 W' (L.set k (.obj g ob)) → SlR W' A n c s xs → wpList P ops Q rest (a.put d (.slice A n c)) W') : wpList P ops Q (o :: rest) a W := by
  rcases hst.at_ k hk with ⟨_, h0, _⟩ | ⟨g, off, cur, rfl, hg, hr⟩
  · omega
  have hsh : W.shape? g = some (ee, cur.size) := by simp [World.shape?, hg]
  have h1 := freeze_here (n := cur.size) hg
  have hst' : St w0 (W.freeze ⟨g, cur.size, none⟩ 1) (L.set k (.obj g (.cells cur ee (cur.size, cur.size + 1)))) :=
    hst.turnAt k hk rfl rfl rfl (by simp [World.freeze]) (fun j _ hj => freeze_else (fun e => hj (by simp [Res.dom, e]))) (fun g' hg' => .inl (by simpa [Res.dom] using hg')) h1
  refine L_val hd hw ?_ (h g _ _ hst' ⟨hr.len, hr.nc, hr.cm, fun _ => ⟨g, off, rfl, rangeAt_of_cells h1 hr.cells⟩⟩)
  unfold execOp
  simp only [ho, hx]
  simp [convert, run_underlying ht, run_underlying he, markStringish, hsh]
end
end Go.Proofs.YtkkmfkpanpjgbaaDoor
