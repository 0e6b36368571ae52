/-
  Proved here: laws of a proof's folder: how it lies in memory, how it is built; two and three results that lie in cells. No condition.
-/
import Derived.Test.YtfpppmamkmaneaaDoorGrowProof
set_option maxRecDepth 20000
set_option linter.unusedSimpArgs false
set_option linter.unusedVariables false
namespace Go.Proofs.YtfpppmamkmaneaaDoor
open Go.RowKit

/-- a folder's cells -/
def fArr (old : Dig) (A : Option Addr) (n c : Nat) : Array Value := old.arr.push (.slice A n c)
theorem fArr_size (old : Dig) (A : Option Addr) (n c : Nat) : (fArr old A n c).size = 33 := by simp [fArr, Dig.size]
theorem fArr_at (old : Dig) (A : Option Addr) (n c : Nat) : (fArr old A n c)[32]? = some (.slice A n c) := by
  have h := Dig.size old
  rw [fArr, Array.getElem?_push, if_pos h.symm]
theorem fArr_set (old : Dig) (A B : Option Addr) (n c m d : Nat) : (fArr old A n c).setIfInBounds 32 (.slice B m d) = fArr old B m d := by
  have h := Dig.size old
  apply Array.ext_getElem?
  intro i
  rw [Array.getElem?_setIfInBounds, fArr_size, fArr, fArr, Array.getElem?_push, Array.getElem?_push, h]
  by_cases hi : 32 = i
  · subst hi; simp
  · rw [if_neg hi, if_neg (by omega), if_neg (by omega)]
theorem fArr_old {W : World} {g : Nat} {t : TypeId} {fr : Nat × Nat} {old : Dig} {A : Option Addr} {n c : Nat} (h : W.heap[g]? = some (.cells (fArr old A n c) t fr)) : W.rangeAt g 0 old.arr.toList := rangeAt_of_cells h fun j v hv => by
  have hj : j < 32 := by
    have := (List.getElem?_eq_some_iff.1 hv).1
    rw [Array.length_toList, Dig.size] at this
    exact this
  have h := Dig.size old
  rw [Nat.zero_add, fArr, Array.getElem?_push, if_neg (by omega)]
  simpa using hv
theorem el_grow_folder : ElemIs Tryd.prog 86 (.agg (fArr zeroD none 0 0)) 33 56 := by unfold ElemIs; kernel_rfl
theorem el_S_api_Digest : ElemIs Tryd.prog 22 (.slice none 0 0) 1 24 := by unfold ElemIs; kernel_rfl
theorem el_error : ElemIs Tryd.prog 27 (.nilIface) 1 16 := by unfold ElemIs; kernel_rfl
section
variable {ops : Array Oper} {rest : List Oper} {o : Oper} {a : Act} {W : World} {Q : Exit → Act → World → Prop} {d : Option Tmp}
theorem L_buildF (hd : o.dst = d) (hw : Region.wanted o (yielded ops a.tmps) = true) {x y : Operand} (ho : o.op = .build 86 #[(0, x), (1, y)]) {old : Dig} (hx : a.eval x = .agg old.arr) {A : Option Addr} {n c : Nat} (hy : a.eval y = .slice A n c)
    (h : wpList Tryd.prog ops Q rest (a.put d (.agg (fArr old A n c))) W) : wpList Tryd.prog ops Q (o :: rest) a W := by
  refine L_val hd hw ?_ h
  unfold execOp
  simp only [ho]
  have hz := el_grow_folder.run_zero W
  have h1 := el_api_Digest.run_size W
  have h2 := el_S_api_Digest.run_size W
  have h3 : (fArr zeroD none 0 0).size = 33 := fArr_size _ _ _ _
  have h4 : Array.foldl (fun (cs : Array Value) (x : Value × Nat) => cs.setIfInBounds x.snd x.fst) (fArr zeroD none 0 0) old.arr.zipIdx 0 32 = fArr old none 0 0 := by
    have h := Dig.size old
    have h' := Dig.size zeroD
    have e1 : 32 = old.arr.zipIdx.size := by simp [h]
    have h5 := fold_put old.arr.toList 0 0 (fArr zeroD none 0 0) (by simp [h, h3])
    simp only [Nat.zero_add] at h5
    rw [e1, ← Array.foldl_toList, Array.toList_zipIdx, h5]
    unfold putAt fArr
    apply Array.ext'
    simp [h, h']
  simp [Instr.build, hz, run_underlying Tryd.underlying86, h1, h2, hx, hy, Value.cells, Instr.fill, h3, Dig.size, h4, fArr_size, fArr_set]
end
section
variable {P : Program} {a : Act} {W : World}
theorem bp_cell2 {fn : Func} {R : Ending → World → Prop} {p q : Tmp} {ty ty' : TypeId} (hr : fn.results = #[.cell p ty, .cell q ty']) (hd : a.defers = []) {g g' : Nat} (hp : a.tmps.toList[p]? = some (.pointer (some ⟨g, 0, none⟩))) (hq : a.tmps.toList[q]? = some (.pointer (some ⟨g', 0, none⟩))) {t t' : TypeId} {cs cs' : Array Value} {fr fr' : Nat × Nat} (hg : W.heap[g]? = some (.cells cs t fr)) (hg' : W.heap[g']? = some (.cells cs' t' fr'))
    {td td' : TypeDesc} (hu : P.underlying ty = some td) (hrow : td.isRow = true) (hu' : P.underlying ty' = some td') (hrow' : td'.isRow = true) {z z' : Value} {s s' b b' : Nat} (he : ElemIs P ty z s b) (hs : cs.size = s) (he' : ElemIs P ty' z' s' b') (hs' : cs'.size = s') (hR : R (.returned (.tuple #[.agg cs, .agg cs'])) W) : bodyPost P fn R .ret a W := by
  have hp' : a.tmps[p]?.getD undef = .pointer (some ⟨g, 0, none⟩) := by
    have : a.tmps[p]? = some (.pointer (some ⟨g, 0, none⟩)) := by simpa using hp
    simp [this]
  have hq' : a.tmps[q]?.getD undef = .pointer (some ⟨g', 0, none⟩) := by
    have : a.tmps[q]? = some (.pointer (some ⟨g', 0, none⟩)) := by simpa using hq
    simp [this]
  refine bodyPost_ret ?_ hd hR
  simp [results, hr, hp', hq', asAddr, run_loadVar_row W g t ty cs fr td hg hu (by cases td <;> simp_all [TypeDesc.isRow]) (by rw [he.size, hs]), run_loadVar_row W g' t' ty' cs' fr' td' hg' hu' (by cases td' <;> simp_all [TypeDesc.isRow]) (by rw [he'.size, hs'])]
end
theorem St.keep3 {w0 W : World} {L : List Res} {a x y z : Res} (h : St w0 W (a :: x :: y :: z :: L)) : St w0 W (a :: L) := h.drop ((((List.Sublist.refl L).cons z).cons y).cons x |>.cons_cons a)
theorem St.keep2 {w0 W : World} {L : List Res} {a x y : Res} (h : St w0 W (a :: x :: y :: L)) : St w0 W (a :: L) := h.drop (((List.Sublist.refl L).cons y).cons x |>.cons_cons a)
end Go.Proofs.YtfpppmamkmaneaaDoor
