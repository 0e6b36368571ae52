/-
  Proved here: how the arguments of a row are opened: numbers, digests, slices of bytes, of digests, of slices of bytes; the table of the digest. No condition on any program.
-/
import Derived.Test.YtkkmfkpanpjgbaaDoorOpen
import Derived.Test.YtkkmfkpanpjgbaaDoorSha
import Derived.Deep.Slices
import Derived.SizedLaws
import Derived.Lib.LaidTab
import Derived.LaidLaws
import Derived.Test.YtkkmfkpanpjgbaaDoorOpenA
set_option maxRecDepth 20000
set_option linter.unusedSimpArgs false
set_option linter.unusedVariables false
namespace Go.Proofs.YtkkmfkpanpjgbaaDoor
open Go.ChangeShapes Go.WideShapes Go.ChangeAt Go.RowKit Go.Deep

section
variable {P : Program} {H : Type} {enc : TypeId × Value → H} {W : World} {base : Nat} {spare : Nat → Bool} {held : Bool}

theorem open_digsS {r : Reach} {b0 : Nat} {t e e8 : TypeId} {v : Value} {d : DataW H} {p : List MemPlace} (ht : P.underlying t = some (.slice e)) (hte : P.underlying e = some (.array 32 e8)) (he : P.underlying e8 = some (.int .u8)) (hce : P.cellsOf e8 = 1) (hct : P.cellsOf e = 32)
    (hval : Value.okWide P W r b0 t v) (h : DataW.Trod enc P W base spare held t v d p) :
    ∃ A n c ds, v = .slice A n c ∧ SlR W A n c 32 (digsL ds) ∧ ((d = .nil ∧ n = 0) ∨ ∃ el sp, d = .slice el sp ∧ el.length = n) := by
  obtain ⟨a0, len0, cap0, rfl⟩ := okWide_slice ht hval
  obtain ⟨fuel, hf⟩ := h
  rcases open_slice ht hf with ⟨hcs, hx⟩ | ⟨a, len, cap, m, k, D, Pl, hcs, hb, hl, hm, hmm, hx, hel⟩
  · simp only [Value.cells, List.cons.injEq, Value.slice.injEq, and_true] at hcs
    obtain ⟨rfl, rfl, rfl⟩ := hcs
    simp only [Prod.mk.injEq] at hx
    exact ⟨none, 0, 0, [], rfl, SlR.nil_ W 32, .inl ⟨hx.1, rfl⟩⟩
  · simp only [Value.cells, List.cons.injEq, Value.slice.injEq, and_true] at hcs
    obtain ⟨rfl, rfl, rfl⟩ := hcs
    simp only [Prod.mk.injEq] at hx
    rw [hct] at hel
    have hlm : len0 ≤ m := by rw [hmm]; split <;> omega
    have hin : Inhabited Dig := ⟨zeroD⟩
    obtain ⟨bs, hbs⟩ := choose_below (α := Dig) (n := len0) (p := fun i b => W.cells? base (a.add (i * 32)) 32 = some (bytesL b.l)) (fun i hi => by
      obtain ⟨cs', h1, h2⟩ := hel i (by omega)
      obtain ⟨q, rfl⟩ := dig_of_trod hte he hce hct h2
      exact ⟨q, h1⟩)
    have hs := slr_of (W := W) (base := base) (A := some a) (n := len0) (c := cap0) (s := 32) (by decide) (fun i => bytesL (bs i).l) hl hm (fun _ => ⟨a, rfl, hbs⟩)
    refine ⟨some a, len0, cap0, (List.range len0).map bs, rfl, ?_, .inr ⟨_, _, hx.1, by simp⟩⟩
    have hfl : ∀ l : List Nat, l.flatMap (fun i => bytesL (bs i).l) = digsL (l.map bs) := by
      intro l
      induction l with
      | nil => rfl
      | cons x l ih => simp only [List.flatMap_cons, ih, List.map_cons, digsL]
    rw [hfl] at hs
    exact hs

end

/-! ## the table -/
def tableZ : List Int := tableN.map fun (n : Nat) => (n : Int)
theorem cellsR : Tryd.prog.cellsOf 89 = 64 := by kernel_rfl
theorem cells32 : Tryd.prog.cellsOf 81 = 1 := by kernel_rfl
theorem gTab : Tryd.prog.globalNamed "oathbook/sha.rounds" = some 1 := by kernel_rfl
theorem gTabType : (Tryd.prog.globals[1]?).map (·.type) = some 89 := by kernel_rfl
theorem tb_of {W : World} {rest : List (String × DataW Unit)} (h : laidMet Tryd.prog (("oathbook/sha.rounds", Lib.tabData .u32 tableZ) :: rest) W) : Tb W := by
  have ht := Lib.tabIs_of_head gTab gTabType Tryd.underlying89 Tryd.underlying81 cells32 cellsR h
  unfold Lib.TabIs World.var? at ht
  rw [gTab] at ht
  simp only [Option.bind_some] at ht
  split at ht
  · rename_i cs t fr hg
    simp only [Option.some.injEq] at ht
    subst ht
    exact ⟨t, fr, hg⟩
  · cases ht
end Go.Proofs.YtkkmfkpanpjgbaaDoor
