/-
  Proved here: short names of laws. No condition on any program.
-/
import Derived.Test.YtaebeemnipafbaaGreatDoorProg
import Derived.Test.YtaebeemnipafbaaGreatDoorLaw
import Derived.Lib.Hide
namespace Go.Proofs.YtaebeemnipafbaaGreatDoor
open Go.RowKit
theorem Gc {α : Type _} {a : α} {l m : List α} : (a :: l) ++ m = a :: (l ++ m) := rfl
theorem Gd {α : Type _} {l : List α} : [] ++ l = l := rfl
theorem Ge {α : Type _} {a b : α} {l : List α} : (a :: l).set 0 b = b :: l := rfl
theorem Gf {α : Type _} {a b : α} {l : List α} {n : Nat} : (a :: l).set (n + 1) b = a :: l.set n b := rfl
theorem St.tr1 {w0 W W' : World} {L : List Res} {r : Res} (h : St w0 W L) (h2 : St W W' [r]) : St w0 W' (r :: L) := h.trans h2
theorem Gh {n : Nat} {w : World} {Q : Prop} (h : Q) : Below n w w ∧ Q := ⟨Below.refl _ _, h⟩
theorem Gi {w w' : World} {L : List Res} {Q : Prop} (h2 : St w w' L) (h : Q) : Below w.heap.size w w' ∧ Q := ⟨h2.below, h⟩
theorem Gg {p : Prop} (h : p) : Hid p := h
section
variable {P : Program} {ops : Array Oper} {rest : List Oper} {o : Oper} {a : Act} {W w0 : World} {Q : Exit → Act → World → Prop} {L : List Res}
theorem Gj (t : Tmp) {T : TypeId} {x : Operand} (h : (o.dst, Region.wanted o (yielded ops a.tmps), o.op) = (some t, true, Op.load T x)) : type_of% (@Gx P ops rest o a W Q (some t) (congrArg (·.1) h) (congrArg (·.2.1) h) T x (congrArg (·.2.2) h)) :=
  @Gx P ops rest o a W Q (some t) (congrArg (·.1) h) (congrArg (·.2.1) h) T x (congrArg (·.2.2) h)
theorem Gl (t : Tmp) {T : TypeId} {x : Operand} (h : (o.dst, Region.wanted o (yielded ops a.tmps), o.op) = (some t, true, Op.load T x)) : type_of% (@GJ P ops rest o a W Q (some t) (congrArg (·.1) h) (congrArg (·.2.1) h) T x (congrArg (·.2.2) h)) :=
  @GJ P ops rest o a W Q (some t) (congrArg (·.1) h) (congrArg (·.2.1) h) T x (congrArg (·.2.2) h)
theorem Gn (t : Tmp) {T : TypeId} {x : Operand} (h : (o.dst, Region.wanted o (yielded ops a.tmps), o.op) = (some t, true, Op.load T x)) : type_of% (@GU P ops rest o a W Q (some t) (congrArg (·.1) h) (congrArg (·.2.1) h) T x (congrArg (·.2.2) h)) :=
  @GU P ops rest o a W Q (some t) (congrArg (·.1) h) (congrArg (·.2.1) h) T x (congrArg (·.2.2) h)
theorem Gk (t : Tmp) {T : TypeId} (h : (o.dst, Region.wanted o (yielded ops a.tmps), o.op) = (some t, true, Op.alloc T)) : type_of% (@GC P ops rest o a W Q (some t) (congrArg (·.1) h) (congrArg (·.2.1) h) T (congrArg (·.2.2) h)) :=
  @GC P ops rest o a W Q (some t) (congrArg (·.1) h) (congrArg (·.2.1) h) T (congrArg (·.2.2) h)
theorem Gm (t : Tmp) {T : TypeId} {x : Operand} (h : (o.dst, Region.wanted o (yielded ops a.tmps), o.op) = (some t, true, Op.box T x)) : type_of% (@GV P ops rest o a W Q (some t) (congrArg (·.1) h) (congrArg (·.2.1) h) T x (congrArg (·.2.2) h)) :=
  @GV P ops rest o a W Q (some t) (congrArg (·.1) h) (congrArg (·.2.1) h) T x (congrArg (·.2.2) h)
theorem Gp (t : Tmp) {T : TypeId} {x y : Operand} (h : (o.dst, Region.wanted o (yielded ops a.tmps), o.op) = (some t, true, Op.indexAddr T x y)) : type_of% (@G9 P ops rest o a W Q (some t) (congrArg (·.1) h) (congrArg (·.2.1) h) T x y (congrArg (·.2.2) h)) :=
  @G9 P ops rest o a W Q (some t) (congrArg (·.1) h) (congrArg (·.2.1) h) T x y (congrArg (·.2.2) h)
theorem Gq (t : Tmp) {T : TypeId} {n : Nat} {ps : Array (Nat × Operand)} (h : (o.dst, Region.wanted o (yielded ops a.tmps), o.op) = (some t, true, Op.buildSlice T n ps)) : type_of% (@G0 P ops rest o a W Q (some t) (congrArg (·.1) h) (congrArg (·.2.1) h) T n ps (congrArg (·.2.2) h)) :=
  @G0 P ops rest o a W Q (some t) (congrArg (·.1) h) (congrArg (·.2.1) h) T n ps (congrArg (·.2.2) h)
theorem Gr (x y : Tmp) (Ga : St w0 W L) {T : TypeId} (h : (o.dst, Region.wanted o (yielded ops a.tmps), o.op) = (none, true, Op.store T (.tmp x) (.tmp y))) : type_of% (@Gz P ops rest o a W w0 Q L (congrArg (·.1) h) (congrArg (·.2.1) h) Ga T (.tmp x) (.tmp y) (congrArg (·.2.2) h)) :=
  @Gz P ops rest o a W w0 Q L (congrArg (·.1) h) (congrArg (·.2.1) h) Ga T (.tmp x) (.tmp y) (congrArg (·.2.2) h)
theorem Gs (x y : Tmp) (Ga : St w0 W L) {T : TypeId} (h : (o.dst, Region.wanted o (yielded ops a.tmps), o.op) = (none, true, Op.store T (.tmp x) (.tmp y))) : type_of% (@Kc P ops rest o a W w0 Q L (congrArg (·.1) h) (congrArg (·.2.1) h) Ga T (.tmp x) (.tmp y) (congrArg (·.2.2) h)) :=
  @Kc P ops rest o a W w0 Q L (congrArg (·.1) h) (congrArg (·.2.1) h) Ga T (.tmp x) (.tmp y) (congrArg (·.2.2) h)
theorem Gt (x y : Tmp) (Ga : St w0 W L) {T : TypeId} (h : (o.dst, Region.wanted o (yielded ops a.tmps), o.op) = (none, true, Op.store T (.tmp x) (.tmp y))) : type_of% (@Jh P ops rest o a W w0 Q L (congrArg (·.1) h) (congrArg (·.2.1) h) Ga T (.tmp x) (.tmp y) (congrArg (·.2.2) h)) :=
  @Jh P ops rest o a W w0 Q L (congrArg (·.1) h) (congrArg (·.2.1) h) Ga T (.tmp x) (.tmp y) (congrArg (·.2.2) h)
end
theorem uz3 : type_of% Tryz.underlying3 := Tryz.underlying3
theorem uz4 : type_of% Tryz.underlying4 := Tryz.underlying4
theorem uz5 : type_of% Tryz.underlying5 := Tryz.underlying5
theorem uz9 : type_of% Tryz.underlying9 := Tryz.underlying9
theorem uz22 : type_of% Tryz.underlying22 := Tryz.underlying22
theorem uz23 : type_of% Tryz.underlying23 := Tryz.underlying23
theorem uz24 : type_of% Tryz.underlying24 := Tryz.underlying24
theorem uz27 : type_of% Tryz.underlying27 := Tryz.underlying27
theorem uz28 : type_of% Tryz.underlying28 := Tryz.underlying28
theorem uz32 : type_of% Tryz.underlying32 := Tryz.underlying32
theorem uz34 : type_of% Tryz.underlying34 := Tryz.underlying34
theorem uz36 : type_of% Tryz.underlying36 := Tryz.underlying36
theorem uz41 : type_of% Tryz.underlying41 := Tryz.underlying41
theorem uz44 : type_of% Tryz.underlying44 := Tryz.underlying44
theorem uz46 : type_of% Tryz.underlying46 := Tryz.underlying46
theorem uz65 : type_of% Tryz.underlying65 := Tryz.underlying65
theorem uz69 : type_of% Tryz.underlying69 := Tryz.underlying69
theorem uz77 : type_of% Tryz.underlying77 := Tryz.underlying77
theorem uz78 : type_of% Tryz.underlying78 := Tryz.underlying78
theorem uz80 : type_of% Tryz.underlying80 := Tryz.underlying80
theorem uz85 : type_of% Tryz.underlying85 := Tryz.underlying85
theorem uz93 : type_of% Tryz.underlying93 := Tryz.underlying93
theorem uz110 : type_of% Tryz.underlying110 := Tryz.underlying110
theorem uz122 : type_of% Tryz.underlying122 := Tryz.underlying122
theorem uz125 : type_of% Tryz.underlying125 := Tryz.underlying125
theorem uz137 : type_of% Tryz.underlying137 := Tryz.underlying137
theorem uz143 : type_of% Tryz.underlying143 := Tryz.underlying143
theorem uz155 : type_of% Tryz.underlying155 := Tryz.underlying155
theorem uz158 : type_of% Tryz.underlying158 := Tryz.underlying158
theorem uz162 : type_of% Tryz.underlying162 := Tryz.underlying162
theorem uz165 : type_of% Tryz.underlying165 := Tryz.underlying165
theorem uz171 : type_of% Tryz.underlying171 := Tryz.underlying171
theorem uz183 : type_of% Tryz.underlying183 := Tryz.underlying183
theorem uz187 : type_of% Tryz.underlying187 := Tryz.underlying187
theorem uz196 : type_of% Tryz.underlying196 := Tryz.underlying196
theorem uz198 : type_of% Tryz.underlying198 := Tryz.underlying198
theorem uz203 : type_of% Tryz.underlying203 := Tryz.underlying203
theorem uz225 : type_of% Tryz.underlying225 := Tryz.underlying225
theorem uz230 : type_of% Tryz.underlying230 := Tryz.underlying230
theorem uz261 : type_of% Tryz.underlying261 := Tryz.underlying261
theorem uz268 : type_of% Tryz.underlying268 := Tryz.underlying268
end Go.Proofs.YtaebeemnipafbaaGreatDoor
