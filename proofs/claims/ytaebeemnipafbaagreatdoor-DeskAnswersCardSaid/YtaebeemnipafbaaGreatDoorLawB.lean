/-
  Proved here: more laws of single operations: append to a full slice that is only read; the results of a call; slices of arrays. No condition on any program.
-/
import Derived.Test.YtaebeemnipafbaaGreatDoorLaw
import Derived.Test.YtaebeemnipafbaaGreatDoorSq
set_option linter.unusedSimpArgs false
set_option linter.unusedVariables false
set_option maxRecDepth 100000
set_option maxHeartbeats 200000000
namespace Go.Proofs.YtaebeemnipafbaaGreatDoor
open Go.RowKit
section
variable {P : Program} {ops : Array Oper} {rest : List Oper} {o : Oper} {a : Act} {W w0 : World} {Q : Exit → Act → World → Prop} {L : List Res} {d : Option Tmp}
theorem L_appendF (hd : o.dst = d) (hw : Region.wanted o (yielded ops a.tmps) = true) {x y : Operand} {t : TypeId} (ho : o.op = .call { callee := .builtin .append, args := #[x, y], argTypes := #[t, t] })
  {A B : Option Addr} {n m dd : Nat} (hx : a.eval x = .slice A n n) (hy : a.eval y = .slice B m dd) {e s : Nat} (ht : P.underlying t = some (.slice e)) {z : Value} {b : Nat}
  (he : GW P e z s b) (hzs : z.cells.size = s) (hb0 : 0 < b) {xs news : List Value} (hs : SlR W A n n s xs) (hr : SlR W B m dd s news) (hn0 : 0 < n) (hm0 : 0 < m) (hb : (n + m) * b ≤ 140737488355328)
  (h : ∀ (A' : Option Addr) (c' : Nat) (W' : World), St W W' [.row A' (n + m) c' e s (xs ++ news)] → wpList P ops Q rest (a.put d (.slice A' (n + m) c')) W') : wpList P ops Q (o :: rest) a W := by
 obtain ⟨i, hi, hiz, his, hib⟩ := he.parts
 subst his
 subst hib
 obtain ⟨bb, oo, rfl, hra⟩ := hr.2.2.2 hm0
 obtain ⟨bx, ox, rfl, hrx⟩ := hs.2.2.2 hn0
 have hnm : n + m ≤ 140737488355328 := Nat.le_trans (Nat.le_mul_of_pos_right _ hb0) hb
 have hmax : n + m ≤ maxLen := by simp only [maxLen]; omega
 have hfit := growslice_fits (need := n + m) (old := n) (bytes := i.bytes) (by omega) hb
 have hrun := run_append_grow (P := P) W t o.type e i z ht hi hiz ⟨bx, ox, none⟩ n n xs hs.1 (Mr hrx) ⟨bb, oo, none⟩ m dd news hr.1 (Mr hra) (by omega) (by omega) hfit
 have hge := grownCap_ge W (n + m) n e
 have hcm := grownCap_le_maxLen W (n + m) n e hmax
 have hl : (xs ++ news).length = (n + m) * i.size := by rw [List.length_append, hs.1, hr.1, Nat.add_mul]
 have h2 := (St.refl W).drew.allocRow e (rowIn_new (n := n + m) (c := grownCap W (n + m) n e) (s := i.size) (z := z.cells) hl hzs hge hcm)
 refine Js hd hw ?_ (h _ _ _ h2)
 unfold execOp
 simp only [ho, resolve, invoke, builtin, Sem.run_bind, Sem.run_pure, Result.andThen_ok, List.map_toArray, List.map_cons, List.map_nil, hx, hy]
 have hrun' : (Builtin.append_ #[t, t] o.type #[.slice (some ⟨bx, ox, none⟩) n n, .slice (some ⟨bb, oo, none⟩) m dd]).run P W = _ := hrun
 rw [hrun']
 simp
theorem Src.blk {i g n s : Nat} {t : TypeId} {cs : Array Value} (hi : L[i]? = some (.blk g t cs)) (hc : cs.size = n * s) (hn : n ≤ maxLen) : Src w0 L (some ⟨g, 0, none⟩) n n s cs.toList := fun W hW =>
 ⟨by simp [hc], Nat.le_refl _, hn, fun _ => ⟨g, 0, rfl, Jk (hW.get i hi) (fun j v hv => by simpa using hv)⟩⟩
theorem Src.row {i n c e s : Nat} {A : Option Addr} {xs : List Value} (hi : L[i]? = some (.row A n c e s xs)) : Src w0 L A n c s xs := fun _ hW => hW.sl i hi
theorem Me {g off i : Nat} {l : List UInt8} (h : W.rangeAt g (off + (i : Int).toNat * 1) (((GK l).drop ((i : Int).toNat * 1)).take 1)) (hi : i < l.length) : W.cell? ⟨g, off + (i : Int).toNat * 1, none⟩ = some (.int .u8 ((l.getD i 0).toNat : Int)) := by
 have := h 0 (JC (l.getD i 0)) (by simp [GK, hi])
 simpa [JC] using this
theorem KC (hd : o.dst = d) (hw : Region.wanted o (yielded ops a.tmps) = true) {T : TypeId} (ho : o.op = .build T #[]) {n e : Nat} (hu : P.underlying T = some (.array n e)) {z : Value} {s b : Nat} (hi : GW P e z s b) {cs : Array Value} {s' b' : Nat} (he : GW P T (.agg cs) s' b')
  (h : wpList P ops Q rest (a.put d (.agg cs)) W) : wpList P ops Q (o :: rest) a W := by
 refine Js hd hw ?_ h
 unfold execOp
 simp only [ho]
 simp [Instr.build, he.run_zero, run_underlying hu, hi.run_size, Value.cells, Instr.fill]
theorem Hw {fn : Func} {R : Ending → World → Prop} {p : Tmp} {ty : TypeId} (hr : fn.results = #[.cell p ty]) (hd : a.defers = []) {g : Nat} (hp : a.tmps.toList[p]? = some (.pointer (some ⟨g, 0, none⟩))) {t : TypeId} {cs : Array Value} {fr : Nat × Nat} (hg : W.heap[g]? = some (.cells cs t fr))
  {td : TypeDesc} (hu : P.underlying ty = some td) (hrow : td.isRow = true) {z : Value} {s b : Nat} (he : GW P ty z s b) (hs : cs.size = s) (hR : R (.returned (.agg cs)) W) : bodyPost P fn R .ret a W := by
 have hp' : a.tmps.getD p undef = .pointer (some ⟨g, 0, none⟩) := by
  have : a.tmps[p]? = some (.pointer (some ⟨g, 0, none⟩)) := by simpa using hp
  simp [this]
 exact bodyPost_ret (results_cell_row hr _ _ g t _ fr _ hp' hg hu (by cases td <;> simp_all [TypeDesc.isRow]) (by rw [he.size, hs])) hd hR
theorem He {fn : Func} {R : Ending → World → Prop} {p q : Tmp} {ty : TypeId} (hr : fn.results = #[.cell p ty, .tmp q]) (hd : a.defers = []) {g : Nat} (hp : a.tmps.toList[p]? = some (.pointer (some ⟨g, 0, none⟩))) {v : Value} (hq : a.tmps.toList[q]? = some v) {t : TypeId} {cs : Array Value} {fr : Nat × Nat} (hg : W.heap[g]? = some (.cells cs t fr))
  {td : TypeDesc} (hu : P.underlying ty = some td) (hrow : td.isRow = true) {z : Value} {s b : Nat} (he : GW P ty z s b) (hs : cs.size = s) (hR : R (.returned (.tuple #[.agg cs, v])) W) : bodyPost P fn R .ret a W := by
 have hp' : a.tmps[p]?.getD undef = .pointer (some ⟨g, 0, none⟩) := by
  have : a.tmps[p]? = some (.pointer (some ⟨g, 0, none⟩)) := by simpa using hp
  simp [this]
 have hq' : a.tmps[q]?.getD undef = v := by
  have : a.tmps[q]? = some v := by simpa using hq
  simp [this]
 refine bodyPost_ret ?_ hd hR
 simp [results, hr, hp', hq', asAddr, run_loadVar_row W g t ty cs fr td hg hu (by cases td <;> simp_all [TypeDesc.isRow]) (by rw [he.size, hs])]
end
end Go.Proofs.YtaebeemnipafbaaGreatDoor
