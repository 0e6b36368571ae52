/-
  Proved here: LogAdds: the law returns true for every input, and leaves its arguments as they were.
-/
import Derived.Test.YtaebeemnipafbaaGreatDoorPkLogLooksA
import Derived.Test.YtaebeemnipafbaaGreatDoorPkLogLooksB
import Derived.Test.YtaebeemnipafbaaGreatDoorPkAddX
import Derived.Test.YtaebeemnipafbaaGreatDoorSkip
import Derived.Test.YtaebeemnipafbaaGreatDoorForkM
import Derived.Test.YtaebeemnipafbaaGreatDoorForkP
import Derived.Test.YtaebeemnipafbaaGreatDoorDigsL
import Derived.Test.YtaebeemnipafbaaGreatDoorPick
import Derived.Test.YtaebeemnipafbaaGreatDoorTold
import Derived.Deep.LoopGhost
import Derived.Test.YtaebeemnipafbaaGreatDoorRows
import Derived.LaidHandle
import Derived.LaidLaws
import Derived.ChangeSame
import Derived.ChangeVars
import Derived.JoinedOf
import Derived.RowKit
import Derived.RowKitTokens
import Derived.Stop.Joined
import Derived.Test.YtaebeemnipafbaaGreatDoorOpenB
import Derived.Test.YtaebeemnipafbaaGreatDoorCards
import Derived.Test.YtaebeemnipafbaaGreatDoorTie
import Derived.Deep.DeepHandedRow
import Derived.ProofKit
import Derived.OpenShut
set_option maxRecDepth 20000
set_option linter.unusedSimpArgs false
set_option linter.unusedVariables false
namespace Go.Proofs.YtaebeemnipafbaaGreatDoor
def undN (es : List (Nat × Dig)) (frm many : Nat) : List (Nat × Dig) := es.filter fun e => decide (frm ≤ e.1 ∧ e.1 < frm + many)
theorem undN_take {es : List (Nat × Dig)} {i : Nat} (h : i < es.length) (frm many : Nat) : undN (es.take (i + 1)) frm many = if frm ≤ es[i].1 ∧ es[i].1 < frm + many then undN (es.take i) frm many ++ [es[i]] else undN (es.take i) frm many := by
 unfold undN
 rw [List.take_succ_eq_append_getElem h, List.filter_append]
 by_cases hc : frm ≤ es[i].1 ∧ es[i].1 < frm + many
 ·rw [if_pos hc, List.filter_cons_of_pos (by simpa using hc)]; rfl
 ·rw [if_neg hc, List.filter_cons_of_neg (by simpa using hc), List.filter_nil, List.append_nil]
theorem undN_len (es : List (Nat × Dig)) (frm many : Nat) : (undN es frm many).length ≤ es.length := List.length_filter_le _ _
theorem undN_keys {es : List (Nat × Dig)} {frm many : Nat} (h : ∀ e ∈ es, e.1 < 4294967296) : ∀ e ∈ undN es frm many, e.1 < 4294967296 := fun e he => h e (List.mem_filter.1 he).1
theorem leafAt_undN (es : List (Nat × Dig)) {frm many k : Nat} (h1 : frm ≤ k) (h2 : k < frm + many) : leafAt (undN es frm many) k = leafAt es k :=
 leafAt_filter es (fun x => decide (frm ≤ x ∧ x < frm + many)) (decide_eq_true ⟨h1, h2⟩)
theorem mRoot_undN (es : List (Nat × Dig)) (b frm : Nat) : mRoot (leafAt (undN es frm (2 ^ b))) b frm = mRoot (leafAt es) b frm := mRoot_congr b frm fun _ h1 h2 => leafAt_undN es h1 h2
theorem mRoot_und_none {es : List (Nat × Dig)} {b frm : Nat} (h : undN es frm (2 ^ b) = []) : mRoot (leafAt es) b frm = zeroD := by
 rw [← mRoot_undN, h, mRoot_empty]
theorem mRoot_und_one {es : List (Nat × Dig)} {frm : Nat} {x : Nat × Dig} {xs : List (Nat × Dig)} (h : undN es frm 1 = x :: xs) : mRoot (leafAt es) 0 frm = eLeaf x.1 x.2 := by
 have h0 : x ∈ undN es frm 1 := by rw [h]; exact List.mem_cons_self ..
 have hx := of_decide_eq_true (List.mem_filter.1 h0).2
 have e : x.1 = frm := by omega
 have h1 := leafAt_undN es (frm := frm) (many := 1) (k := frm) (Nat.le_refl _) (by omega)
 show leafAt es frm = _
 rw [← h1, h]
 unfold leafAt
 rw [List.find?_cons_of_pos (by simp [e]), e]
theorem mRoot_und_s (es : List (Nat × Dig)) (b frm : Nat) : mRoot (leafAt es) (b + 1) frm = mNode (mRoot (leafAt (undN es frm (2 ^ (b + 1)))) b frm) (mRoot (leafAt (undN es frm (2 ^ (b + 1)))) b (frm + 2 ^ b)) := by
 rw [← mRoot_undN es (b + 1) frm, mRoot_s]
theorem side_at (k b : Nat) : k % (2 * 2 ^ b) = k - k / 2 ^ b / 2 * (2 * 2 ^ b) := by
 have h := Nat.div_add_mod k (2 * 2 ^ b)
 rw [show k / (2 * 2 ^ b) = k / 2 ^ b / 2 by rw [Nat.mul_comm, Nat.div_div_eq_div_mul], Nat.mul_comm] at h
 omega
theorem sib_ref (k b : Nat) : (let f := k - k % (2 * 2 ^ b); if k - f < 2 ^ b then f + 2 ^ b else f) = sibN b k := by
 have hm := side_at k b
 have hq : k / 2 ^ b * 2 ^ b ≤ k := Nat.div_mul_le_self k (2 ^ b)
 have hr : k < k / 2 ^ b * 2 ^ b + 2 ^ b := by
  have := Nat.lt_div_mul_add (a := k) (b := 2 ^ b) (Nat.two_pow_pos b)
  exact this
 unfold sibN
 generalize k / 2 ^ b = q at *
 have e : q / 2 * (2 * 2 ^ b) = (q - q % 2) * 2 ^ b := by
  rw [← Nat.mul_assoc]; congr 1; omega
 rw [e] at hm
 rcases Nat.mod_two_eq_zero_or_one q with h | h
 ·rw [h] at hm
  rw [if_neg (by omega : ¬ q % 2 = 1)]
  have h1 : k - k % (2 * 2 ^ b) = q * 2 ^ b := by
   rw [hm, Nat.sub_zero]; omega
  simp only [h1]
  rw [if_pos (by omega), Nat.succ_mul]
 ·rw [h] at hm
  rw [if_pos h]
  have e2 : (q - 1) * 2 ^ b + 2 ^ b = q * 2 ^ b := by rw [← Nat.succ_mul]; congr 1; omega
  have h1 : k - k % (2 * 2 ^ b) = (q - 1) * 2 ^ b := by rw [hm]; omega
  simp only [h1]
  rw [if_neg (by omega)]
def enR (ns : List NoteN) (i : Nat) : Nat × Dig := match ns[i]? with | some n => (idxN n.name, ntLeaf n) | none => (0, zeroD)
def lastsN (ns : List NoteN) (i : Nat) : List Nat := (List.range i).filter fun i => decide ((ns[i]?.bind fun n => lastI ns n.name) = some i)
def entR (ns : List NoteN) (i : Nat) : List (Nat × Dig) := (lastsN ns i).map (enR ns)
theorem entR_len (ns : List NoteN) (i : Nat) : (entR ns i).length ≤ i := by
 unfold entR lastsN
 rw [List.length_map]
 have := List.length_filter_le (fun i => decide ((ns[i]?.bind fun n => lastI ns n.name) = some i)) (List.range i)
 rw [List.length_range] at this
 exact this
theorem entR_s {ns : List NoteN} {i : Nat} (h : i < ns.length) : entR ns (i + 1) = if lastI ns ns[i].name = some i then entR ns i ++ [(idxN ns[i].name, ntLeaf ns[i])] else entR ns i := by
 have he : enR ns i = (idxN ns[i].name, ntLeaf ns[i]) := by unfold enR; rw [List.getElem?_eq_getElem h]
 unfold entR lastsN
 rw [List.range_succ, List.filter_append, List.map_append]
 by_cases hc : lastI ns ns[i].name = some i
 ·rw [if_pos hc, List.filter_cons_of_pos (by rw [List.getElem?_eq_getElem h]; simpa using hc)]
  simp [he]
 ·rw [if_neg hc, List.filter_cons_of_neg (by rw [List.getElem?_eq_getElem h]; simpa using hc)]
  simp
theorem entR_keys (ns : List NoteN) (i : Nat) : ∀ e ∈ entR ns i, e.1 < 4294967296 := fun e he => by
 obtain ⟨j, _, rfl⟩ := List.mem_map.1 he
 unfold enR
 split
 ·exact idxN_lt _
 ·decide
theorem mem_lasts {ns : List NoteN} {j : Nat} (h : j ∈ lastsN ns ns.length) : ∃ n, ns[j]? = some n ∧ lastI ns n.name = some j := by
 have := of_decide_eq_true (List.mem_filter.1 h).2
 obtain ⟨n, h1, h2⟩ := Option.bind_eq_some_iff.1 this
 exact ⟨n, h1, h2⟩
theorem entR_nodup {ns : List NoteN} (h : Logged ns) : ((entR ns ns.length).map (·.1)).Nodup := by
 unfold entR
 rw [List.map_map]
 have hn : (lastsN ns ns.length).Nodup := List.nodup_range.filter _
 refine List.pairwise_map.2 (hn.imp_of_mem ?_)
 intro a b ha hb hab he
 obtain ⟨n, h1, h2⟩ := mem_lasts ha
 obtain ⟨m, h3, h4⟩ := mem_lasts hb
 simp only [Function.comp, enR, h1, h3] at he
 have := h.idx n (List.mem_of_getElem? h1) m (List.mem_of_getElem? h3) he
 rw [this, h4] at h2
 exact hab (Option.some.inj h2).symm
theorem leafAt_entR {ns : List NoteN} (h : Logged ns) : leafAt (entR ns ns.length) = lgF ns := by
 funext k
 by_cases hk : ∃ n ∈ ns, idxN n.name = k
 ·obtain ⟨n, hn, rfl⟩ := hk
  cases hl : lastI ns n.name with
  | none => exact absurd rfl (lastI_none.1 hl n hn)
  | some j =>
   obtain ⟨m, h1, h2⟩ := lastI_some hl
   have hm : lastN? ns n.name = some m := by unfold lastN?; rw [hl]; exact h1
   rw [h.lgF_at hm]
   have hj : j ∈ lastsN ns ns.length := List.mem_filter.2 ⟨List.mem_range.2 (lastI_lt hl), by rw [h1]; simp [h2, hl]⟩
   have he : (idxN n.name, ntLeaf m) ∈ entR ns ns.length := List.mem_map.2 ⟨j, hj, by unfold enR; rw [h1]; simp [h2]⟩
   exact leafAt_some (entR_nodup h) he
 ·rw [lgF_none (fun n hn he => hk ⟨n, hn, he⟩), leafAt_none]
  intro e he hek
  obtain ⟨j, hj, rfl⟩ := List.mem_map.1 he
  obtain ⟨n, h1, _⟩ := mem_lasts hj
  refine hk ⟨n, List.mem_of_getElem? h1, ?_⟩
  rw [← hek]
  unfold enR
  rw [h1]
theorem mapN_ent {ns : List NoteN} (h : Logged ns) : mRoot (leafAt (entR ns ns.length)) 32 0 = mapN ns := by
 rw [leafAt_entR h]; rfl
end Go.Proofs.YtaebeemnipafbaaGreatDoor

set_option maxRecDepth 20000
set_option linter.unusedSimpArgs false
set_option linter.unusedVariables false
namespace Go.Proofs.YtaebeemnipafbaaGreatDoor
open Go.RowKit
attribute [local simp] prArr_size
theorem entc {W : World} {g off i : Nat} {es : List (Nat × Dig)} (h : W.rangeAt g (off + (i : Int).toNat * 33) (((entL es).drop ((i : Int).toNat * 33)).take 33)) (hi : i < es.length) : W.rangeAt g (off + (i : Int).toNat * 33) (prArr ((es[i].1 : Nat) : Int) es[i].2).toList := by
 rwa [show ((entL es).drop ((i : Int).toNat * 33)).take 33 = _ from entL_at es i hi] at h
theorem entk {W : World} {g off i : Nat} {es : List (Nat × Dig)} (h : W.rangeAt g (off + (i : Int).toNat * 33) (((entL es).drop ((i : Int).toNat * 33)).take 33)) (hi : i < es.length) : W.cell? ⟨g, off + (i : Int).toNat * 33 + 0, none⟩ = some (.int .i64 ((es[i].1 : Nat) : Int)) :=
 entc h hi 0 _ rfl
theorem ent_one (x : Nat × Dig) : entL [x] = (prArr ((x.1 : Nat) : Int) x.2).toList := by
 rw [entL, entI, List.map_cons, List.map_nil, pairsL_one]
section
variable {P : Program} {ops : Array Oper} {rest : List Oper} {o : Oper} {a : Act} {W : World} {Q : Exit → Act → World → Prop} {d : Option Tmp}
theorem L_remN (hd : o.dst = d) (hw : Region.wanted o (yielded ops a.tmps) = true) {t t' : TypeId} {x y : Operand} (ho : o.op = .binOp .rem t x y t') {p q : Nat} {Y : Int} (hx : a.eval x = .int .i64 (p : Int)) (hy : a.eval y = .int .i64 Y) (hY : Y = (q : Int)) (hq : 0 < q)
  (h : wpList P ops Q rest (a.put d (.int .i64 ((p % q : Nat) : Int))) W) : wpList P ops Q (o :: rest) a W := by
 subst hY
 refine L_val hd hw ?_ h
 unfold execOp
 simp only [ho, hx, hy]
 have h1 : (eqGuard .rem t x y (.int .i64 (p : Int)) (.int .i64 (q : Int))).run P W = .ok () W := by simp [eqGuard]
 have h2 : (Go.binOp .rem t (.int .i64 (p : Int)) (.int .i64 (q : Int))).run P W = .ok (.int .i64 ((p % q : Nat) : Int)) W := by
  have hz : ¬ (q = 0) := by omega
  have e : (p : Int).tmod (q : Int) = ((p % q : Nat) : Int) := by rw [Int.tmod_eq_emod_of_nonneg (by omega)]; simp
  simp [Go.binOp, Op.intDiv, hz, e]
 simp [h1, h2]
end
set_option maxHeartbeats 8000000 in
set_option maxRecDepth 100000 in
theorem runder_any (es : List (Nat × Dig)) (A : Option Addr) (n c frm many : Nat) (w : World) (hx : SlR w A n c 33 (entL es)) (hn : n ≤ 256) (hk : ∀ e ∈ es, e.1 < 4294967296) (hf : frm ≤ 4294967296) (hm : many ≤ 4294967296) :
  Calls Tryz.prog 87 #[.slice A n c, .int .i64 (frm : Int), .int .i64 (many : Int)] w fun e w' => ∃ O oc, e = .returned (.slice O (undN es frm many).length oc) ∧ St w w' [.row O (undN es frm many).length oc 110 33 (entL (undN es frm many))] := by
 have hst := St.refl w
 have hl : es.length = n := by have := hx.1; rw [length_entL] at this; omega
 have HL := Lib.hid hl
 have HX := Lib.hid hx
 have HK := Lib.hid (fun (i : Nat) (h : i < es.length) => hk es[i] (List.getElem_mem h))
 clear hl hx hk
 go_enter Tryz.func87, Tryz.ntmps87
 go_upto_region 1 with (go_big_may; fail)
 go_upto_region 2 with (go_big_may; fail)
 go_wp2_with (fail)
 replace hst := hst.nilRow 110 33
 go_loopg [7, 8] n (fun gk s7 s8 wr => ∃ (i l : Nat) (O : Option Addr) (oc : Nat), Hid (i + gk = n) ∧ Hid (l = (undN (es.take i) frm many).length) ∧ s7 = .slice O l oc ∧ s8 = .int .i64 (i : Int) ∧ St w wr [.row O l oc 110 33 (entL (undN (es.take i) frm many))])
 case atStart => exact ⟨0, 0, none, 0, Lib.hid (by omega), Lib.hid rfl, rfl, rfl, hst⟩
 case round =>
  clear hst
  obtain ⟨i, l, O, oc, HI, HLn, rfl, rfl, hst⟩ := hrel
  have hi := HI.out
  by_cases hin : i < n
  ·have hil : i < es.length := by rw [HL.out]; exact hin
   have HC := Lib.hid (fun (W : World) (g off : Nat) h => entc (W := W) (g := g) (off := off) (i := i) (es := es) h hil)
   have HC0 := Lib.hid (fun (W : World) (g off : Nat) h => entk (W := W) (g := g) (off := off) (i := i) (es := es) h hil)
   have hk := HK.out i hil
   have hu := undN_take hil frm many
   have hll : l ≤ 256 := by
    have h1 := HLn.out
    have h2 := undN_len (es.take i) frm many
    rw [List.length_take] at h2
    omega
   obtain ⟨x, hx⟩ : ∃ x, x = es[i] := ⟨_, rfl⟩
   rw [← hx] at HC HC0 hk hu
   clear hx hil hi
   obtain ⟨k, v⟩ := x
   simp only at HC HC0 hk hu
   obtain ⟨U, hU⟩ : ∃ U, U = undN (es.take i) frm many := ⟨_, rfl⟩
   have HUl := Lib.hid (show l = U.length by rw [hU]; exact HLn.out)
   rw [← hU] at hu hst
   by_cases c1 : frm ≤ k
   ·have e1 : decide ((frm : Int) ≤ (k : Int)) = true := decide_eq_true (by omega)
    have p1 : (frm : Int) ≤ (k : Int) := by omega
    by_cases c2 : k < frm + many
    ·have e2 : decide ((k : Int) - (frm : Int) < (many : Int)) = true := decide_eq_true (by omega)
     have p2 : (k : Int) - (frm : Int) < (many : Int) := by omega
     rw [if_pos ⟨c1, c2⟩] at hu
     have HU := Lib.hid hu
     have HE := Lib.hid (show entL U ++ (prArr (k : Int) v).toList = entL (U ++ [(k, v)]) by rw [entL_app, ent_one])
     clear hU hu HLn c1 c2
     go_upto_region 5 with (go_big_may; fail)
     go_upto_region 6 with (go_big_may; first | (refine L_load1 (d := some 19) rfl rfl rfl (by rfl) Tryz.underlying3 rfl (HC0.out _ _ _ hr17) ?_) | (refine L_load1 (d := some 27) rfl rfl rfl (by rfl) Tryz.underlying3 rfl (HC0.out _ _ _ hr25) ?_) | (refine L_idxS (d := some 17) rfl rfl rfl (by rfl) (by rfl) Tryz.underlying93 el_api_Entry (by (exact hst.old (by decide) HX.out)) (by omega) (by omega) ?_; intro o17 p17 ha17 hr17; ((subst ha17))) | (refine L_idxS (d := some 25) rfl rfl rfl (by rfl) (by rfl) Tryz.underlying93 el_api_Entry (by (exact hst.old (by decide) HX.out)) (by omega) (by omega) ?_; intro o25 p25 ha25 hr25; ((obtain ⟨h1, h2⟩ := some_addr ha25; subst h1; subst h2; clear ha25))))
     go_upto_region 4 with (go_big_may; first | (refine L_loadM (d := some 37) rfl rfl rfl (by rfl) Tryz.underlying110 rfl el_api_Entry (HC.out _ _ _ hr36) (prArr_size _ _) ?_) | (refine L_idxS (d := some 36) rfl rfl rfl (by rfl) (by rfl) Tryz.underlying93 el_api_Entry (by (exact hst.old (by decide) HX.out)) (by omega) (by omega) ?_; intro o36 p36 ha36 hr36; ((obtain ⟨h1, h2⟩ := some_addr ha36; subst h1; subst h2; clear ha36))) | (refine L_buildS (d := some 38) rfl rfl rfl [_] (bs_1 (ev_tmp rfl)) rfl Tryz.underlying93 el_api_Entry rfl (by (simp [Value.cells]; done)) (by decide) (by decide) ?_; (try clear hnew); intro g38 W38 hnew; replace hst := hst.trans hnew; simp only [List.cons_append, List.nil_append] at hst; simp only [List.flatMap_cons, List.flatMap_nil, List.append_nil, Value.cells, List.toList_toArray] at hst) | (refine L_appendO (d := some 39) rfl rfl hst rfl (by rfl) (by rfl) Tryz.underlying93 el_api_Entry rfl (by decide) (by decide) 1 rfl (by (rfl)) (by (exact hst.sl 0 rfl)) (by (exact prArr_one _ _)) (by omega) ?_; clear hst; intro A39 c39 W39 hst; simp only [List.set_cons_zero, List.set_cons_succ, List.nil_append, Nat.zero_add] at hst))
     go_wp2_with (fail)
     rw [HE.out, ← HU.out] at hst
     go_roundg (gk - 1)
     case measure => have := HI.out; omega
     case rel => exact ⟨i + 1, l + 1, _, _, Lib.hid (by have := HI.out; omega), Lib.hid (by rw [HU.out, List.length_append, List.length_singleton, ← HUl.out]), rfl, by go_num, hst.pick [1] (by decide)⟩
    ·have e2 : decide ((k : Int) - (frm : Int) < (many : Int)) = false := decide_eq_false (by omega)
     have p2 : ¬ (k : Int) - (frm : Int) < (many : Int) := by omega
     rw [if_neg (fun h => c2 h.2)] at hu
     have HU := Lib.hid hu
     clear hU hu HLn c1 c2
     go_upto_region 5 with (go_big_may; fail)
     go_upto_region 4 with (go_big_may; first | (refine L_load1 (d := some 19) rfl rfl rfl (by rfl) Tryz.underlying3 rfl (HC0.out _ _ _ hr17) ?_) | (refine L_load1 (d := some 27) rfl rfl rfl (by rfl) Tryz.underlying3 rfl (HC0.out _ _ _ hr25) ?_) | (refine L_idxS (d := some 17) rfl rfl rfl (by rfl) (by rfl) Tryz.underlying93 el_api_Entry (by (exact hst.old (by decide) HX.out)) (by omega) (by omega) ?_; intro o17 p17 ha17 hr17; ((subst ha17))) | (refine L_idxS (d := some 25) rfl rfl rfl (by rfl) (by rfl) Tryz.underlying93 el_api_Entry (by (exact hst.old (by decide) HX.out)) (by omega) (by omega) ?_; intro o25 p25 ha25 hr25; ((obtain ⟨h1, h2⟩ := some_addr ha25; subst h1; subst h2; clear ha25))))
     go_wp2_with (fail)
     rw [← HU.out] at hst
     go_roundg (gk - 1)
     case measure => have := HI.out; omega
     case rel => exact ⟨i + 1, l, _, _, Lib.hid (by have := HI.out; omega), Lib.hid (by rw [HU.out]; exact HUl.out), rfl, by go_num, hst⟩
   ·have e1 : decide ((frm : Int) ≤ (k : Int)) = false := decide_eq_false (by omega)
    have p1 : ¬ (frm : Int) ≤ (k : Int) := by omega
    rw [if_neg (fun h => c1 h.1)] at hu
    have HU := Lib.hid hu
    clear hU hu HLn c1
    go_upto_region 5 with (go_big_may; fail)
    go_upto_region 4 with (first | (with_reducible refine L_pass (t := 23) rfl (by kernel_rfl) ?_) | (with_reducible refine L_pass (t := 24) rfl (by kernel_rfl) ?_) | (with_reducible refine L_pass (t := 25) rfl (by kernel_rfl) ?_) | (with_reducible refine L_pass (t := 26) rfl (by kernel_rfl) ?_) | (with_reducible refine L_pass (t := 27) rfl (by kernel_rfl) ?_) | (with_reducible refine L_pass (t := 28) rfl (by kernel_rfl) ?_) | (with_reducible refine L_pass (t := 29) rfl (by kernel_rfl) ?_) | (with_reducible refine L_pass (t := 30) rfl (by kernel_rfl) ?_) | (with_reducible refine L_pass (t := 31) rfl (by kernel_rfl) ?_) | (go_big_may; first | (refine L_load1 (d := some 19) rfl rfl rfl (by rfl) Tryz.underlying3 rfl (HC0.out _ _ _ hr17) ?_) | (refine L_idxS (d := some 17) rfl rfl rfl (by rfl) (by rfl) Tryz.underlying93 el_api_Entry (by (exact hst.old (by decide) HX.out)) (by omega) (by omega) ?_; intro o17 p17 ha17 hr17; ((subst ha17)))))
    go_wp2_with (fail)
    rw [← HU.out] at hst
    go_roundg (gk - 1)
    case measure => have := HI.out; omega
    case rel => exact ⟨i + 1, l, _, _, Lib.hid (by have := HI.out; omega), Lib.hid (by rw [HU.out]; exact HUl.out), rfl, by go_num, hst⟩
  ·obtain rfl : i = n := by omega
   have HE := Lib.hid (show es.take i = es from List.take_of_length_le (by rw [HL.out]; exact Nat.le_refl _))
   rw [HE.out] at hst HLn
   obtain rfl := HLn.out
   clear hi HI HE HLn
   go_upto_region 7 with (go_big_may; fail)
   go_wp2_with (fail)
   go_ret
   exact ⟨_, _, rfl, hst.pick [0] (by decide)⟩
set_option maxHeartbeats 8000000 in
set_option maxRecDepth 100000 in
theorem rmaproot_any : ∀ (b : Nat) (es : List (Nat × Dig)) (A : Option Addr) (n c : Nat) (F M : Int) (w : World), SlR w A n c 33 (entL es) → n ≤ 256 → (∀ e ∈ es, e.1 < 4294967296) → 0 ≤ F → F + M ≤ 4294967296 → M = ((2 ^ b : Nat) : Int) →
  Calls Tryz.prog 42 #[.slice A n c, .int .i64 F, .int .i64 M] w fun e w' => e = .returned (mRoot (leafAt es) b F.toNat).v ∧ St w w' [] := by
 intro b
 induction b with
 | zero =>
  intro es A n c F M w hx hn hk hF hFM hM
  have hst := St.refl w
  obtain ⟨frm, rfl⟩ := Int.eq_ofNat_of_zero_le hF
  obtain rfl : M = ((1 : Nat) : Int) := hM
  have HX := Lib.hid hx
  have HU := Lib.hid (fun (w' : World) h => runder_any es A n c frm 1 w' h hn hk (by omega) (by decide))
  have HK := Lib.hid (undN_keys (frm := frm) (many := 1) hk)
  rw [Int.toNat_natCast]
  cases hu : undN es frm 1 with
  | nil =>
   have HM := Lib.hid (mRoot_und_none (b := 0) hu)
   rw [hu] at HU
   generalize mRoot (leafAt es) 0 frm = r at *
   clear hx hn hk hF hFM hu HK
   go_enter Tryz.func42, Tryz.ntmps42
   go_upto_region 1 with (go_big_may; (refine L_allocA (d := some 6) rfl rfl rfl el_api_Digest ?_; (try clear hnew); intro g6 W6 hnew; replace hst := hst.trans hnew; simp only [List.cons_append, List.nil_append] at hst))
   go_upto_region 2 with (go_big_may; (go_at_call 87; (try clear hnew); refine (HU.out _ (hst.old (by decide) HX.out)).mono ?_; rintro e Wu ⟨O, oc, rfl, hnew⟩; replace hst := hst.trans hnew; simp only [List.cons_append, List.nil_append] at hst))
   go_upto_region 3 with (go_big_may; fail)
   go_wp2_with (first | (go_at_call 52; (try clear hnew); refine (rnothing_any _).mono ?_; rintro e Wk1 ⟨rfl, hnew⟩; replace hst := hst.keep hnew) | (refine wpl_at (.store 32 (.tmp 6) (.tmp 16)) rfl ?_; (refine L_storeA rfl rfl hst rfl (by rfl) (ev_tmp rfl) (by (exact Dig.one _)) el_api_Digest (by (rfl)) 1 rfl (by (rfl)) ?_; clear hst; intro WS1 hst; simp only [List.set_cons_zero, List.set_cons_succ] at hst)))
   refine bp_cell rfl rfl rfl (hst.get 1 rfl) Tryz.underlying32 rfl el_api_Digest (by (rfl)) ?_
   rw [HM.out]
   exact ⟨rfl, hst.forget⟩
  | cons x xs =>
   have HM := Lib.hid (mRoot_und_one hu)
   rw [hu] at HU HK
   have HE := Lib.hid (fun w' => rentryleaf_any x.1 x.2 w' (HK.out x (by simp)))
   have HP := Lib.hid (entL_at (x :: xs) 0 (by simp))
   obtain ⟨l, hl⟩ : ∃ l, l = (x :: xs).length := ⟨_, rfl⟩
   rw [← hl] at HU
   have hl1 : 0 < l := by rw [hl]; simp
   have hl0 : ((l : Int) == 0) = false := by rw [beq_eq_false_iff_ne]; omega
   obtain ⟨k, v⟩ := x
   simp only [List.getElem_cons_zero] at *
   generalize mRoot (leafAt es) 0 frm = r at *
   generalize eLeaf k v = ev at *
   generalize entL ((k, v) :: xs) = el at *
   clear hx hn hk hF hFM hu HK hl
   go_enter Tryz.func42, Tryz.ntmps42
   go_upto_region 1 with (go_big_may; (refine L_allocA (d := some 6) rfl rfl rfl el_api_Digest ?_; (try clear hnew); intro g6 W6 hnew; replace hst := hst.trans hnew; simp only [List.cons_append, List.nil_append] at hst))
   go_upto_region 2 with (go_big_may; (go_at_call 87; (try clear hnew); refine (HU.out _ (hst.old (by decide) HX.out)).mono ?_; rintro e Wu ⟨O, oc, rfl, hnew⟩; replace hst := hst.trans hnew; simp only [List.cons_append, List.nil_append] at hst))
   go_upto_region 4 with (go_big_may; fail)
   go_upto_region 5 with (go_big_may; fail)
   go_wp2_with (first | (refine L_loadM (d := some 21) rfl rfl rfl (by rfl) Tryz.underlying110 rfl el_api_Entry (cs := prArr (k : Int) v) (by rw [← HP.out]; exact hr20) (prArr_size _ _) ?_) | (go_at_call 54; (try clear hnew); refine (HE.out _).mono ?_; rintro e Wk2 ⟨rfl, hnew⟩; replace hst := hst.keep hnew) | (refine L_idxS (d := some 20) rfl rfl rfl (by rfl) (by rfl) Tryz.underlying93 el_api_Entry (by (exact hst.sl 0 rfl)) (by omega) (by omega) ?_; intro o20 p20 ha20 hr20; ((subst ha20))) | (refine wpl_at (.store 32 (.tmp 6) (.tmp 22)) rfl ?_; (refine L_storeA rfl rfl hst rfl (by rfl) (ev_tmp rfl) (by (exact Dig.one _)) el_api_Digest (by (exact Dig.size _)) 1 rfl (by (rfl)) ?_; clear hst; intro WS4 hst; simp only [List.set_cons_zero, List.set_cons_succ] at hst)))
   refine bp_cell rfl rfl rfl (hst.get 1 rfl) Tryz.underlying32 rfl el_api_Digest (by (exact Dig.size _)) ?_
   rw [HM.out]
   exact ⟨rfl, hst.forget⟩
 | succ b ih =>
  intro es A n c F M w hx hn hk hF hFM hM
  have hst := St.refl w
  obtain ⟨frm, rfl⟩ := Int.eq_ofNat_of_zero_le hF
  obtain ⟨m, hm⟩ : ∃ m : Nat, m = 2 ^ (b + 1) := ⟨_, rfl⟩
  obtain ⟨h, hh⟩ : ∃ h : Nat, h = 2 ^ b := ⟨_, rfl⟩
  have hp := Nat.two_pow_pos b
  have e2 : m = h + h := by rw [hm, hh, Nat.pow_succ]; omega
  have hh0 : 0 < h := by omega
  obtain rfl : M = (m : Int) := by rw [hM, hm]
  have HX := Lib.hid hx
  have HU := Lib.hid (fun (w' : World) h => runder_any es A n c frm m w' h hn hk (by omega) (by omega))
  have HK := Lib.hid (undN_keys (frm := frm) (many := m) hk)
  have hs := mRoot_und_s es b frm
  rw [← hm, ← hh] at hs
  rw [Int.toNat_natCast]
  cases hu : undN es frm m with
  | nil =>
   have HM := Lib.hid (show mRoot (leafAt es) (b + 1) frm = zeroD from mRoot_und_none (b := b + 1) (by rw [← hm]; exact hu))
   rw [hu] at HU
   generalize mRoot (leafAt es) (b + 1) frm = r at *
   clear hx hn hk hF hFM hM hu HK hs ih hm hh hp e2 hh0
   go_enter Tryz.func42, Tryz.ntmps42
   go_upto_region 1 with (go_big_may; (refine L_allocA (d := some 6) rfl rfl rfl el_api_Digest ?_; (try clear hnew); intro g6 W6 hnew; replace hst := hst.trans hnew; simp only [List.cons_append, List.nil_append] at hst))
   go_upto_region 2 with (go_big_may; (go_at_call 87; (try clear hnew); refine (HU.out _ (hst.old (by decide) HX.out)).mono ?_; rintro e Wu ⟨O, oc, rfl, hnew⟩; replace hst := hst.trans hnew; simp only [List.cons_append, List.nil_append] at hst))
   go_upto_region 3 with (go_big_may; fail)
   go_wp2_with (first | (go_at_call 52; (try clear hnew); refine (rnothing_any _).mono ?_; rintro e Wk3 ⟨rfl, hnew⟩; replace hst := hst.keep hnew) | (refine wpl_at (.store 32 (.tmp 6) (.tmp 16)) rfl ?_; (refine L_storeA rfl rfl hst rfl (by rfl) (ev_tmp rfl) (by (exact Dig.one _)) el_api_Digest (by (rfl)) 1 rfl (by (rfl)) ?_; clear hst; intro WS1 hst; simp only [List.set_cons_zero, List.set_cons_succ] at hst)))
   refine bp_cell rfl rfl rfl (hst.get 1 rfl) Tryz.underlying32 rfl el_api_Digest (by (rfl)) ?_
   rw [HM.out]
   exact ⟨rfl, hst.forget⟩
  | cons x xs =>
   obtain ⟨us, hus⟩ : ∃ us, us = x :: xs := ⟨_, rfl⟩
   rw [← hus] at hu
   rw [hu] at HU HK hs
   have hln : us.length ≤ 256 := by
    have h1 := undN_len es frm m
    rw [hu] at h1
    have h2 := hx.1
    rw [length_entL] at h2
    omega
   obtain ⟨l, hl⟩ : ∃ l, l = us.length := ⟨_, rfl⟩
   have hl1 : 0 < l := by rw [hl, hus]; simp
   have hl0 : ((l : Int) == 0) = false := by rw [beq_eq_false_iff_ne]; omega
   have hm1 : ((m : Int) == 1) = false := by rw [beq_eq_false_iff_ne]; omega
   rw [← hl] at HU hln
   have HI := Lib.hid (fun (O : Option Addr) (oc : Nat) (G : Int) (w' : World) (h : SlR w' O l oc 33 (entL us)) (h1 : 0 ≤ G) (h2 : G + ((m : Int) / 2) ≤ 4294967296) => ih us O l oc G ((m : Int) / 2) w' h hln HK.out h1 h2 (by rw [← hh]; omega))
   have HS := Lib.hid hs
   have HT := Lib.hid (show frm + m / 2 = frm + h by omega)
   have hmb : m ≤ 4294967296 := by omega
   have hfb : (frm : Int) + (m : Int) ≤ 4294967296 := by omega
   generalize mRoot (leafAt es) (b + 1) frm = r at *
   clear hx hn hk hF hFM hM hu HK hs ih hm hh hp e2 hh0 hl hus
   go_enter Tryz.func42, Tryz.ntmps42
   go_upto_region 1 with (go_big_may; (refine L_allocA (d := some 6) rfl rfl rfl el_api_Digest ?_; (try clear hnew); intro g6 W6 hnew; replace hst := hst.trans hnew; simp only [List.cons_append, List.nil_append] at hst))
   go_upto_region 2 with (go_big_may; (go_at_call 87; (try clear hnew); refine (HU.out _ (hst.old (by decide) HX.out)).mono ?_; rintro e Wu ⟨O, oc, rfl, hnew⟩; replace hst := hst.trans hnew; simp only [List.cons_append, List.nil_append] at hst))
   go_upto_region 4 with (go_big_may; fail)
   go_upto_region 6 with (go_big_may; fail)
   go_upto_region 7 with (go_big_may; fail)
   (try clear hnew)
   go_wp2_with (first | (go_at_call 42; (try clear hnew); refine (HI.out _ _ _ _ (hst.sl 0 rfl) (by omega) (by omega)).mono ?_; rintro e Wk ⟨rfl, hnew⟩; replace hst := hst.keep hnew) | (go_at_call 88; (try clear hnew); refine (rmapnode_any _ _ _).mono ?_; rintro e Wk4 ⟨rfl, hnew⟩; replace hst := hst.keep hnew) | (refine wpl_at (.store 32 (.tmp 6) (.tmp 35)) rfl ?_; (refine L_storeA rfl rfl hst rfl (by rfl) (ev_tmp rfl) (by (exact Dig.one _)) el_api_Digest (by (exact Dig.size _)) 1 rfl (by (rfl)) ?_; clear hst; intro WS11 hst; simp only [List.set_cons_zero, List.set_cons_succ] at hst)))
   refine bp_cell rfl rfl rfl (hst.get 1 rfl) Tryz.underlying32 rfl el_api_Digest (by (exact Dig.size _)) ?_
   rw [HS.out, ← HT.out]
   exact ⟨rfl, hst.forget⟩
set_option maxHeartbeats 8000000 in
set_option maxRecDepth 100000 in
theorem rmappath_any (es : List (Nat × Dig)) (A : Option Addr) (n c k : Nat) (w : World) (hx : SlR w A n c 33 (entL es)) (hn : n ≤ 256) (hk : ∀ e ∈ es, e.1 < 4294967296) (hk2 : k < 4294967296) :
  Calls Tryz.prog 44 #[.slice A n c, .int .i64 (k : Int)] w fun e w' => ∃ O oc, e = .returned (.slice O 32 oc) ∧ St w w' [.row O 32 oc 32 32 (digsL (mPath (leafAt es) k 32))] := by
 have hst := St.refl w
 have HX := Lib.hid hx
 have HR := Lib.hid (fun (b : Nat) (F M : Int) (w' : World) (h : SlR w' A n c 33 (entL es)) (h1 : 0 ≤ F) (h2 : F + M ≤ 4294967296) (h3 : M = ((2 ^ b : Nat) : Int)) => rmaproot_any b es A n c F M w' h hn hk h1 h2 h3)
 generalize leafAt es = f at *
 clear hx hn hk
 go_enter Tryz.func44, Tryz.ntmps44
 go_upto_region 1 with (go_big_may; fail)
 go_upto_region 2 with (go_big_may; fail)
 go_upto_region 3 with (go_big_may; fail)
 go_wp2_with (fail)
 replace hst := hst.nilRow 32 32
 go_loopg [5, 6, 7] 32 (fun gk s5 s6 s7 wr => ∃ (i m : Nat) (O : Option Addr) (oc : Nat), Hid (i + gk = 32) ∧ Hid (m = 2 ^ i) ∧ s5 = .slice O i oc ∧ s6 = .int .i64 (m : Int) ∧ s7 = .int .i64 (i : Int) ∧ St w wr [.row O i oc 32 32 (digsL (mPath f k i))])
 case atStart => exact ⟨0, 1, none, 0, Lib.hid (by omega), Lib.hid rfl, rfl, rfl, rfl, hst⟩
 case round =>
  clear hst
  obtain ⟨i, m, O, oc, HI, HM, rfl, rfl, rfl, hst⟩ := hrel
  have hi := HI.out
  by_cases hin : i < 32
  ·have hm := HM.out
   have hm0 : 0 < m := by rw [hm]; exact Nat.two_pow_pos i
   have hmb : m ≤ 2147483648 := by
    rw [hm]
    exact Nat.pow_le_pow_right (n := 2) (by decide) (show i ≤ 31 by omega)
   obtain ⟨r, hr⟩ : ∃ r, r = k % (2 * m) := ⟨_, rfl⟩
   have hrk : r ≤ k := by rw [hr]; exact Nat.mod_le _ _
   have hrm : r < 2 * m := by rw [hr]; exact Nat.mod_lt _ (by omega)
   have hsib := sib_ref k i
   rw [← hm, ← hr] at hsib
   simp only at hsib
   obtain ⟨q, hq1, hq2⟩ := sib_form hk2 (show i ≤ 31 by omega)
   rw [← hm] at hq1 hq2
   rw [← hq1] at hq2
   have HPs := Lib.hid (show digsL (mPath f k i) ++ (mRoot f i (sibN i k)).arr.toList = digsL (mPath f k (i + 1)) by
    rw [mPath_s]
    unfold digsL
    rw [List.flatMap_append, Dig.toList]
    simp only [List.flatMap_cons, List.flatMap_nil, List.append_nil])
   have HRm := Lib.hid hr
   have HM2 := Lib.hid (show 2 * m = 2 ^ (i + 1) by rw [hm, Nat.pow_succ]; omega)
   have HRi := Lib.hid (fun (F : Int) (w' : World) (h : SlR w' A n c 33 (entL es)) (h0 : F = ((sibN i k : Nat) : Int)) => by
    have := HR.out i F (m : Int) w' h (by omega) (by omega) (by rw [hm])
    rw [show F.toNat = sibN i k by omega] at this
    exact this)
   obtain ⟨s, hs⟩ : ∃ s, s = sibN i k := ⟨_, rfl⟩
   rw [← hs] at hsib hq2 HPs HRi
   generalize mRoot f i s = rt at *
   clear hm hr hq1 hs hi
   by_cases c1 : r < m
   ·have e1 : (k : Int) - ((k : Int) - (r : Int)) < (m : Int) := by omega
    rw [if_pos (by omega)] at hsib
    go_upto_region 6 with (go_big_may; fail)
    go_upto_region 7 with (go_big_may; (refine L_remN (d := some 17) rfl rfl rfl (q := 2 * m) (ev_tmp rfl) (ev_tmp rfl) (by omega) (by omega) ?_; rewrite [← HRm.out]))
    go_upto_region 8 with (go_big_may; fail)
    go_upto_region 9 with (go_big_may; fail)
    go_upto_region 10 with (go_big_may; first | (go_at_call 42; (try clear hnew); refine (HRi.out _ _ (hst.old (by decide) HX.out) (by omega)).mono ?_; rintro e Wk ⟨rfl, hnew⟩; replace hst := hst.keep hnew) | (refine L_buildS (d := some 32) rfl rfl rfl [_] (bs_1 (ev_tmp rfl)) rfl Tryz.underlying44 el_api_Digest rfl (by (simp [Value.cells, Dig.size]; done)) (by decide) (by decide) ?_; (try clear hnew); intro g32 W32 hnew; replace hst := hst.trans hnew; simp only [List.cons_append, List.nil_append] at hst; simp only [List.flatMap_cons, List.flatMap_nil, List.append_nil, Value.cells, List.toList_toArray] at hst) | (refine L_appendO (d := some 33) rfl rfl hst rfl (by rfl) (by rfl) Tryz.underlying44 el_api_Digest rfl (by decide) (by decide) 1 rfl (by (rfl)) (by (exact hst.sl 0 rfl)) (by (exact oneCell_bytes)) (by omega) ?_; clear hst; intro A33 c33 W33 hst; simp only [List.set_cons_zero, List.set_cons_succ, List.nil_append, Nat.zero_add] at hst))
    go_upto_region 5 with (go_big_may; fail)
    go_wp2_with (fail)
    rw [HPs.out] at hst
    go_roundg (gk - 1)
    case measure => have := HI.out; omega
    case rel => exact ⟨i + 1, 2 * m, _, _, Lib.hid (by have := HI.out; omega), HM2, rfl, by go_num, by go_num, hst.pick [1] (by decide)⟩
   ·have e1 : ¬ (k : Int) - ((k : Int) - (r : Int)) < (m : Int) := by omega
    rw [if_neg (by omega)] at hsib
    go_upto_region 6 with (go_big_may; fail)
    go_upto_region 7 with (go_big_may; (refine L_remN (d := some 17) rfl rfl rfl (q := 2 * m) (ev_tmp rfl) (ev_tmp rfl) (by omega) (by omega) ?_; rewrite [← HRm.out]))
    go_upto_region 9 with (go_big_may; fail)
    go_upto_region 10 with (go_big_may; first | (go_at_call 42; (try clear hnew); refine (HRi.out _ _ (hst.old (by decide) HX.out) (by omega)).mono ?_; rintro e Wk ⟨rfl, hnew⟩; replace hst := hst.keep hnew) | (refine L_buildS (d := some 32) rfl rfl rfl [_] (bs_1 (ev_tmp rfl)) rfl Tryz.underlying44 el_api_Digest rfl (by (simp [Value.cells, Dig.size]; done)) (by decide) (by decide) ?_; (try clear hnew); intro g32 W32 hnew; replace hst := hst.trans hnew; simp only [List.cons_append, List.nil_append] at hst; simp only [List.flatMap_cons, List.flatMap_nil, List.append_nil, Value.cells, List.toList_toArray] at hst) | (refine L_appendO (d := some 33) rfl rfl hst rfl (by rfl) (by rfl) Tryz.underlying44 el_api_Digest rfl (by decide) (by decide) 1 rfl (by (rfl)) (by (exact hst.sl 0 rfl)) (by (exact oneCell_bytes)) (by omega) ?_; clear hst; intro A33 c33 W33 hst; simp only [List.set_cons_zero, List.set_cons_succ, List.nil_append, Nat.zero_add] at hst))
    go_upto_region 5 with (go_big_may; fail)
    go_wp2_with (fail)
    rw [HPs.out] at hst
    go_roundg (gk - 1)
    case measure => have := HI.out; omega
    case rel => exact ⟨i + 1, 2 * m, _, _, Lib.hid (by have := HI.out; omega), HM2, rfl, by go_num, by go_num, hst.pick [1] (by decide)⟩
  ·obtain rfl : i = 32 := by omega
   clear hi HI
   go_upto_region 11 with (go_big_may; fail)
   go_wp2_with (fail)
   go_ret
   exact ⟨_, _, rfl, hst.pick [0] (by decide)⟩
end Go.Proofs.YtaebeemnipafbaaGreatDoor

set_option maxRecDepth 20000
set_option linter.unusedSimpArgs false
set_option linter.unusedVariables false
namespace Go.Proofs.YtaebeemnipafbaaGreatDoor
open Go.RowKit
attribute [local simp] ntArr_size
def qlArr (K : Option Addr) (m mc : Nat) (A : Option Addr) (n c : Nat) : Array Value := #[.slice K m mc, .slice A n c]
section
variable {K : Option Addr} {m mc : Nat} {A : Option Addr} {n c : Nat}
theorem qlArr_0 : (qlArr K m mc A n c)[0]? = some (.slice K m mc) := rfl
theorem qlArr_1 : (qlArr K m mc A n c)[1]? = some (.slice A n c) := rfl
theorem qlArr_s1 (A' : Option Addr) (n' c' : Nat) : (qlArr K m mc A n c).setIfInBounds 1 (.slice A' n' c') = qlArr K m mc A' n' c' := rfl
end
theorem qlArr_size (K : Option Addr) (m mc : Nat) (A : Option Addr) (n c : Nat) : (qlArr K m mc A n c).size = 2 := rfl
theorem qlArr_all (K : Option Addr) (m mc : Nat) (A : Option Addr) (n c : Nat) : (qlArr K m mc A n c).all (·.oneCell') = true := by simp [qlArr, Value.oneCell']
theorem el_oathbookref3_Log : ElemIs Tryz.prog 27 (.agg (qlArr none 0 0 none 0 0)) 2 48 := by unfold ElemIs; kernel_rfl
section
variable {ops : Array Oper} {rest : List Oper} {o : Oper} {a : Act} {W : World} {Q : Exit → Act → World → Prop} {d : Option Tmp}
theorem L_buildQ0 (hd : o.dst = d) (hw : Region.wanted o (yielded ops a.tmps) = true) {x : Operand} (ho : o.op = .build 27 #[(0, x)]) {K : Option Addr} {m mc : Nat} (hx : a.eval x = .slice K m mc)
  (h : wpList Tryz.prog ops Q rest (a.put d (.agg (qlArr K m mc none 0 0))) W) : wpList Tryz.prog ops Q (o :: rest) a W :=
 L_buildT hd hw ho Tryz.underlying27 el_oathbookref3_Log [(0, 1), (1, 1)] (by kernel_rfl) (ps := [(0, .slice K m mc)]) (by simp [hx]) (qs := [(0, [.slice K m mc])]) ⟨rfl, rfl, by simp [qlArr_size], trivial⟩ rfl h
theorem L_buildQ1 (hd : o.dst = d) (hw : Region.wanted o (yielded ops a.tmps) = true) {x : Operand} (ho : o.op = .build 27 #[(1, x)]) {A : Option Addr} {n c : Nat} (hx : a.eval x = .slice A n c)
  (h : wpList Tryz.prog ops Q rest (a.put d (.agg (qlArr none 0 0 A n c))) W) : wpList Tryz.prog ops Q (o :: rest) a W :=
 L_buildT hd hw ho Tryz.underlying27 el_oathbookref3_Log [(0, 1), (1, 1)] (by kernel_rfl) (ps := [(1, .slice A n c)]) (by simp [hx]) (qs := [(1, [.slice A n c])]) ⟨rfl, rfl, by simp [qlArr_size], trivial⟩ rfl h
end
def lastZ (ns : List NoteN) (s : List UInt8) : Int := match lastI ns s with | some j => (j : Int) | none => -1
theorem lastI_take {ns : List NoteN} {j : Nat} (h : j < ns.length) (s : List UInt8) : lastI (ns.take (j + 1)) s = if ns[j].name = s then some j else lastI (ns.take j) s := by
 rw [List.take_succ_eq_append_getElem h, lastI_snoc, List.length_take, Nat.min_eq_left (by omega)]
set_option maxHeartbeats 2000000 in
theorem rlast_any (K : Option Addr) (m mc : Nat) (ns : List NoteN) (s : List UInt8) (A : Option Addr) (n c : Nat) (w : World) (hx : SlR w A n c 34 (notesL ns)) (hn : n ≤ 1000000) :
  Calls Tryz.prog 32 #[.agg (qlArr K m mc A n c), .string (bsOf s)] w fun e w' => e = .returned (.int .i64 (lastZ ns s)) ∧ St w w' [] := by
 have hst := St.refl w
 have hl : ns.length = n := by have := hx.1; rw [length_notesL] at this; omega
 have HL := Lib.hid hl
 have HX := Lib.hid hx
 clear hl hx
 go_enter Tryz.func32, Tryz.ntmps32
 go_upto_region 1 with (go_big_may; (refine L_boxA (d := some 2) rfl rfl rfl (ev_tmp rfl) ?_; (try clear hnew); intro g2 W2 hnew; replace hst := hst.trans hnew; simp only [List.cons_append, List.nil_append] at hst))
 go_wp2_with ((refine L_load1 (d := some 7) rfl rfl rfl (by rfl) Tryz.underlying23 rfl (by (exact cell_of (hst.get 0 rfl) qlArr_1)) ?_))
 go_loopg [5] n (fun gk s5 wr => ∃ k : Nat, Hid (k = gk ∧ k ≤ n ∧ lastI (ns.take k) s = lastI ns s) ∧ s5 = .int .i64 ((k : Int) - 1) ∧ St w wr [.blk g2 27 (qlArr K m mc A n c)])
 case atStart => exact ⟨n, Lib.hid ⟨rfl, Nat.le_refl _, by rw [List.take_of_length_le (by rw [HL.out]; exact Nat.le_refl _)]⟩, by go_num, hst⟩
 case round =>
  clear hst
  obtain ⟨k, HK, rfl, hst⟩ := hrel
  have hk := HK.out.2.1
  cases k with
  | zero =>
   have HE := Lib.hid (show lastZ ns s = -1 by unfold lastZ; rw [← HK.out.2.2]; rfl)
   clear HK
   go_upto_region 6 with (go_big_may; fail)
   go_wp2_with (fail)
   go_ret
   exact ⟨by rw [HE.out]; rfl, hst.forget⟩
  | succ j =>
   rw [show (((j + 1 : Nat) : Int) - 1) = (j : Int) by omega]
   have hj : j < ns.length := by rw [HL.out]; omega
   have HC := Lib.hid (fun (W : World) (g off : Nat) h => note_name (W := W) (g := g) (off := off) (i := j) (ns := ns) h hj)
   have ht := lastI_take hj s
   obtain ⟨u, hu⟩ : ∃ u, u = ns[j].name := ⟨_, rfl⟩
   rw [← hu] at ht HC
   have hjn : j < n := by omega
   clear hu hj hk
   by_cases hus : u = s
   ·rw [if_pos hus] at ht
    have HE := Lib.hid (show lastZ ns s = (j : Int) by unfold lastZ; rw [← HK.out.2.2, ht])
    have HS := Lib.hid (show decide (u = s) = true from decide_eq_true hus)
    clear HK ht hus
    go_upto_region 4 with (go_big_may; fail)
    go_upto_region 5 with (go_big_may; first | (refine L_load1 (d := some 19) rfl rfl rfl (by rfl) Tryz.underlying9 rfl (HC.out _ _ _ hr17) ?_) | (refine L_load1 (d := some 15) rfl rfl rfl (by rfl) Tryz.underlying23 rfl (by (exact cell_of (hst.get 0 rfl) qlArr_1)) ?_) | (refine L_idxS (d := some 17) rfl rfl rfl (by rfl) (by rfl) Tryz.underlying23 el_api_Note (by (exact hst.old (by decide) HX.out)) (by omega) (by omega) ?_; intro o17 p17 ha17 hr17; ((subst ha17))) | (refine L_eqStr (d := some 21) rfl rfl rfl eqG_str Tryz.underlying9 (ev_tmp rfl) (ev_tmp rfl) ?_; (try rw [HS.out])))
    go_wp2_with (fail)
    go_ret
    exact ⟨by rw [HE.out]; rfl, hst.forget⟩
   ·rw [if_neg hus] at ht
    have HS := Lib.hid (show decide (u = s) = false from decide_eq_false hus)
    have HT := Lib.hid ht
    clear ht hus
    go_upto_region 4 with (go_big_may; fail)
    go_upto_region 3 with (go_big_may; first | (refine L_load1 (d := some 19) rfl rfl rfl (by rfl) Tryz.underlying9 rfl (HC.out _ _ _ hr17) ?_) | (refine L_load1 (d := some 15) rfl rfl rfl (by rfl) Tryz.underlying23 rfl (by (exact cell_of (hst.get 0 rfl) qlArr_1)) ?_) | (refine L_idxS (d := some 17) rfl rfl rfl (by rfl) (by rfl) Tryz.underlying23 el_api_Note (by (exact hst.old (by decide) HX.out)) (by omega) (by omega) ?_; intro o17 p17 ha17 hr17; ((subst ha17))) | (refine L_eqStr (d := some 21) rfl rfl rfl eqG_str Tryz.underlying9 (ev_tmp rfl) (ev_tmp rfl) ?_; (try rw [HS.out])))
    go_wp2_with (fail)
    go_roundg j
    case measure => have := HK.out.1; omega
    case rel => exact ⟨j, Lib.hid ⟨rfl, by omega, by rw [← HT.out]; exact HK.out.2.2⟩, by go_num, hst⟩
set_option maxHeartbeats 4000000 in
set_option maxRecDepth 100000 in
theorem rleaves_any (K : Option Addr) (m mc : Nat) (ns : List NoteN) (A : Option Addr) (n c : Nat) (w : World) (hx : SlR w A n c 34 (notesL ns)) (hok : ∀ x ∈ ns, noteOk x = true) (hn : n ≤ 256) :
  Calls Tryz.prog 18 #[.agg (qlArr K m mc A n c)] w fun e w' => ∃ O oc, e = .returned (.slice O n oc) ∧ St w w' [.row O n oc 32 32 (digsL (lvN ns))] := by
 have hst := St.refl w
 have hl : ns.length = n := by have := hx.1; rw [length_notesL] at this; omega
 have HL := Lib.hid hl
 have HX := Lib.hid hx
 have HOk := Lib.hid (fun (i : Nat) (h : i < ns.length) => hok ns[i] (List.getElem_mem h))
 clear hl hx hok
 go_enter Tryz.func18, Tryz.ntmps18
 go_upto_region 1 with (go_big_may; (refine L_boxA (d := some 1) rfl rfl rfl (ev_tmp rfl) ?_; (try clear hnew); intro g1 W1 hnew; replace hst := hst.trans hnew; simp only [List.cons_append, List.nil_append] at hst))
 go_upto_region 2 with (go_big_may; fail)
 go_wp2_with (fail)
 replace hst := hst.nilRow 32 32
 go_loopg [3, 4] n (fun gk s3 s4 wr => ∃ (i : Nat) (O : Option Addr) (oc : Nat), Hid (i + gk = n) ∧ s3 = .slice O i oc ∧ s4 = .int .i64 (i : Int) ∧ St w wr [.row O i oc 32 32 (digsL (lvN (ns.take i))), .blk g1 27 (qlArr K m mc A n c)])
 case atStart => exact ⟨0, none, 0, Lib.hid (by omega), rfl, rfl, hst⟩
 case round =>
  clear hst
  obtain ⟨i, O, oc, HI, rfl, rfl, hst⟩ := hrel
  have hi := HI.out
  by_cases hin : i < n
  ·have hil : i < ns.length := by rw [HL.out]; exact hin
   have HC := Lib.hid (fun (W : World) (g off : Nat) h => note_cells (W := W) (g := g) (off := off) (i := i) (ns := ns) h hil)
   have HW := Lib.hid (fun w => rnoteB_any ns[i] w (HOk.out i hil))
   have HE := Lib.hid (show digsL (lvN (ns.take i)) ++ (ntLeaf ns[i]).arr.toList = digsL (lvN (ns.take (i + 1))) by
    unfold lvN digsL
    rw [List.take_succ_eq_append_getElem hil, List.map_append, List.flatMap_append, Dig.toList]
    simp only [List.map_cons, List.map_nil, List.flatMap_cons, List.flatMap_nil, List.append_nil])
   have HLf := Lib.hid (show ntLeaf ns[i] = leafBN (noteB ns[i]) from rfl)
   have hlb : (noteB ns[i]).length ≤ 67 := by
    have := HOk.out i hil
    unfold noteOk at this
    rw [Bool.and_eq_true] at this
    have := isNm_len this.1
    rw [length_noteB]
    omega
   unfold NoteN.arr at HC
   obtain ⟨x, hx⟩ : ∃ x, x = ns[i] := ⟨_, rfl⟩
   rw [← hx] at HC HW HE HLf hlb
   clear hx hil hi
   generalize noteB x = bs at *
   generalize ntLeaf x = lf at *
   go_upto_region 5 with (go_big_may; (refine L_load1 (d := some 9) rfl rfl rfl (by rfl) Tryz.underlying23 rfl (by (exact cell_of (hst.get 1 rfl) qlArr_1)) ?_))
   go_upto_region 6 with (go_big_may; first | (refine L_loadM (d := some 19) rfl rfl rfl (by rfl) Tryz.underlying34 rfl el_api_Note (HC.out _ _ _ hr18) (ntArr_size _ _ _) ?_) | (go_at_call 49; (try clear hnew); refine (HW.out _).mono ?_; rintro e Wn ⟨On, on, rfl, hnew⟩; replace hst := hst.trans hnew; simp only [List.cons_append, List.nil_append] at hst) | (refine L_load1 (d := some 16) rfl rfl rfl (by rfl) Tryz.underlying23 rfl (by (exact cell_of (hst.get 1 rfl) qlArr_1)) ?_) | (refine L_idxS (d := some 18) rfl rfl rfl (by rfl) (by rfl) Tryz.underlying23 el_api_Note (by (exact hst.old (by decide) HX.out)) (by omega) (by omega) ?_; intro o18 p18 ha18 hr18; ((subst ha18))))
   go_upto_region 4 with (go_big_may; first | (go_at_call 50; (try clear hnew); refine (rleaf_any bs _ _ _ _ (hst.sl 0 rfl) (by omega)).mono ?_; rintro e Wk1 ⟨rfl, hnew⟩; replace hst := hst.keep hnew) | (refine L_buildS (d := some 26) rfl rfl rfl [_] (bs_1 (ev_tmp rfl)) rfl Tryz.underlying44 el_api_Digest rfl (by (simp [Value.cells, Dig.size]; done)) (by decide) (by decide) ?_; (try clear hnew); intro g26 W26 hnew; replace hst := hst.trans hnew; simp only [List.cons_append, List.nil_append] at hst; simp only [List.flatMap_cons, List.flatMap_nil, List.append_nil, Value.cells, List.toList_toArray] at hst) | (refine L_appendO (d := some 27) rfl rfl hst rfl (by rfl) (by rfl) Tryz.underlying44 el_api_Digest rfl (by decide) (by decide) 2 rfl (by (rfl)) (by (exact hst.sl 0 rfl)) (by (exact oneCell_bytes)) (by omega) ?_; clear hst; intro A27 c27 W27 hst; simp only [List.set_cons_zero, List.set_cons_succ, List.nil_append, Nat.zero_add] at hst))
   go_wp2_with (fail)
   rw [← HLf.out, HE.out] at hst
   go_roundg (gk - 1)
   case measure => have := HI.out; omega
   case rel => exact ⟨i + 1, _, _, Lib.hid (by have := HI.out; omega), rfl, by go_num, hst.pick [2, 3] (by decide)⟩
  ·obtain rfl : i = n := by omega
   have HE := Lib.hid (show ns.take i = ns from List.take_of_length_le (by rw [HL.out]; exact Nat.le_refl _))
   rw [HE.out] at hst
   clear hi HI HE
   go_upto_region 7 with (go_big_may; (refine L_load1 (d := some 9) rfl rfl rfl (by rfl) Tryz.underlying23 rfl (by (exact cell_of (hst.get 1 rfl) qlArr_1)) ?_))
   go_wp2_with (fail)
   go_ret
   exact ⟨_, _, rfl, hst.pick [0] (by decide)⟩
def cN (ns : List NoteN) (i : Nat) : Nat := ((List.range i).filter fun i => decide ((ns[i]?.bind fun n => lastI ns n.name) = some i)).length
theorem cN_all (ns : List NoteN) : cN ns ns.length = namesC ns := rfl
theorem cN_le (ns : List NoteN) (i : Nat) : cN ns i ≤ i := by
 have := List.length_filter_le (fun i => decide ((ns[i]?.bind fun n => lastI ns n.name) = some i)) (List.range i)
 rw [List.length_range] at this
 exact this
theorem lastZ_iff (ns : List NoteN) (s : List UInt8) (i : Nat) : lastZ ns s = (i : Int) ↔ lastI ns s = some i := by
 unfold lastZ
 cases lastI ns s with
 | none => simp
 | some j => simp; omega
theorem cN_s {ns : List NoteN} {i : Nat} (h : i < ns.length) : cN ns (i + 1) = if lastZ ns ns[i].name = (i : Int) then cN ns i + 1 else cN ns i := by
 have e : (ns[i]?.bind fun n => lastI ns n.name) = lastI ns ns[i].name := by rw [List.getElem?_eq_getElem h]; rfl
 unfold cN
 rw [List.range_succ, List.filter_append, List.length_append]
 by_cases hc : lastZ ns ns[i].name = (i : Int)
 ·rw [if_pos hc]
  rw [lastZ_iff] at hc
  simp [List.filter_cons, e, hc]
 ·rw [if_neg hc]
  rw [lastZ_iff] at hc
  simp [List.filter_cons, e, hc]
end Go.Proofs.YtaebeemnipafbaaGreatDoor

set_option maxRecDepth 20000
set_option linter.unusedSimpArgs false
set_option linter.unusedVariables false
namespace Go.Proofs.YtaebeemnipafbaaGreatDoor
open Go.RowKit
attribute [local simp] prArr_size
theorem lvN_get {ns : List NoteN} {i : Nat} (h : i < ns.length) : (lvN ns)[i]'(by rw [length_lvN]; exact h) = ntLeaf ns[i] := by simp [lvN]
set_option maxHeartbeats 8000000 in
set_option maxRecDepth 100000 in
theorem rentries_any (K : Option Addr) (m mc : Nat) (ns : List NoteN) (A : Option Addr) (n c : Nat) (w : World) (hx : SlR w A n c 34 (notesL ns)) (hok : ∀ x ∈ ns, noteOk x = true) (hn : n ≤ 256) :
  Calls Tryz.prog 43 #[.agg (qlArr K m mc A n c)] w fun e w' => ∃ O oc, e = .returned (.slice O (entR ns n).length oc) ∧ St w w' [.row O (entR ns n).length oc 110 33 (entL (entR ns n))] := by
 have hst := St.refl w
 have hl : ns.length = n := by have := hx.1; rw [length_notesL] at this; omega
 have HL := Lib.hid hl
 have HX := Lib.hid hx
 have HOk := Lib.hid (fun (i : Nat) (h : i < ns.length) => hok ns[i] (List.getElem_mem h))
 have HLv := Lib.hid (fun (w' : World) (h : SlR w' A n c 34 (notesL ns)) => rleaves_any K m mc ns A n c w' h hok hn)
 have HLs := Lib.hid (fun (s : List UInt8) (w' : World) (h : SlR w' A n c 34 (notesL ns)) => rlast_any K m mc ns s A n c w' h (by omega))
 clear hl hx hok
 go_enter Tryz.func43, Tryz.ntmps43
 go_upto_region 1 with (go_big_may; (refine L_boxA (d := some 1) rfl rfl rfl (ev_tmp rfl) ?_; (try clear hnew); intro g1 W1 hnew; replace hst := hst.trans hnew; simp only [List.cons_append, List.nil_append] at hst))
 go_upto_region 2 with (go_big_may; fail)
 go_upto_region 3 with (go_big_may; first | (go_at_call 18; (try clear hnew); refine (HLv.out _ (hst.old (by decide) HX.out)).mono ?_; rintro e Wl ⟨Ol, ol, rfl, hnew⟩; replace hst := hst.trans hnew; simp only [List.cons_append, List.nil_append] at hst) | ((refine L_loadA (d := some 6) rfl rfl rfl (by rfl) Tryz.underlying27 rfl el_oathbookref3_Log (by (exact hst.get 0 rfl)) (by (exact qlArr_size _ _ _ _ _ _)) ?_)))
 go_wp2_with (fail)
 (try clear hnew)
 replace hst := hst.nilRow 110 33
 have he0 : entR ns 0 = [] := rfl
 go_loopg [3, 5] n (fun gk s3 s5 wr => ∃ (i l : Nat) (O : Option Addr) (oc : Nat), Hid (i + gk = n) ∧ Hid (l = (entR ns i).length) ∧ s3 = .slice O l oc ∧ s5 = .int .i64 (i : Int) ∧ St w wr [.row O l oc 110 33 (entL (entR ns i)), .row Ol n ol 32 32 (digsL (lvN ns)), .blk g1 27 (qlArr K m mc A n c)])
 case atStart => exact ⟨0, 0, none, 0, Lib.hid (by omega), Lib.hid rfl, rfl, rfl, hst⟩
 case round =>
  clear hst he0
  obtain ⟨i, l, O, oc, HI, HLn, rfl, rfl, hst⟩ := hrel
  have hi := HI.out
  by_cases hin : i < n
  ·have hil : i < ns.length := by rw [HL.out]; exact hin
   have HC := Lib.hid (fun (W : World) (g off : Nat) h => note_name (W := W) (g := g) (off := off) (i := i) (ns := ns) h hil)
   have HDg := Lib.hid (by
    have := digsL_at (lvN ns) i (by rw [length_lvN]; exact hil)
    rw [lvN_get hil] at this
    exact this)
   have hes := entR_s hil
   have hiz := lastZ_iff ns ns[i].name i
   have hnb := HOk.out i hil
   unfold noteOk at hnb
   rw [Bool.and_eq_true] at hnb
   have hsz := (isNm_len hnb.1).2
   have hll : l ≤ 256 := by have h1 := HLn.out; have h2 := entR_len ns i; omega
   obtain ⟨x, hx⟩ : ∃ x, x = ns[i] := ⟨_, rfl⟩
   rw [← hx] at HC HDg hes hiz hsz
   have HIx := Lib.hid (fun w' => rindex_any x.name w' (by omega))
   obtain ⟨a1, a2, a3⟩ := x
   simp only at HC hes hiz hsz HIx
   generalize ntLeaf ⟨a1, a2, a3⟩ = lf at *
   have HLs2 := Lib.hid (fun (w' : World) h => HLs.out a1 w' h)
   clear hx hnb hil hi hsz
   generalize lastZ ns a1 = z at *
   generalize idxN a1 = ix at *
   obtain ⟨U, hU⟩ : ∃ U, U = entR ns i := ⟨_, rfl⟩
   have HUl := Lib.hid (show l = U.length by rw [hU]; exact HLn.out)
   rw [← hU] at hes hst
   by_cases c1 : lastI ns a1 = some i
   ·have e1 : (z == (i : Int)) = true := by rw [hiz.2 c1]; simp
    rw [if_pos c1] at hes
    have HU := Lib.hid hes
    have HE := Lib.hid (show entL U ++ (prArr (ix : Int) lf).toList = entL (U ++ [(ix, lf)]) by rw [entL_app, ent_one])
    clear hU hes HLn c1 hiz
    go_upto_region 6 with (go_big_may; (refine L_load1 (d := some 10) rfl rfl rfl (by rfl) Tryz.underlying23 rfl (by (exact cell_of (hst.get 2 rfl) qlArr_1)) ?_))
    refine wp_region_idx [(0, 0), (1, 0), (2, 0), (3, 0), (4, 0), (5, 0), (6, 0), (8, 0), (7, 2), (9, 2)] (by kernel_rfl) (by kernel_rfl) ?_
    replace hst := hst.drew
    refine idx_q rfl rfl ?_; go_wp2_with (((refine L_loadA (d := some 15) rfl rfl rfl (by rfl) Tryz.underlying27 rfl el_oathbookref3_Log (by (exact hst.get 2 rfl)) (by (exact qlArr_size _ _ _ _ _ _)) ?_)))
    refine idx_qf rfl rfl (by kernel_rfl) ?_; go_wp2_with fail
    refine idx_q rfl rfl ?_; go_wp2_with ((refine L_load1 (d := some 17) rfl rfl rfl (by rfl) Tryz.underlying23 rfl (by (exact cell_of (hst.get 2 rfl) qlArr_1)) ?_))
    refine idx_q rfl rfl ?_; go_wp2_with fail
    refine idx_q rfl rfl ?_; go_wp2_with ((refine L_idxS (d := some 19) rfl rfl rfl (by rfl) (by rfl) Tryz.underlying23 el_api_Note (by (exact hst.old (by decide) HX.out)) (by omega) (by omega) ?_; intro o19 p19 ha19 hr19; ((subst ha19))))
    refine idx_qf rfl rfl (by kernel_rfl) ?_; go_wp2_with fail
    refine idx_q rfl rfl ?_; go_wp2_with ((refine L_load1 (d := some 21) rfl rfl rfl (by rfl) Tryz.underlying9 rfl (HC.out _ _ _ hr19) ?_))
    refine idx_q rfl rfl ?_; go_wp2_with fail
    refine idx_g rfl ?_; go_wp2_with ((go_at_call 32; (try clear hnew); refine (HLs2.out _ (hst.old (by decide) HX.out)).mono ?_; rintro e Wz ⟨rfl, hnew⟩; replace hst := hst.keep hnew)); refine ⟨by (exact hnew.below), ?_⟩
    refine idx_g rfl ?_; go_wp2_with (fail); refine ⟨by (exact Below.refl _ _), ?_⟩
    refine idx_nil ?_
    go_upto_region 7 with fail
    (try clear hnew)
    refine wp_region_idxT [(0, 0), (1, 0), (2, 0), (3, 0), (4, 0), (5, 0), (6, 0), (8, 0), (9, 0), (10, 0), (11, 0), (7, 2), (12, 2), (13, 2), (14, 1), (15, 2)] (by kernel_rfl) (by kernel_rfl) ?_
    replace hst := hst.drew
    refine idx_q rfl rfl ?_; go_wp2_with fail
    refine idx_qf rfl rfl (by kernel_rfl) ?_; go_wp2_with fail
    refine idx_q rfl rfl ?_; go_wp2_with ((refine L_load1 (d := some 27) rfl rfl rfl (by rfl) Tryz.underlying23 rfl (by (exact cell_of (hst.get 2 rfl) qlArr_1)) ?_))
    refine idx_q rfl rfl ?_; go_wp2_with fail
    refine idx_q rfl rfl ?_; go_wp2_with ((refine L_idxS (d := some 29) rfl rfl rfl (by rfl) (by rfl) Tryz.underlying23 el_api_Note (by (exact hst.old (by decide) HX.out)) (by omega) (by omega) ?_; intro o29 p29 ha29 hr29; ((obtain ⟨h1, h2⟩ := some_addr ha29; subst h1; subst h2; clear ha29))))
    refine idx_qf rfl rfl (by kernel_rfl) ?_; go_wp2_with fail
    refine idx_q rfl rfl ?_; go_wp2_with ((refine L_load1 (d := some 31) rfl rfl rfl (by rfl) Tryz.underlying9 rfl (HC.out _ _ _ hr29) ?_))
    refine idx_q rfl rfl ?_; go_wp2_with fail
    refine idx_q rfl rfl ?_; go_wp2_with fail
    refine idx_q rfl rfl ?_; go_wp2_with ((refine L_idxS (d := some 35) rfl rfl rfl (by rfl) (by rfl) Tryz.underlying44 el_api_Digest (by (exact hst.sl 1 rfl)) (by omega) (by omega) ?_; intro o35 p35 ha35 hr35; ((subst ha35))))
    refine idx_q rfl rfl ?_; go_wp2_with ((refine L_loadM (d := some 36) rfl rfl rfl (by rfl) Tryz.underlying32 rfl el_api_Digest (cs := lf.arr) (by rw [Dig.toList, ← HDg.out]; exact hr35) (Dig.size _) ?_))
    refine idx_g rfl ?_; go_wp2_with ((go_at_call 33; (try clear hnew); refine (HIx.out _).mono ?_; rintro e Wz ⟨rfl, hnew⟩; replace hst := hst.keep hnew)); refine ⟨by (exact hnew.below), ?_⟩
    refine idx_g rfl ?_; go_wp2_with ((refine L_buildE (d := some 37) rfl rfl rfl (ev_tmp rfl) (ev_tmp rfl) ?_)); refine ⟨by (exact Below.refl _ _), ?_⟩
    refine idx_g rfl ?_; go_wp2_with ((refine L_buildS (d := some 38) rfl rfl rfl [_] (bs_1 (ev_tmp rfl)) rfl Tryz.underlying93 el_api_Entry rfl (by (simp [Value.cells]; done)) (by decide) (by decide) ?_; (try clear hnew); intro g38 W38 hnew; replace hst := hst.trans hnew; simp only [List.cons_append, List.nil_append] at hst; simp only [List.flatMap_cons, List.flatMap_nil, List.append_nil, Value.cells, List.toList_toArray] at hst)); refine ⟨by (exact hnew.below), ?_⟩
    refine idx_e rfl ?_; go_wp2_with ((refine L_appendO (d := some 39) rfl rfl hst rfl (by rfl) (by rfl) Tryz.underlying93 el_api_Entry rfl (by decide) (by decide) 1 rfl (by (rfl)) (by (exact hst.sl 0 rfl)) (by (exact prArr_one _ _)) (by omega) ?_; clear hst; intro A39 c39 W39 hst; simp only [List.set_cons_zero, List.set_cons_succ, List.nil_append, Nat.zero_add] at hst))
    refine idx_g rfl ?_; go_wp2_with fail; refine ⟨by (exact Below.refl _ _), ?_⟩
    refine idx_nil ?_
    go_wp2_with (fail)
    rw [HE.out, ← HU.out] at hst
    go_roundg (gk - 1)
    case measure => have := HI.out; omega
    case rel => exact ⟨i + 1, l + 1, _, _, Lib.hid (by have := HI.out; omega), Lib.hid (by rw [HU.out, List.length_append, List.length_singleton, ← HUl.out]), rfl, by go_num, hst.pick [1, 2, 3] (by decide)⟩
   ·have e1 : (z == (i : Int)) = false := by rw [beq_eq_false_iff_ne]; exact fun h => c1 (hiz.1 h)
    rw [if_neg c1] at hes
    have HU := Lib.hid hes
    clear hU hes HLn c1 hiz
    go_upto_region 6 with (go_big_may; (refine L_load1 (d := some 10) rfl rfl rfl (by rfl) Tryz.underlying23 rfl (by (exact cell_of (hst.get 2 rfl) qlArr_1)) ?_))
    refine wp_region_idx [(0, 0), (1, 0), (2, 0), (3, 0), (4, 0), (5, 0), (6, 0), (8, 0), (7, 2), (9, 2)] (by kernel_rfl) (by kernel_rfl) ?_
    replace hst := hst.drew
    refine idx_q rfl rfl ?_; go_wp2_with (((refine L_loadA (d := some 15) rfl rfl rfl (by rfl) Tryz.underlying27 rfl el_oathbookref3_Log (by (exact hst.get 2 rfl)) (by (exact qlArr_size _ _ _ _ _ _)) ?_)))
    refine idx_qf rfl rfl (by kernel_rfl) ?_; go_wp2_with fail
    refine idx_q rfl rfl ?_; go_wp2_with ((refine L_load1 (d := some 17) rfl rfl rfl (by rfl) Tryz.underlying23 rfl (by (exact cell_of (hst.get 2 rfl) qlArr_1)) ?_))
    refine idx_q rfl rfl ?_; go_wp2_with fail
    refine idx_q rfl rfl ?_; go_wp2_with ((refine L_idxS (d := some 19) rfl rfl rfl (by rfl) (by rfl) Tryz.underlying23 el_api_Note (by (exact hst.old (by decide) HX.out)) (by omega) (by omega) ?_; intro o19 p19 ha19 hr19; ((subst ha19))))
    refine idx_qf rfl rfl (by kernel_rfl) ?_; go_wp2_with fail
    refine idx_q rfl rfl ?_; go_wp2_with ((refine L_load1 (d := some 21) rfl rfl rfl (by rfl) Tryz.underlying9 rfl (HC.out _ _ _ hr19) ?_))
    refine idx_q rfl rfl ?_; go_wp2_with fail
    refine idx_g rfl ?_; go_wp2_with ((go_at_call 32; (try clear hnew); refine (HLs2.out _ (hst.old (by decide) HX.out)).mono ?_; rintro e Wz ⟨rfl, hnew⟩; replace hst := hst.keep hnew)); refine ⟨by (exact hnew.below), ?_⟩
    refine idx_g rfl ?_; go_wp2_with (fail); refine ⟨by (exact Below.refl _ _), ?_⟩
    refine idx_nil ?_
    go_wp2_with (fail)
    rw [← HU.out] at hst
    go_roundg (gk - 1)
    case measure => have := HI.out; omega
    case rel => exact ⟨i + 1, l, _, _, Lib.hid (by have := HI.out; omega), Lib.hid (by rw [HU.out]; exact HUl.out), rfl, by go_num, hst⟩
  ·obtain rfl : i = n := by omega
   obtain rfl := HLn.out
   clear hi HI HLn
   go_upto_region 8 with (go_big_may; (refine L_load1 (d := some 10) rfl rfl rfl (by rfl) Tryz.underlying23 rfl (by (exact cell_of (hst.get 2 rfl) qlArr_1)) ?_))
   go_wp2_with (fail)
   go_ret
   exact ⟨_, _, rfl, hst.pick [0] (by decide)⟩
end Go.Proofs.YtaebeemnipafbaaGreatDoor

set_option linter.unusedSimpArgs false
set_option linter.unusedVariables false
namespace Go.Proofs.YtaebeemnipafbaaGreatDoor
open Go.RowKit
set_option maxHeartbeats 2000000 in
set_option maxRecDepth 100000 in
theorem rtag_any (key : List UInt8) (K : Option Addr) (m mc : Nat) (n : Int) (x y z : Dig) (w : World) (hk : SlR w K m mc 1 (bytesL key)) (hm : m ≤ 140737488355000) :
  Calls Tryz.prog 25 #[.slice K m mc, .agg (hdArr n x y z)] w fun e w' => e = .returned (tagN key n x y).v ∧ St w w' [] := by
 have hst := St.refl w
 have HB := Lib.hid (show bytesL (sz4 n) ++ x.arr.toList ++ y.arr.toList = bytesL (sz4 n ++ (x.l ++ y.l)) by
  rw [Dig.toList, Dig.toList, ← bytesL_append, ← bytesL_append, List.append_assoc])
 have HF := Lib.hid (four_any n)
 have HM := Lib.hid (fun (A : Option Addr) (a c : Nat) (w' : World) (h1 : SlR w' K m mc 1 (bytesL key)) (h2 : SlR w' A a c 1 (bytesL (sz4 n ++ (x.l ++ y.l)))) (h3 : a ≤ 1000) => rmac_any key (sz4 n ++ (x.l ++ y.l)) K A m mc a c w' h1 h2 hm (by omega))
 have HR := Lib.hid (show (macN key (sz4 n ++ (x.l ++ y.l))).v = (tagN key n x y).v from rfl)
 generalize (tagN key n x y).v = tg at *
 generalize sz4 n ++ (x.l ++ y.l) = all at *
 generalize sz4 n = hd at *
 go_enter Tryz.func25, Tryz.ntmps25
 go_upto_region 1 with (first | (refine L_boxA (d := some 3) rfl rfl rfl (ev_tmp rfl) ?_; (try clear hnew); intro g3 W3 hnew; replace hst := hst.trans hnew; simp only [List.cons_append, List.nil_append] at hst) | (refine L_allocA (d := some 4) rfl rfl rfl el_api_Digest ?_; (try clear hnew); intro g4 W4 hnew; replace hst := hst.trans hnew; simp only [List.cons_append, List.nil_append] at hst))
 go_upto_region 2 with (first | ((refine L_loadM (d := some 9) rfl rfl rfl (by rfl) Tryz.underlying32 rfl el_api_Digest (by (exact hdArr_root (hst.get 1 rfl))) (by (exact Dig.size _)) ?_)) | (refine L_allocA (d := some 5) rfl rfl rfl el_api_Digest ?_; (try clear hnew); intro g5 W5 hnew; replace hst := hst.trans hnew; simp only [List.cons_append, List.nil_append] at hst) | (refine wpl_at (.store 32 (.tmp 5) (.tmp 9)) rfl ?_; (refine L_storeA rfl rfl hst rfl (by rfl) (ev_tmp rfl) (by (exact Dig.one _)) el_api_Digest (by (exact Dig.size _)) 0 rfl (by (rfl)) ?_; clear hst; intro WS3 hst; simp only [List.set_cons_zero, List.set_cons_succ] at hst)))
 go_upto_region 3 with (first | ((refine L_loadM (d := some 11) rfl rfl rfl (by rfl) Tryz.underlying32 rfl el_api_Digest (by (exact hdArr_map (hst.get 2 rfl))) (by (exact Dig.size _)) ?_)) | (refine L_allocA (d := some 6) rfl rfl rfl el_api_Digest ?_; (try clear hnew); intro g6 W6 hnew; replace hst := hst.trans hnew; simp only [List.cons_append, List.nil_append] at hst) | (refine wpl_at (.store 32 (.tmp 6) (.tmp 11)) rfl ?_; (refine L_storeA rfl rfl hst rfl (by rfl) (ev_tmp rfl) (by (exact Dig.one _)) el_api_Digest (by (exact Dig.size _)) 0 rfl (by (rfl)) ?_; clear hst; intro WS3 hst; simp only [List.set_cons_zero, List.set_cons_succ] at hst)))
 refine wp_region_idx [(3, 0), (0, 2), (1, 2), (2, 2), (4, 1), (5, 2)] (by kernel_rfl) (by kernel_rfl) ?_
 replace hst := hst.drew
 refine idx_q rfl rfl ?_; go_wp2_with ((refine L_sliceAll (d := some 15) rfl rfl rfl (by rfl) Tryz.underlying32 el_uint8 (by (exact hst.get 1 rfl)) (by (exact Dig.size _)) (by decide) ?_; intro hs15))
 refine idx_g rfl ?_; go_wp2_with fail; refine ⟨by (exact Below.refl _ _), ?_⟩
 refine idx_g rfl ?_; go_wp2_with ((refine L_load1 (d := some 13) rfl rfl rfl (by rfl) Tryz.underlying3 rfl (by (exact cell_of (hst.get 3 rfl) hdArr_0)) ?_)); refine ⟨by (exact Below.refl _ _), ?_⟩
 refine idx_g rfl ?_; go_wp2_with ((go_at_call 63; refine (HF.out _).mono ?_; rintro e W14 ⟨A14, rfl, hnew⟩; replace hst := hst.trans hnew; simp only [List.cons_append, List.nil_append] at hst)); refine ⟨by (exact hnew.below), ?_⟩
 refine idx_e rfl ?_; go_wp2_with ((refine L_appendO (d := some 16) rfl rfl hst rfl (by rfl) (by rfl) Tryz.underlying22 el_uint8 rfl (by decide) (by decide) 0 rfl (by (rfl)) (by (exact hnew.old (by decide) hs15)) (by (exact oneCell_bytes)) (by omega) ?_; clear hst; intro A16 c16 W16 hst; simp only [List.set_cons_zero, List.set_cons_succ, List.nil_append, Nat.zero_add] at hst))
 refine idx_g rfl ?_; go_wp2_with fail; refine ⟨by (exact Below.refl _ _), ?_⟩
 refine idx_nil ?_
 clear hnew hs15
 go_wp2_with (first | (go_at_call 64; refine (HM.out _ _ _ _ (hst.old (by decide) hk) (by rw [← HB.out]; exact hst.sl 0 rfl) (by decide)).mono ?_; rintro e W21 ⟨rfl, hnew⟩; replace hst := hst.keep hnew) | (refine L_sliceAll (d := some 19) rfl rfl rfl (by rfl) Tryz.underlying32 el_uint8 (by (exact hst.get 1 rfl)) (by (exact Dig.size _)) (by decide) ?_; intro hs19) | (refine L_appendO (d := some 20) rfl rfl hst rfl (by rfl) (by rfl) Tryz.underlying22 el_uint8 rfl (by decide) (by decide) 0 rfl (by (rfl)) (by (assumption)) (by (exact oneCell_bytes)) (by omega) ?_; clear hst; intro A20 c20 W20 hst; simp only [List.set_cons_zero, List.set_cons_succ, List.nil_append, Nat.zero_add] at hst) | (refine wpl_at (.store 32 (.tmp 4) (.tmp 21)) rfl ?_; (refine L_storeA rfl rfl hst rfl (by rfl) (ev_tmp rfl) (by (exact Dig.one _)) el_api_Digest (by (rfl)) 3 rfl (by (rfl)) ?_; clear hst; intro WS5 hst; simp only [List.set_cons_zero, List.set_cons_succ] at hst)))
 refine bp_cell rfl rfl rfl (hst.get 3 rfl) Tryz.underlying32 rfl el_api_Digest (by (rfl)) ?_
 refine ⟨?_, hst.forget⟩
 rw [← HR.out]
set_option maxHeartbeats 1000000 in
theorem told_tag_any (key : List UInt8) (K : Option Addr) (m mc : Nat) (n : Int) (x y z : Dig) (w : World) (hn1 : -9223372036854775808 ≤ n) (hn2 : n ≤ 9223372036854775807) (hT : Tb w) (hk : SlR w K m mc 1 (bytesL key)) (hm : m ≤ 140737488355000) :
  Calls Tryz.prog 151 #[.slice K m mc, .agg (hdArr n x y z)] w fun e w' => e = .returned (.bool (decide (z = tagN key n x y))) ∧ St w w' [] := by
 have hst := St.refl w
 have HC := Lib.hid (fun (w' : World) (ht : Tb w') (h1 : SlR w' K m mc 1 (bytesL key)) => tag_any key K m mc n x y z w' hn1 hn2 ht h1 hm)
 generalize tagN key n x y = tg at *
 have HT := Lib.hid hT
 clear hT hn1 hn2 hm
 go_enter Tryz.func151, Tryz.ntmps151
 go_upto_region 1 with ((refine L_boxA (d := some 3) rfl rfl rfl (ev_tmp rfl) ?_; (try clear hnew); intro g3 W3 hnew; replace hst := hst.trans hnew; simp only [List.cons_append, List.nil_append] at hst))
 refine wp_region_pm (.one 2 3 (.one 0 0 (.one 1 0 (.one 3 2 (.one 4 2 (.one 5 2 (.one 6 2 .nil))))))) (by kernel_rfl) (by kernel_rfl) ?_
 replace hst := hst.drew
 refine pm_p rfl rfl ?_; go_wp2_with fail
 refine pm_qf rfl rfl (by kernel_rfl) ?_; go_wp2_with fail
 refine pm_q rfl rfl ?_; go_wp2_with (((refine L_loadM (d := some 6) rfl rfl rfl (by rfl) Tryz.underlying32 rfl el_api_Digest (by (exact hdArr_tag (hst.get 0 rfl))) (by (exact Dig.size _)) ?_)))
 refine pm_g rfl ?_; go_wp2_with (((refine L_loadA (d := some 8) rfl rfl rfl (by rfl) Tryz.underlying41 rfl el_api_Head (by (exact hst.get 0 rfl)) (by (exact hdArr_size _ _ _ _)) ?_))); refine ⟨by (exact Below.refl _ _), ?_⟩
 refine pm_g rfl ?_; go_wp2_with ((go_at_call 24; refine (HC.out _ (HT.out.of hst) (hst.old (by decide) hk)).mono ?_; rintro e Wt ⟨rfl, hnew⟩; replace hst := hst.keep hnew)); refine ⟨by (exact hnew.below), ?_⟩
 refine pm_g rfl ?_; go_wp2_with ((refine L_eqD (d := some 10) rfl rfl rfl Tryz.underlying32 Tryz.underlying5 el_uint8 eqG_D (ev_tmp rfl) (ev_tmp rfl) ?_)); refine ⟨by (exact Below.refl _ _), ?_⟩
 refine pm_g rfl ?_; go_wp2_with fail; refine ⟨by (exact Below.refl _ _), ?_⟩
 refine pm_nil ?_
 go_wp2_with fail
 go_ret
 exact ⟨rfl, hst.forget⟩
end Go.Proofs.YtaebeemnipafbaaGreatDoor

set_option maxRecDepth 20000
set_option linter.unusedSimpArgs false
set_option linter.unusedVariables false
namespace Go.Proofs.YtaebeemnipafbaaGreatDoor
open Go.RowKit
attribute [local simp] prArr_size hdArr_size
section
variable {ops : Array Oper} {rest : List Oper} {o : Oper} {a : Act} {W : World} {Q : Exit → Act → World → Prop} {d : Option Tmp}
theorem L_buildH3 (hd : o.dst = d) (hw : Region.wanted o (yielded ops a.tmps) = true) {x y z : Operand} (ho : o.op = .build 41 #[(0, x), (1, y), (2, z)]) {n : Int} {p q : Dig} (hx : a.eval x = .int .i64 n) (hy : a.eval y = .agg p.arr) (hz : a.eval z = .agg q.arr)
  (h : wpList Tryz.prog ops Q rest (a.put d (.agg (hdArr n p q zeroD))) W) : wpList Tryz.prog ops Q (o :: rest) a W :=
 L_buildT hd hw ho Tryz.underlying41 el_api_Head [(0, 1), (1, 32), (33, 32), (65, 32)] (by kernel_rfl) (ps := [(0, .int .i64 n), (1, .agg p.arr), (2, .agg q.arr)]) (by simp [hx, hy, hz]) (qs := [(0, [.int .i64 n]), (1, p.arr.toList), (33, q.arr.toList)])
  ⟨rfl, rfl, by simp [hdArr_size], by rw [dig_len]; rfl, rfl, by rw [hdArr_size, dig_len]; decide, by rw [dig_len]; rfl, rfl, by rw [hdArr_size, dig_len]; decide, trivial⟩
  (by
   unfold putAll putAll putAll putAll
   rw [show putAt (hdArr 0 zeroD zeroD zeroD) 0 [.int .i64 n] = hdArr n zeroD zeroD zeroD from put_part (cs := hdArr 0 zeroD zeroD zeroD) (ds := hdArr n zeroD zeroD zeroD) [] [.int .i64 0] [.int .i64 n] (zeroD.arr.toList ++ (zeroD.arr.toList ++ zeroD.arr.toList)) rfl rfl rfl rfl]
   rw [hdArr_putRoot, hdArr_putMap]) h
theorem L_buildF3 (hd : o.dst = d) (hw : Region.wanted o (yielded ops a.tmps) = true) {x : Operand} (ho : o.op = .build 46 #[(3, x)]) {A : Option Addr} {n c : Nat} (hx : a.eval x = .slice A n c)
  (h : wpList Tryz.prog ops Q rest (a.put d (.agg (fdArr [] zeroD 0 0 none 0 0 A n c))) W) : wpList Tryz.prog ops Q (o :: rest) a W :=
 L_buildT hd hw ho Tryz.underlying46 el_api_Found [(0, 34), (34, 1), (35, 1), (36, 1)] (by kernel_rfl) (ps := [(3, .slice A n c)]) (by simp [hx]) (qs := [(36, [.slice A n c])])
  ⟨rfl, rfl, by rw [fdArr_size]; simp, trivial⟩
  (by
   unfold putAll putAll
   exact put_part (cs := fdArr [] zeroD 0 0 none 0 0 none 0 0) (ds := fdArr [] zeroD 0 0 none 0 0 A n c) ((ntArr [] zeroD 0).toList ++ [.int .i64 0, .slice none 0 0]) [.slice none 0 0] [.slice A n c] [] (by rw [fdArr_list]; simp) (by rw [fdArr_list]; simp) rfl (by rw [List.length_append, ntArr_len]; rfl)) h
end
set_option maxHeartbeats 16000000 in
set_option maxRecDepth 100000 in
theorem rheadof_any (key : List UInt8) (K : Option Addr) (m mc : Nat) (ns : List NoteN) (A : Option Addr) (n c : Nat) (w : World) (hk : SlR w K m mc 1 (bytesL key)) (hx : SlR w A n c 34 (notesL ns)) (hg : Logged ns) (hm : m ≤ 140737488351232) :
  Calls Tryz.prog 13 #[.agg (qlArr K m mc A n c)] w fun e w' => e = .returned (.agg (hdArr (n : Int) (rootN (lvN ns)) (mapN ns) (headR key ns))) ∧ St w w' [] := by
 have hst := St.refl w
 have hl : ns.length = n := by have := hx.1; rw [length_notesL] at this; omega
 have hn : n ≤ 256 := by have := hg.len; omega
 have HX := Lib.hid hx
 have HK := Lib.hid hk
 have HLv := Lib.hid (fun (w' : World) (h : SlR w' A n c 34 (notesL ns)) => rleaves_any K m mc ns A n c w' h hg.ok hn)
 have HEn := Lib.hid (fun (w' : World) (h : SlR w' A n c 34 (notesL ns)) => rentries_any K m mc ns A n c w' h hg.ok hn)
 have HRt := Lib.hid (fun (w' : World) (O : Option Addr) (oc : Nat) (h : SlR w' O n oc 32 (digsL (lvN ns))) => rroot_any n (lvN ns) O oc w' h hn)
 have HMp := Lib.hid (fun (w' : World) (O : Option Addr) (oc : Nat) (h : SlR w' O (entR ns n).length oc 33 (entL (entR ns n))) => by
  have := rmaproot_any 32 (entR ns n) O _ oc 0 4294967296 w' h (by have := entR_len ns n; omega) (entR_keys ns n) (by decide) (by decide) (by decide)
  rw [show (0 : Int).toNat = 0 from rfl, show mRoot (leafAt (entR ns n)) 32 0 = mapN ns by rw [← hl]; exact mapN_ent hg] at this
  exact this)
 have hhr : headR key ns = tagN key (n : Int) (rootN (lvN ns)) (mapN ns) := by unfold headR; rw [hl]
 rw [hhr]
 have HTg := Lib.hid (fun (w' : World) (x y : Dig) (h : SlR w' K m mc 1 (bytesL key)) => rtag_any key K m mc (n : Int) x y zeroD w' h (by omega))
 generalize rootN (lvN ns) = rt at *
 generalize mapN ns = mp at *
 clear hk hx hg hl hhr
 go_enter Tryz.func13, Tryz.ntmps13
 go_upto_region 1 with (go_big_may; first | (refine L_boxA (d := some 1) rfl rfl rfl (ev_tmp rfl) ?_; (try clear hnew); intro g1 W1 hnew; replace hst := hst.trans hnew; simp only [List.cons_append, List.nil_append] at hst) | (refine L_allocA (d := some 2) rfl rfl rfl el_api_Head ?_; (try clear hnew); intro g2 W2 hnew; replace hst := hst.trans hnew; simp only [List.cons_append, List.nil_append] at hst))
 refine wp_region_pm (.one 0 3 (.one 1 0 (.one 2 0 (.one 3 0 (.one 6 0 (.two 4 2 (.two 5 2 (.two 7 2 (.two 8 2 (.one 9 0 (.one 10 2 (.one 11 1 .nil))) 10 2 (.one 8 2 (.one 9 2 (.one 11 1 .nil)))) 10 2 (.one 7 2 (.one 8 2 (.one 9 2 (.one 11 1 .nil))))) 10 2 (.one 5 2 (.one 7 2 (.one 8 2 (.one 9 2 (.one 11 1 .nil)))))) 10 2 (.one 4 2 (.one 5 2 (.one 7 2 (.one 8 2 (.one 9 2 (.one 11 1 .nil)))))))))))) (by kernel_rfl) (by kernel_rfl) ?_
 replace hst := hst.drew
 refine pm_pv rfl (pureV_fieldAddr rfl (by rfl) Tryz.underlying27 rfl (by kernel_rfl)) ?_; go_wp2_with fail
 refine pm_q rfl rfl ?_; go_wp2_with ((refine L_load1 (d := some 5) rfl rfl rfl (by rfl) Tryz.underlying23 rfl (by (exact cell_of (hst.get 1 rfl) qlArr_1)) ?_))
 refine pm_q rfl rfl ?_; go_wp2_with (fail)
 refine pm_q rfl rfl ?_; go_wp2_with (((refine L_loadA (d := some 7) rfl rfl rfl (by rfl) Tryz.underlying27 rfl el_oathbookref3_Log (by (exact hst.get 1 rfl)) (by (exact qlArr_size _ _ _ _ _ _)) ?_)))
 refine pm_q rfl rfl ?_; go_wp2_with (((refine L_loadA (d := some 10) rfl rfl rfl (by rfl) Tryz.underlying27 rfl el_oathbookref3_Log (by (exact hst.get 1 rfl)) (by (exact qlArr_size _ _ _ _ _ _)) ?_)))
 refine pm_two (ki := 2) (kj := 2) rfl rfl ?_ ?_
 ·go_wp2_with ((go_at_call 18; (try clear hnew); refine (HLv.out _ (hst.old (by decide) HX.out)).mono ?_; rintro e Wl ⟨Ol, ol, rfl, hnew⟩; replace hst := hst.trans hnew; simp only [List.cons_append, List.nil_append] at hst)); refine ⟨fun _ => (by (exact hnew.below)), ?_⟩
  refine pm_two (ki := 2) (kj := 2) rfl rfl ?_ ?_
  ·go_wp2_with ((go_at_call 41; (try clear hnew); refine (HRt.out _ _ _ (by (exact hst.sl 0 rfl))).mono ?_; rintro e Wr ⟨rfl, hnew⟩; replace hst := hst.keep hnew)); refine ⟨fun _ => (by (exact hnew.below)), ?_⟩
   refine pm_two (ki := 2) (kj := 2) rfl rfl ?_ ?_
   ·go_wp2_with ((go_at_call 43; (try clear hnew); refine (HEn.out _ (hst.old (by decide) HX.out)).mono ?_; rintro e We ⟨Oe, oe, rfl, hnew⟩; replace hst := hst.trans hnew; simp only [List.cons_append, List.nil_append] at hst)); refine ⟨fun _ => (by (exact hnew.below)), ?_⟩
    refine pm_two (ki := 2) (kj := 2) rfl rfl ?_ ?_
    ·go_wp2_with ((go_at_call 42; (try clear hnew); refine (HMp.out _ _ _ (by (exact hst.sl 0 rfl))).mono ?_; rintro e Wr ⟨rfl, hnew⟩; replace hst := hst.keep hnew)); refine ⟨fun _ => (by (exact hnew.below)), ?_⟩
     refine pm_q rfl rfl ?_; go_wp2_with ((refine L_buildH3 (d := some 13) rfl rfl rfl (ev_tmp rfl) (ev_tmp rfl) (ev_tmp rfl) ?_))
     refine pm_g rfl ?_; go_wp2_with ((refine L_allocA (d := some 3) rfl rfl rfl el_api_Head ?_; (try clear hnew); intro g3 W3 hnew; replace hst := hst.trans hnew; simp only [List.cons_append, List.nil_append] at hst)); refine ⟨by (exact hnew.below), ?_⟩
     refine pm_e rfl ?_; go_wp2_with ((refine wpl_at (.store 41 (.tmp 3) (.tmp 13)) rfl ?_; (refine L_storeA rfl rfl hst rfl (by rfl) (ev_tmp rfl) (by (exact hdArr_all _ _ _ _)) el_api_Head (by (exact hdArr_size _ _ _ _)) 0 rfl (by (rfl)) ?_; clear hst; intro WS11 hst; simp only [List.set_cons_zero, List.set_cons_succ] at hst)))
     refine pm_nil ?_
     (try clear hnew)
     go_upto_region 3 with (go_big_may; first | (go_at_call 25; (try clear hnew); refine (HTg.out _ _ _ (hst.old (by decide) HK.out)).mono ?_; rintro e Wt ⟨rfl, hnew⟩; replace hst := hst.keep hnew) | (refine L_load1 (d := some 15) rfl rfl rfl (by rfl) Tryz.underlying22 rfl (by (exact cell_of (hst.get 4 rfl) qlArr_0)) ?_) | ((refine L_loadA (d := some 16) rfl rfl rfl (by rfl) Tryz.underlying41 rfl el_api_Head (by (exact hst.get 0 rfl)) (by (exact hdArr_size _ _ _ _)) ?_)) | (refine wpl_at (.store 32 (.tmp 18) (.tmp 17)) rfl ?_; (refine L_storeM rfl rfl hst rfl (by rfl) (ev_tmp rfl) (by (exact Dig.one _)) el_api_Digest (by (rfl)) 0 rfl (by (simp; done)) ?_; clear hst; intro WS5 hst; simp only [List.set_cons_zero, List.set_cons_succ, hdArr_putTag _ _ _ _ _] at hst)))
     go_wp2_with (first | ((refine L_loadA (d := some 19) rfl rfl rfl (by rfl) Tryz.underlying41 rfl el_api_Head (by (exact hst.get 0 rfl)) (by (exact hdArr_size _ _ _ _)) ?_)) | (refine wpl_at (.store 41 (.tmp 2) (.tmp 19)) rfl ?_; (refine L_storeA rfl rfl hst rfl (by rfl) (ev_tmp rfl) (by (exact hdArr_all _ _ _ _)) el_api_Head (by (exact hdArr_size _ _ _ _)) 3 rfl (by (rfl)) ?_; clear hst; intro WS1 hst; simp only [List.set_cons_zero, List.set_cons_succ, hdArr_putTag _ _ _ _ _] at hst)))
     (refine bp_cell rfl rfl rfl (hst.get 3 rfl) Tryz.underlying41 rfl el_api_Head (hdArr_size _ _ _ _) ?_)
     exact ⟨rfl, hst.forget⟩
    ·go_wp2_with ((refine L_allocA (d := some 3) rfl rfl rfl el_api_Head ?_; (try clear hnew); intro g3 W3 hnew; replace hst := hst.trans hnew; simp only [List.cons_append, List.nil_append] at hst)); refine ⟨fun _ => (by (exact hnew.below)), ?_⟩
     refine pm_g rfl ?_; go_wp2_with ((go_at_call 42; (try clear hnew); refine (HMp.out _ _ _ (by (exact hst.sl 1 rfl))).mono ?_; rintro e Wr ⟨rfl, hnew⟩; replace hst := hst.keep hnew)); refine ⟨by (exact hnew.below), ?_⟩
     refine pm_g rfl ?_; go_wp2_with ((refine L_buildH3 (d := some 13) rfl rfl rfl (ev_tmp rfl) (ev_tmp rfl) (ev_tmp rfl) ?_)); refine ⟨by (exact Below.refl _ _), ?_⟩
     refine pm_e rfl ?_; go_wp2_with ((refine wpl_at (.store 41 (.tmp 3) (.tmp 13)) rfl ?_; (refine L_storeA rfl rfl hst rfl (by rfl) (ev_tmp rfl) (by (exact hdArr_all _ _ _ _)) el_api_Head (by (exact hdArr_size _ _ _ _)) 0 rfl (by (rfl)) ?_; clear hst; intro WS11 hst; simp only [List.set_cons_zero, List.set_cons_succ] at hst)))
     refine pm_nil ?_
     (try clear hnew)
     go_upto_region 3 with (go_big_may; first | (go_at_call 25; (try clear hnew); refine (HTg.out _ _ _ (hst.old (by decide) HK.out)).mono ?_; rintro e Wt ⟨rfl, hnew⟩; replace hst := hst.keep hnew) | (refine L_load1 (d := some 15) rfl rfl rfl (by rfl) Tryz.underlying22 rfl (by (exact cell_of (hst.get 4 rfl) qlArr_0)) ?_) | ((refine L_loadA (d := some 16) rfl rfl rfl (by rfl) Tryz.underlying41 rfl el_api_Head (by (exact hst.get 0 rfl)) (by (exact hdArr_size _ _ _ _)) ?_)) | (refine wpl_at (.store 32 (.tmp 18) (.tmp 17)) rfl ?_; (refine L_storeM rfl rfl hst rfl (by rfl) (ev_tmp rfl) (by (exact Dig.one _)) el_api_Digest (by (rfl)) 0 rfl (by (simp; done)) ?_; clear hst; intro WS5 hst; simp only [List.set_cons_zero, List.set_cons_succ, hdArr_putTag _ _ _ _ _] at hst)))
     go_wp2_with (first | ((refine L_loadA (d := some 19) rfl rfl rfl (by rfl) Tryz.underlying41 rfl el_api_Head (by (exact hst.get 0 rfl)) (by (exact hdArr_size _ _ _ _)) ?_)) | (refine wpl_at (.store 41 (.tmp 2) (.tmp 19)) rfl ?_; (refine L_storeA rfl rfl hst rfl (by rfl) (ev_tmp rfl) (by (exact hdArr_all _ _ _ _)) el_api_Head (by (exact hdArr_size _ _ _ _)) 3 rfl (by (rfl)) ?_; clear hst; intro WS1 hst; simp only [List.set_cons_zero, List.set_cons_succ, hdArr_putTag _ _ _ _ _] at hst)))
     (refine bp_cell rfl rfl rfl (hst.get 3 rfl) Tryz.underlying41 rfl el_api_Head (hdArr_size _ _ _ _) ?_)
     exact ⟨rfl, hst.forget⟩
   ·go_wp2_with ((refine L_allocA (d := some 3) rfl rfl rfl el_api_Head ?_; (try clear hnew); intro g3 W3 hnew; replace hst := hst.trans hnew; simp only [List.cons_append, List.nil_append] at hst)); refine ⟨fun _ => (by (exact hnew.below)), ?_⟩
    refine pm_g rfl ?_; go_wp2_with ((go_at_call 43; (try clear hnew); refine (HEn.out _ (hst.old (by decide) HX.out)).mono ?_; rintro e We ⟨Oe, oe, rfl, hnew⟩; replace hst := hst.trans hnew; simp only [List.cons_append, List.nil_append] at hst)); refine ⟨by (exact hnew.below), ?_⟩
    refine pm_g rfl ?_; go_wp2_with ((go_at_call 42; (try clear hnew); refine (HMp.out _ _ _ (by (exact hst.sl 0 rfl))).mono ?_; rintro e Wr ⟨rfl, hnew⟩; replace hst := hst.keep hnew)); refine ⟨by (exact hnew.below), ?_⟩
    refine pm_g rfl ?_; go_wp2_with ((refine L_buildH3 (d := some 13) rfl rfl rfl (ev_tmp rfl) (ev_tmp rfl) (ev_tmp rfl) ?_)); refine ⟨by (exact Below.refl _ _), ?_⟩
    refine pm_e rfl ?_; go_wp2_with ((refine wpl_at (.store 41 (.tmp 3) (.tmp 13)) rfl ?_; (refine L_storeA rfl rfl hst rfl (by rfl) (ev_tmp rfl) (by (exact hdArr_all _ _ _ _)) el_api_Head (by (exact hdArr_size _ _ _ _)) 1 rfl (by (rfl)) ?_; clear hst; intro WS11 hst; simp only [List.set_cons_zero, List.set_cons_succ] at hst)))
    refine pm_nil ?_
    (try clear hnew)
    go_upto_region 3 with (go_big_may; first | (go_at_call 25; (try clear hnew); refine (HTg.out _ _ _ (hst.old (by decide) HK.out)).mono ?_; rintro e Wt ⟨rfl, hnew⟩; replace hst := hst.keep hnew) | (refine L_load1 (d := some 15) rfl rfl rfl (by rfl) Tryz.underlying22 rfl (by (exact cell_of (hst.get 4 rfl) qlArr_0)) ?_) | ((refine L_loadA (d := some 16) rfl rfl rfl (by rfl) Tryz.underlying41 rfl el_api_Head (by (exact hst.get 1 rfl)) (by (exact hdArr_size _ _ _ _)) ?_)) | (refine wpl_at (.store 32 (.tmp 18) (.tmp 17)) rfl ?_; (refine L_storeM rfl rfl hst rfl (by rfl) (ev_tmp rfl) (by (exact Dig.one _)) el_api_Digest (by (rfl)) 1 rfl (by (simp; done)) ?_; clear hst; intro WS5 hst; simp only [List.set_cons_zero, List.set_cons_succ, hdArr_putTag _ _ _ _ _] at hst)))
    go_wp2_with (first | ((refine L_loadA (d := some 19) rfl rfl rfl (by rfl) Tryz.underlying41 rfl el_api_Head (by (exact hst.get 1 rfl)) (by (exact hdArr_size _ _ _ _)) ?_)) | (refine wpl_at (.store 41 (.tmp 2) (.tmp 19)) rfl ?_; (refine L_storeA rfl rfl hst rfl (by rfl) (ev_tmp rfl) (by (exact hdArr_all _ _ _ _)) el_api_Head (by (exact hdArr_size _ _ _ _)) 3 rfl (by (rfl)) ?_; clear hst; intro WS1 hst; simp only [List.set_cons_zero, List.set_cons_succ, hdArr_putTag _ _ _ _ _] at hst)))
    (refine bp_cell rfl rfl rfl (hst.get 3 rfl) Tryz.underlying41 rfl el_api_Head (hdArr_size _ _ _ _) ?_)
    exact ⟨rfl, hst.forget⟩
  ·go_wp2_with ((refine L_allocA (d := some 3) rfl rfl rfl el_api_Head ?_; (try clear hnew); intro g3 W3 hnew; replace hst := hst.trans hnew; simp only [List.cons_append, List.nil_append] at hst)); refine ⟨fun _ => (by (exact hnew.below)), ?_⟩
   refine pm_g rfl ?_; go_wp2_with ((go_at_call 41; (try clear hnew); refine (HRt.out _ _ _ (by (exact hst.sl 1 rfl))).mono ?_; rintro e Wr ⟨rfl, hnew⟩; replace hst := hst.keep hnew)); refine ⟨by (exact hnew.below), ?_⟩
   refine pm_g rfl ?_; go_wp2_with ((go_at_call 43; (try clear hnew); refine (HEn.out _ (hst.old (by decide) HX.out)).mono ?_; rintro e We ⟨Oe, oe, rfl, hnew⟩; replace hst := hst.trans hnew; simp only [List.cons_append, List.nil_append] at hst)); refine ⟨by (exact hnew.below), ?_⟩
   refine pm_g rfl ?_; go_wp2_with ((go_at_call 42; (try clear hnew); refine (HMp.out _ _ _ (by (exact hst.sl 0 rfl))).mono ?_; rintro e Wr ⟨rfl, hnew⟩; replace hst := hst.keep hnew)); refine ⟨by (exact hnew.below), ?_⟩
   refine pm_g rfl ?_; go_wp2_with ((refine L_buildH3 (d := some 13) rfl rfl rfl (ev_tmp rfl) (ev_tmp rfl) (ev_tmp rfl) ?_)); refine ⟨by (exact Below.refl _ _), ?_⟩
   refine pm_e rfl ?_; go_wp2_with ((refine wpl_at (.store 41 (.tmp 3) (.tmp 13)) rfl ?_; (refine L_storeA rfl rfl hst rfl (by rfl) (ev_tmp rfl) (by (exact hdArr_all _ _ _ _)) el_api_Head (by (exact hdArr_size _ _ _ _)) 1 rfl (by (rfl)) ?_; clear hst; intro WS11 hst; simp only [List.set_cons_zero, List.set_cons_succ] at hst)))
   refine pm_nil ?_
   (try clear hnew)
   go_upto_region 3 with (go_big_may; first | (go_at_call 25; (try clear hnew); refine (HTg.out _ _ _ (hst.old (by decide) HK.out)).mono ?_; rintro e Wt ⟨rfl, hnew⟩; replace hst := hst.keep hnew) | (refine L_load1 (d := some 15) rfl rfl rfl (by rfl) Tryz.underlying22 rfl (by (exact cell_of (hst.get 4 rfl) qlArr_0)) ?_) | ((refine L_loadA (d := some 16) rfl rfl rfl (by rfl) Tryz.underlying41 rfl el_api_Head (by (exact hst.get 1 rfl)) (by (exact hdArr_size _ _ _ _)) ?_)) | (refine wpl_at (.store 32 (.tmp 18) (.tmp 17)) rfl ?_; (refine L_storeM rfl rfl hst rfl (by rfl) (ev_tmp rfl) (by (exact Dig.one _)) el_api_Digest (by (rfl)) 1 rfl (by (simp; done)) ?_; clear hst; intro WS5 hst; simp only [List.set_cons_zero, List.set_cons_succ, hdArr_putTag _ _ _ _ _] at hst)))
   go_wp2_with (first | ((refine L_loadA (d := some 19) rfl rfl rfl (by rfl) Tryz.underlying41 rfl el_api_Head (by (exact hst.get 1 rfl)) (by (exact hdArr_size _ _ _ _)) ?_)) | (refine wpl_at (.store 41 (.tmp 2) (.tmp 19)) rfl ?_; (refine L_storeA rfl rfl hst rfl (by rfl) (ev_tmp rfl) (by (exact hdArr_all _ _ _ _)) el_api_Head (by (exact hdArr_size _ _ _ _)) 3 rfl (by (rfl)) ?_; clear hst; intro WS1 hst; simp only [List.set_cons_zero, List.set_cons_succ, hdArr_putTag _ _ _ _ _] at hst)))
   (refine bp_cell rfl rfl rfl (hst.get 3 rfl) Tryz.underlying41 rfl el_api_Head (hdArr_size _ _ _ _) ?_)
   exact ⟨rfl, hst.forget⟩
 ·go_wp2_with ((refine L_allocA (d := some 3) rfl rfl rfl el_api_Head ?_; (try clear hnew); intro g3 W3 hnew; replace hst := hst.trans hnew; simp only [List.cons_append, List.nil_append] at hst)); refine ⟨fun _ => (by (exact hnew.below)), ?_⟩
  refine pm_g rfl ?_; go_wp2_with ((go_at_call 18; (try clear hnew); refine (HLv.out _ (hst.old (by decide) HX.out)).mono ?_; rintro e Wl ⟨Ol, ol, rfl, hnew⟩; replace hst := hst.trans hnew; simp only [List.cons_append, List.nil_append] at hst)); refine ⟨by (exact hnew.below), ?_⟩
  refine pm_g rfl ?_; go_wp2_with ((go_at_call 41; (try clear hnew); refine (HRt.out _ _ _ (by (exact hst.sl 0 rfl))).mono ?_; rintro e Wr ⟨rfl, hnew⟩; replace hst := hst.keep hnew)); refine ⟨by (exact hnew.below), ?_⟩
  refine pm_g rfl ?_; go_wp2_with ((go_at_call 43; (try clear hnew); refine (HEn.out _ (hst.old (by decide) HX.out)).mono ?_; rintro e We ⟨Oe, oe, rfl, hnew⟩; replace hst := hst.trans hnew; simp only [List.cons_append, List.nil_append] at hst)); refine ⟨by (exact hnew.below), ?_⟩
  refine pm_g rfl ?_; go_wp2_with ((go_at_call 42; (try clear hnew); refine (HMp.out _ _ _ (by (exact hst.sl 0 rfl))).mono ?_; rintro e Wr ⟨rfl, hnew⟩; replace hst := hst.keep hnew)); refine ⟨by (exact hnew.below), ?_⟩
  refine pm_g rfl ?_; go_wp2_with ((refine L_buildH3 (d := some 13) rfl rfl rfl (ev_tmp rfl) (ev_tmp rfl) (ev_tmp rfl) ?_)); refine ⟨by (exact Below.refl _ _), ?_⟩
  refine pm_e rfl ?_; go_wp2_with ((refine wpl_at (.store 41 (.tmp 3) (.tmp 13)) rfl ?_; (refine L_storeA rfl rfl hst rfl (by rfl) (ev_tmp rfl) (by (exact hdArr_all _ _ _ _)) el_api_Head (by (exact hdArr_size _ _ _ _)) 2 rfl (by (rfl)) ?_; clear hst; intro WS11 hst; simp only [List.set_cons_zero, List.set_cons_succ] at hst)))
  refine pm_nil ?_
  (try clear hnew)
  go_upto_region 3 with (go_big_may; first | (go_at_call 25; (try clear hnew); refine (HTg.out _ _ _ (hst.old (by decide) HK.out)).mono ?_; rintro e Wt ⟨rfl, hnew⟩; replace hst := hst.keep hnew) | (refine L_load1 (d := some 15) rfl rfl rfl (by rfl) Tryz.underlying22 rfl (by (exact cell_of (hst.get 4 rfl) qlArr_0)) ?_) | ((refine L_loadA (d := some 16) rfl rfl rfl (by rfl) Tryz.underlying41 rfl el_api_Head (by (exact hst.get 2 rfl)) (by (exact hdArr_size _ _ _ _)) ?_)) | (refine wpl_at (.store 32 (.tmp 18) (.tmp 17)) rfl ?_; (refine L_storeM rfl rfl hst rfl (by rfl) (ev_tmp rfl) (by (exact Dig.one _)) el_api_Digest (by (rfl)) 2 rfl (by (simp; done)) ?_; clear hst; intro WS5 hst; simp only [List.set_cons_zero, List.set_cons_succ, hdArr_putTag _ _ _ _ _] at hst)))
  go_wp2_with (first | ((refine L_loadA (d := some 19) rfl rfl rfl (by rfl) Tryz.underlying41 rfl el_api_Head (by (exact hst.get 2 rfl)) (by (exact hdArr_size _ _ _ _)) ?_)) | (refine wpl_at (.store 41 (.tmp 2) (.tmp 19)) rfl ?_; (refine L_storeA rfl rfl hst rfl (by rfl) (ev_tmp rfl) (by (exact hdArr_all _ _ _ _)) el_api_Head (by (exact hdArr_size _ _ _ _)) 3 rfl (by (rfl)) ?_; clear hst; intro WS1 hst; simp only [List.set_cons_zero, List.set_cons_succ, hdArr_putTag _ _ _ _ _] at hst)))
  (refine bp_cell rfl rfl rfl (hst.get 3 rfl) Tryz.underlying41 rfl el_api_Head (hdArr_size _ _ _ _) ?_)
  exact ⟨rfl, hst.forget⟩
set_option maxHeartbeats 8000000 in
set_option maxRecDepth 100000 in
theorem rfound_no (K : Option Addr) (m mc : Nat) (s : List UInt8) (A : Option Addr) (n c : Nat) (w : World) (hz : s.length ≤ 140737488355328) (hs : isNm s = false) :
  Calls Tryz.prog 14 #[.agg (qlArr K m mc A n c), .string (bsOf s)] w fun e w' => e = .returned (.tuple #[.agg (fdArr [] zeroD 0 0 none 0 0 none 0 0), .int .i64 1]) ∧ St w w' [] := by
 have hst := St.refl w
 have HN := Lib.hid (fun w' => by have := risname_any s w' (by omega); rw [hs] at this; exact this)
 clear hs hz
 go_enter Tryz.func14, Tryz.ntmps14
 go_upto_region 1 with (go_big_may; first | (refine L_boxA (d := some 2) rfl rfl rfl (ev_tmp rfl) ?_; (try clear hnew); intro g2 W2 hnew; replace hst := hst.trans hnew; simp only [List.cons_append, List.nil_append] at hst) | (refine L_allocA (d := some 4) rfl rfl rfl el_api_Found ?_; (try clear hnew); intro g4 W4 hnew; replace hst := hst.trans hnew; simp only [List.cons_append, List.nil_append] at hst))
 go_upto_region 2 with (go_big_may; (go_at_call 31; (try clear hnew); refine (HN.out _).mono ?_; rintro e Wk1 ⟨rfl, hnew⟩; replace hst := hst.keep hnew))
 go_wp2_with (first | (refine L_buildFz (d := some 11) rfl rfl rfl ?_) | (refine wpl_at (.store 46 (.tmp 4) (.tmp 11)) rfl ?_; (refine L_storeA rfl rfl hst rfl (by rfl) (ev_tmp rfl) (by (exact fdArr_all _ _ _ _ _ _ _ _ _ _)) el_api_Found (by (rfl)) 0 rfl (by (rfl)) ?_; clear hst; intro WS1 hst; simp only [List.set_cons_zero, List.set_cons_succ] at hst)))
 refine bp_cell_tmp rfl rfl rfl rfl (hst.get 0 rfl) Tryz.underlying46 rfl el_api_Found (fdArr_size _ _ _ _ _ _ _ _ _ _) ?_
 exact ⟨rfl, hst.forget⟩
def RFound (ns : List NoteN) (s : List UInt8) (w : World) : Ending → World → Prop := fun e w' =>
 ∃ A c B q, e = .returned (.tuple #[.agg (fdArr (findN ns s).note.name (findN ns s).note.key (findN ns s).note.turn (findN ns s).at_ A (findN ns s).path.length c B (findN ns s).mpath.length q), .int .i64 0]) ∧
  St w w' [.row A (findN ns s).path.length c 32 32 (digsL (findN ns s).path), .row B (findN ns s).mpath.length q 32 32 (digsL (findN ns s).mpath)]
set_option maxHeartbeats 16000000 in
set_option maxRecDepth 100000 in
theorem rfound_any (K : Option Addr) (m mc : Nat) (ns : List NoteN) (s : List UInt8) (A : Option Addr) (n c : Nat) (w : World) (hx : SlR w A n c 34 (notesL ns)) (hg : Logged ns) (hs : isNm s = true) :
  Calls Tryz.prog 14 #[.agg (qlArr K m mc A n c), .string (bsOf s)] w (RFound ns s w) := by
 have hst := St.refl w
 have hl : ns.length = n := by have := hx.1; rw [length_notesL] at this; omega
 have hn : n ≤ 256 := by have := hg.len; omega
 have hs30 := (isNm_len hs).2
 have HX := Lib.hid hx
 have HN := Lib.hid (fun w' => by have := risname_any s w' (by omega); rw [hs] at this; exact this)
 have HIx := Lib.hid (fun w' => rindex_any s w' (by omega))
 have HEn := Lib.hid (fun (w' : World) (h : SlR w' A n c 34 (notesL ns)) => rentries_any K m mc ns A n c w' h hg.ok hn)
 have HLs := Lib.hid (fun (w' : World) (h : SlR w' A n c 34 (notesL ns)) => rlast_any K m mc ns s A n c w' h (by omega))
 have HPt := Lib.hid (fun (w' : World) (O : Option Addr) (oc : Nat) (h : SlR w' O (entR ns n).length oc 33 (entL (entR ns n))) => by
  have := rmappath_any (entR ns n) O _ oc (idxN s) w' h (by have := entR_len ns n; omega) (entR_keys ns n) (idxN_lt s)
  rw [show leafAt (entR ns n) = lgF ns by rw [← hl]; exact leafAt_entR hg] at this
  exact this)
 have HML := Lib.hid (length_mPath (lgF ns) (idxN s) 32)
 cases hi : lastI ns s with
 | none =>
  have HF := Lib.hid (show findN ns s = ⟨zeroNt, 0, [], mPath (lgF ns) (idxN s) 32⟩ by unfold findN; rw [if_pos hs, hi])
  have hz : lastZ ns s = -1 := by unfold lastZ; rw [hi]
  rw [hz] at HLs
  unfold RFound
  rw [HF.out]
  simp only [HML.out, List.length_nil]
  generalize mPath (lgF ns) (idxN s) 32 = mp at *
  generalize idxN s = ix at *
  clear hx hg hs hs30 hi hz hl HF HML
  go_enter Tryz.func14, Tryz.ntmps14
  go_upto_region 1 with (go_big_may; first | (refine L_boxA (d := some 2) rfl rfl rfl (ev_tmp rfl) ?_; (try clear hnew); intro g2 W2 hnew; replace hst := hst.trans hnew; simp only [List.cons_append, List.nil_append] at hst) | (refine L_allocA (d := some 4) rfl rfl rfl el_api_Found ?_; (try clear hnew); intro g4 W4 hnew; replace hst := hst.trans hnew; simp only [List.cons_append, List.nil_append] at hst))
  go_upto_region 3 with (go_big_may; (go_at_call 31; (try clear hnew); refine (HN.out _).mono ?_; rintro e Wk2 ⟨rfl, hnew⟩; replace hst := hst.keep hnew))
  go_upto_region 4 with (go_big_may; first | (refine L_buildF3 (d := some 17) rfl rfl rfl (ev_tmp rfl) ?_) | (go_at_call 33; (try clear hnew); refine (HIx.out _).mono ?_; rintro e Wk3 ⟨rfl, hnew⟩; replace hst := hst.keep hnew) | (go_at_call 43; (try clear hnew); refine (HEn.out _ (hst.old (by decide) HX.out)).mono ?_; rintro e We ⟨Oe, oe, rfl, hnew⟩; replace hst := hst.trans hnew; simp only [List.cons_append, List.nil_append] at hst) | (go_at_call 44; (try clear hnew); refine (HPt.out _ _ _ (hst.sl 0 rfl)).mono ?_; rintro e Wp ⟨Op, op, rfl, hnew⟩; replace hst := hst.trans hnew; simp only [List.cons_append, List.nil_append] at hst) | ((refine L_loadA (d := some 12) rfl rfl rfl (by rfl) Tryz.underlying27 rfl el_oathbookref3_Log (by (exact hst.get 1 rfl)) (by (exact qlArr_size _ _ _ _ _ _)) ?_)) | (refine L_allocA (d := some 6) rfl rfl rfl el_api_Found ?_; (try clear hnew); intro g6 W6 hnew; replace hst := hst.trans hnew; simp only [List.cons_append, List.nil_append] at hst) | (refine wpl_at (.store 46 (.tmp 6) (.tmp 17)) rfl ?_; (refine L_storeA rfl rfl hst rfl (by rfl) (ev_tmp rfl) (by (exact fdArr_all _ _ _ _ _ _ _ _ _ _)) el_api_Found (by (rfl)) 0 rfl (by (rfl)) ?_; clear hst; intro WS7 hst; simp only [List.set_cons_zero, List.set_cons_succ] at hst)))
  (try clear hnew)
  go_upto_region 5 with (go_big_may; first | (go_at_call 32; (try clear hnew); refine (HLs.out _ (hst.old (by decide) HX.out)).mono ?_; rintro e Wk4 ⟨rfl, hnew⟩; replace hst := hst.keep hnew) | ((refine L_loadA (d := some 18) rfl rfl rfl (by rfl) Tryz.underlying27 rfl el_oathbookref3_Log (by (exact hst.get 4 rfl)) (by (exact qlArr_size _ _ _ _ _ _)) ?_)))
  go_upto_region 9 with (go_big_may; fail)
  go_wp2_with (first | ((refine L_loadA (d := some 36) rfl rfl rfl (by rfl) Tryz.underlying46 rfl el_api_Found (by (exact hst.get 0 rfl)) (by (exact fdArr_size _ _ _ _ _ _ _ _ _ _)) ?_)) | (refine wpl_at (.store 46 (.tmp 4) (.tmp 36)) rfl ?_; (refine L_storeA rfl rfl hst rfl (by rfl) (ev_tmp rfl) (by (exact fdArr_all _ _ _ _ _ _ _ _ _ _)) el_api_Found (by (rfl)) 3 rfl (by (rfl)) ?_; clear hst; intro WS1 hst; simp only [List.set_cons_zero, List.set_cons_succ] at hst)))
  refine bp_cell_tmp rfl rfl rfl rfl (hst.get 3 rfl) Tryz.underlying46 rfl el_api_Found (fdArr_size _ _ _ _ _ _ _ _ _ _) ?_
  exact ⟨none, 0, Op, op, rfl, (hst.nilRow 32 32).pick [0, 2] (by decide)⟩
 | some i =>
  obtain ⟨nt, h1, h2⟩ := lastI_some hi
  have hin := lastI_lt hi
  have hil : i < n := by omega
  have hpl : (pathN (lvN ns) i).length = longN i n := by rw [← hl]; exact length_pathN _ _ _ (length_lvN ns)
  have HLv := Lib.hid (fun (w' : World) (h : SlR w' A n c 34 (notesL ns)) => rleaves_any K m mc ns A n c w' h hg.ok hn)
  have HTP := Lib.hid (fun (w' : World) (O : Option Addr) (oc : Nat) (h : SlR w' O n oc 32 (digsL (lvN ns))) => by
   have := rpath_any n (lvN ns) O oc i w' h hil hn
   rw [← hpl] at this
   exact this)
  have HF := Lib.hid (show findN ns s = ⟨nt, (i : Int), pathN (lvN ns) i, mPath (lgF ns) (idxN s) 32⟩ by unfold findN; rw [if_pos hs, hi]; simp only [h1, Option.getD_some])
  have HC := Lib.hid (fun (W : World) (g off : Nat) h => by
   have := note_cells (W := W) (g := g) (off := off) (i := i) (ns := ns) h hin
   rw [show ns[i] = nt from (List.getElem?_eq_some_iff.1 h1).2] at this
   exact this)
  have hz : lastZ ns s = (i : Int) := by unfold lastZ; rw [hi]
  rw [hz] at HLs
  unfold RFound
  rw [HF.out]
  simp only [HML.out]
  generalize mPath (lgF ns) (idxN s) 32 = mp at *
  generalize idxN s = ix at *
  generalize pathN (lvN ns) i = tp at *
  obtain ⟨a1, a2, a3⟩ := nt
  unfold NoteN.arr at HC
  simp only at *
  clear hx hg hs hs30 hi hz hl HF HML h1 h2 hin hpl
  go_enter Tryz.func14, Tryz.ntmps14
  go_upto_region 1 with (go_big_may; first | (refine L_boxA (d := some 2) rfl rfl rfl (ev_tmp rfl) ?_; (try clear hnew); intro g2 W2 hnew; replace hst := hst.trans hnew; simp only [List.cons_append, List.nil_append] at hst) | (refine L_allocA (d := some 4) rfl rfl rfl el_api_Found ?_; (try clear hnew); intro g4 W4 hnew; replace hst := hst.trans hnew; simp only [List.cons_append, List.nil_append] at hst))
  go_upto_region 3 with (go_big_may; (go_at_call 31; (try clear hnew); refine (HN.out _).mono ?_; rintro e Wk5 ⟨rfl, hnew⟩; replace hst := hst.keep hnew))
  go_upto_region 4 with (go_big_may; first | (refine L_buildF3 (d := some 17) rfl rfl rfl (ev_tmp rfl) ?_) | (go_at_call 33; (try clear hnew); refine (HIx.out _).mono ?_; rintro e Wk6 ⟨rfl, hnew⟩; replace hst := hst.keep hnew) | (go_at_call 43; (try clear hnew); refine (HEn.out _ (hst.old (by decide) HX.out)).mono ?_; rintro e We ⟨Oe, oe, rfl, hnew⟩; replace hst := hst.trans hnew; simp only [List.cons_append, List.nil_append] at hst) | (go_at_call 44; (try clear hnew); refine (HPt.out _ _ _ (hst.sl 0 rfl)).mono ?_; rintro e Wp ⟨Op, op, rfl, hnew⟩; replace hst := hst.trans hnew; simp only [List.cons_append, List.nil_append] at hst) | ((refine L_loadA (d := some 12) rfl rfl rfl (by rfl) Tryz.underlying27 rfl el_oathbookref3_Log (by (exact hst.get 1 rfl)) (by (exact qlArr_size _ _ _ _ _ _)) ?_)) | (refine L_allocA (d := some 6) rfl rfl rfl el_api_Found ?_; (try clear hnew); intro g6 W6 hnew; replace hst := hst.trans hnew; simp only [List.cons_append, List.nil_append] at hst) | (refine wpl_at (.store 46 (.tmp 6) (.tmp 17)) rfl ?_; (refine L_storeA rfl rfl hst rfl (by rfl) (ev_tmp rfl) (by (exact fdArr_all _ _ _ _ _ _ _ _ _ _)) el_api_Found (by (rfl)) 0 rfl (by (rfl)) ?_; clear hst; intro WS7 hst; simp only [List.set_cons_zero, List.set_cons_succ] at hst)))
  (try clear hnew)
  go_upto_region 5 with (go_big_may; first | (go_at_call 32; (try clear hnew); refine (HLs.out _ (hst.old (by decide) HX.out)).mono ?_; rintro e Wk7 ⟨rfl, hnew⟩; replace hst := hst.keep hnew) | ((refine L_loadA (d := some 18) rfl rfl rfl (by rfl) Tryz.underlying27 rfl el_oathbookref3_Log (by (exact hst.get 4 rfl)) (by (exact qlArr_size _ _ _ _ _ _)) ?_)))
  go_upto_region 6 with (go_big_may; fail)
  go_upto_region 7 with (go_big_may; first | (refine L_loadM (d := some 27) rfl rfl rfl (by rfl) Tryz.underlying34 rfl el_api_Note (HC.out _ _ _ hr26) (ntArr_size _ _ _) ?_) | (refine L_load1 (d := some 24) rfl rfl rfl (by rfl) Tryz.underlying23 rfl (by (exact cell_of (hst.get 4 rfl) qlArr_1)) ?_) | (refine L_idxS (d := some 26) rfl rfl rfl (by rfl) (by rfl) Tryz.underlying23 el_api_Note (by (exact hst.old (by decide) HX.out)) (by omega) (by omega) ?_; intro o26 p26 ha26 hr26; ((subst ha26))) | (refine wpl_at (.store 34 (.tmp 28) (.tmp 27)) rfl ?_; (refine L_storeM rfl rfl hst rfl (by rfl) (ev_tmp rfl) (by (exact ntArr_all _ _ _)) el_api_Note (by (exact ntArr_size _ _ _)) 0 rfl (by (exact of_decide_eq_true rfl)) ?_; clear hst; intro WS6 hst; simp only [List.set_cons_zero, List.set_cons_succ, fdArr_putNote _ _ _, fdArr_put34 _, fdArr_put35 _ _ _] at hst)))
  go_upto_region 8 with (go_big_may; (refine wpl_at (.store 3 (.tmp 30) (.tmp 29)) rfl ?_; (refine L_store1 rfl rfl hst rfl (by rfl) (ev_tmp rfl) rfl el_int 0 rfl (by (rw [fdArr_size _ _ _ _ _ _ _ _ _ _]; decide)) ?_; clear hst; intro WS2 hst; simp only [List.set_cons_zero, List.set_cons_succ, fdArr_putNote _ _ _, fdArr_put34 _, fdArr_put35 _ _ _] at hst)))
  go_upto_region 9 with (go_big_may; first | (go_at_call 18; (try clear hnew); refine (HLv.out _ (hst.old (by decide) HX.out)).mono ?_; rintro e Wl ⟨Ol, ol, rfl, hnew⟩; replace hst := hst.trans hnew; simp only [List.cons_append, List.nil_append] at hst) | (go_at_call 45; (try clear hnew); refine (HTP.out _ _ _ (hst.sl 0 rfl)).mono ?_; rintro e Wq ⟨Oq, oq, rfl, hnew⟩; replace hst := hst.trans hnew; simp only [List.cons_append, List.nil_append] at hst) | ((refine L_loadA (d := some 31) rfl rfl rfl (by rfl) Tryz.underlying27 rfl el_oathbookref3_Log (by (exact hst.get 4 rfl)) (by (exact qlArr_size _ _ _ _ _ _)) ?_)) | (refine wpl_at (.store 44 (.tmp 35) (.tmp 34)) rfl ?_; (refine L_store1 rfl rfl hst rfl (by rfl) (ev_tmp rfl) rfl el_S_api_Digest 2 rfl (by (rw [fdArr_size _ _ _ _ _ _ _ _ _ _]; decide)) ?_; clear hst; intro WS5 hst; simp only [List.set_cons_zero, List.set_cons_succ, fdArr_putNote _ _ _, fdArr_put34 _, fdArr_put35 _ _ _] at hst)))
  (try clear hnew)
  go_wp2_with (first | ((refine L_loadA (d := some 36) rfl rfl rfl (by rfl) Tryz.underlying46 rfl el_api_Found (by (exact hst.get 2 rfl)) (by (exact fdArr_size _ _ _ _ _ _ _ _ _ _)) ?_)) | (refine wpl_at (.store 46 (.tmp 4) (.tmp 36)) rfl ?_; (refine L_storeA rfl rfl hst rfl (by rfl) (ev_tmp rfl) (by (exact fdArr_all _ _ _ _ _ _ _ _ _ _)) el_api_Found (by (exact fdArr_size _ _ _ _ _ _ _ _ _ _)) 5 rfl (by (rfl)) ?_; clear hst; intro WS1 hst; simp only [List.set_cons_zero, List.set_cons_succ] at hst)))
  refine bp_cell_tmp rfl rfl rfl rfl (hst.get 5 rfl) Tryz.underlying46 rfl el_api_Found (fdArr_size _ _ _ _ _ _ _ _ _ _) ?_
  exact ⟨Oq, oq, Op, op, rfl, hst.pick [0, 3] (by decide)⟩
end Go.Proofs.YtaebeemnipafbaaGreatDoor

set_option maxRecDepth 20000
set_option linter.unusedSimpArgs false
set_option linter.unusedVariables false
namespace Go.Proofs.YtaebeemnipafbaaGreatDoor
open Go.RowKit
theorem findN_no {ns : List NoteN} {s : List UInt8} (h : isNm s = false) : findN ns s = zeroFd := by unfold findN; rw [if_neg (by rw [h]; decide)]
theorem findE_no {s : List UInt8} (h : isNm s = false) : findE s = 1 := by unfold findE; rw [if_neg (by rw [h]; decide)]
theorem findE_yes {s : List UInt8} (h : isNm s = true) : findE s = 0 := by unfold findE; rw [if_pos h]
theorem rfoundU_any (K : Option Addr) (m mc : Nat) (ns : List NoteN) (s : List UInt8) (A : Option Addr) (n c : Nat) (w : World) (hx : SlR w A n c 34 (notesL ns)) (hg : Logged ns) (hz : s.length ≤ 140737488355328) :
  Calls Tryz.prog 14 #[.agg (qlArr K m mc A n c), .string (bsOf s)] w fun e w' => ∃ A c B q, e = .returned (.tuple #[.agg (fdArr (findN ns s).note.name (findN ns s).note.key (findN ns s).note.turn (findN ns s).at_ A (findN ns s).path.length c B (findN ns s).mpath.length q), .int .i64 (findE s : Int)]) ∧
   St w w' [.row A (findN ns s).path.length c 32 32 (digsL (findN ns s).path), .row B (findN ns s).mpath.length q 32 32 (digsL (findN ns s).mpath)] := by
 by_cases hs : isNm s = true
 ·rw [findE_yes hs]
  exact rfound_any K m mc ns s A n c w hx hg hs
 ·have hs' : isNm s = false := by simpa using hs
  rw [findN_no hs', findE_no hs']
  refine (rfound_no K m mc s A n c w hz hs').mono ?_
  rintro e w' ⟨rfl, h⟩
  exact ⟨none, 0, none, 0, rfl, (h.nilRow 32 32).nilRow 32 32⟩
theorem findV_any (key : List UInt8) (ns : List NoteN) (s : List UInt8) (p : LgP) (w0 w : World) (L : List Res) (hT : Tb w0) (hst : St w0 w (lgL p key ns ++ L)) (hm : MapsOf ns p.nm p.am) (hl : Logged ns) :
  Calls Tryz.prog 15 #[.pointer (some ⟨p.g, 0, none⟩), .string (bsOf s)] w fun e w' => ∃ A c B q, e = .returned (.tuple #[.agg (fdArr (findN ns s).note.name (findN ns s).note.key (findN ns s).note.turn (findN ns s).at_ A (findN ns s).path.length c B (findN ns s).mpath.length q), errO (findE s)]) ∧
   St w0 w' (.row A (findN ns s).path.length c 32 32 (digsL (findN ns s).path) :: .row B (findN ns s).mpath.length q 32 32 (digsL (findN ns s).mpath) :: (lgL p key ns ++ L)) := by
 by_cases hs : isNm s = true
 ·rw [findE_yes hs]
  exact findU_any key ns s p w0 w L hT hst hm hl hs
 ·have hs' : isNm s = false := by simpa using hs
  rw [findN_no hs', findE_no hs']
  refine (find_no key ns s p w0 w L hst hs').mono ?_
  rintro e w' ⟨rfl, h⟩
  exact ⟨none, 0, none, 0, rfl, (h.nilRow 32 32).nilRow 32 32⟩
end Go.Proofs.YtaebeemnipafbaaGreatDoor

set_option maxRecDepth 20000
set_option linter.unusedSimpArgs false
set_option linter.unusedVariables false
namespace Go.Proofs.YtaebeemnipafbaaGreatDoor
open Go.RowKit
attribute [local simp] ntArr_size
theorem el_S_api_Note : ElemIs Tryz.prog 23 (.slice none 0 0) 1 24 := by unfold ElemIs; kernel_rfl
theorem nt_ones (ns : List NoteN) : ∀ u ∈ notesL ns, u.oneCell' = true := by
 intro u hu
 obtain ⟨n, -, hn⟩ := List.mem_flatMap.1 hu
 exact ntArr_one _ _ _ u hn
section
variable {P : Program} {a : Act} {W : World}
theorem bp_cellQ2 {fn : Func} {R : Ending → World → Prop} {p q q' : Tmp} {ty : TypeId} (hr : fn.results = #[.cell p ty, .tmp q, .tmp q']) (hd : a.defers = []) {g : Nat} (hp : a.tmps.toList[p]? = some (.pointer (some ⟨g, 0, none⟩))) {v v' : Value} (hq : a.tmps.toList[q]? = some v) (hq2 : a.tmps.toList[q']? = some v') {t : TypeId} {cs : Array Value} {fr : Nat × Nat} (hg : W.heap[g]? = some (.cells cs t fr))
  {td : TypeDesc} (hu : P.underlying ty = some td) (hrow : td.isRow = true) {z : Value} {s b : Nat} (he : ElemIs P ty z s b) (hs : cs.size = s) (hR : R (.returned (.tuple #[.agg cs, v, v'])) W) : bodyPost P fn R .ret a W := by
 have hp' : a.tmps[p]?.getD undef = .pointer (some ⟨g, 0, none⟩) := by
  have : a.tmps[p]? = some (.pointer (some ⟨g, 0, none⟩)) := by simpa using hp
  simp [this]
 have hq' : a.tmps[q]?.getD undef = v := by
  have : a.tmps[q]? = some v := by simpa using hq
  simp [this]
 have hq3 : a.tmps[q']?.getD undef = v' := by
  have : a.tmps[q']? = some v' := by simpa using hq2
  simp [this]
 refine bodyPost_ret ?_ hd hR
 simp [results, hr, hp', hq', hq3, asAddr, run_loadVar_row W g t ty cs fr td hg hu (by cases td <;> simp_all [TypeDesc.isRow]) (by rw [he.size, hs])]
end
theorem addE_1 {ns : List NoteN} {s : List UInt8} (h : isNm s = false) : addE ns s = 1 := by unfold addE; rw [if_neg (by rw [h]; decide)]
theorem addE_4 {ns : List NoteN} {s : List UInt8} (h : isNm s = true) (hf : 256 ≤ ns.length ∨ lastI ns s = none ∧ 64 ≤ namesC ns) : addE ns s = 4 := by unfold addE; rw [if_pos h, if_pos hf]
theorem addE_7 {ns : List NoteN} {s : List UInt8} (h : isNm s = true) (hf : ¬ (256 ≤ ns.length ∨ lastI ns s = none ∧ 64 ≤ namesC ns)) (ht : takenN ns s = true) : addE ns s = 7 := by unfold addE; rw [if_pos h, if_neg hf, if_pos ht]
theorem addE_0 {ns : List NoteN} {s : List UInt8} (h : isNm s = true) (hf : ¬ (256 ≤ ns.length ∨ lastI ns s = none ∧ 64 ≤ namesC ns)) (ht : takenN ns s = false) : addE ns s = 0 := by unfold addE; rw [if_pos h, if_neg hf, if_neg (by rw [ht]; decide)]
theorem takenN_s {ns : List NoteN} {i : Nat} (h : i < ns.length) (s : List UInt8) : takenN (ns.take (i + 1)) s = (takenN (ns.take i) s || decide (ns[i].name ≠ s ∧ idxN ns[i].name = idxN s)) := by
 unfold takenN
 rw [List.take_succ_eq_append_getElem h, List.any_append]
 simp
set_option maxHeartbeats 200000000 in
set_option maxRecDepth 100000 in
theorem radded_gen (K : Option Addr) (m mc : Nat) (ns : List NoteN) (s : List UInt8) (k : Dig) (A : Option Addr) (n c : Nat) (w : World) (hx : SlR w A n c 34 (notesL ns)) (hg : Logged ns) (hs0 : s.length ≤ 9223372036854775807) (Q : Ending → World → Prop)
  (hok : addE ns s = 0 → ∀ (w' : World) (O : Option Addr) (oc : Nat), St w w' [.row O (n + 1) oc 34 34 (notesL (ns ++ [newN ns s k]))] → Q (.returned (.tuple #[.agg (qlArr K m mc O (n + 1) oc), .int .i64 (n : Int), .int .i64 0])) w')
  (hno : ∀ r : Nat, addE ns s = r → r ≠ 0 → ∀ w' : World, St w w' [] → Q (.returned (.tuple #[.agg (qlArr K m mc A n c), .int .i64 0, .int .i64 (r : Int)])) w') :
  Calls Tryz.prog 9 #[.agg (qlArr K m mc A n c), .string (bsOf s), k.v] w Q := by
 have hst := St.refl w
 have hl : ns.length = n := by have := hx.1; rw [length_notesL] at this; omega
 have hn : n ≤ 256 := by have := hg.len; omega
 have HL := Lib.hid hl
 have HX := Lib.hid hx
 have HOk := Lib.hid hok
 have HNo := Lib.hid hno
 have HIs0 := Lib.hid (fun (h : isNm s = true) w' => rindex_any s w' (by have := (isNm_len h).2; omega))
 have HNm := Lib.hid (fun w' => risname_any s w' (by omega))
 have HLs := Lib.hid (fun (w' : World) (u : List UInt8) h => rlast_any K m mc ns u A n c w' h (by omega))
 have htl := hg.turn_le s
 have HNN := Lib.hid (show newN ns s k = ⟨s, k, turnN ns s⟩ from rfl)
 have HU := Lib.hid (fun x (h : x ∈ ns) => (isNm_len (hg.nm x h)).2)
 clear hl hx hg hok hno
 go_enter Tryz.func9, Tryz.ntmps9
 by_cases hnm : isNm s = true
 case neg =>
  have hnm' : isNm s = false := by simpa using hnm
  have HR := Lib.hid (HNo.out 1 (addE_1 hnm') (by decide))
  rw [hnm'] at HNm
  clear hnm hnm' HOk HNo HLs HIs0 HU HNN htl hs0
  go_upto_region 1 with (go_big_may; first | (refine L_boxA (d := some 3) rfl rfl rfl (ev_tmp rfl) ?_; (try clear hnew); intro g3 W3 hnew; replace hst := hst.trans hnew; simp only [List.cons_append, List.nil_append] at hst) | (refine L_boxA (d := some 5) rfl rfl rfl (ev_tmp rfl) ?_; (try clear hnew); intro g5 W5 hnew; replace hst := hst.trans hnew; simp only [List.cons_append, List.nil_append] at hst) | (refine L_allocA (d := some 6) rfl rfl rfl el_oathbookref3_Log ?_; (try clear hnew); intro g6 W6 hnew; replace hst := hst.trans hnew; simp only [List.cons_append, List.nil_append] at hst))
  go_upto_region 2 with (go_big_may; (go_at_call 31; refine (HNm.out _).mono ?_; rintro e Wn ⟨rfl, hnew⟩; replace hst := hst.keep hnew; clear hnew))
  go_wp2_with (first | ((refine L_loadA (d := some 19) rfl rfl rfl (by rfl) Tryz.underlying27 rfl el_oathbookref3_Log (by (exact hst.get 2 rfl)) (by (exact qlArr_size _ _ _ _ _ _)) ?_)) | (refine wpl_at (.store 27 (.tmp 6) (.tmp 19)) rfl ?_; (refine L_storeA rfl rfl hst rfl (by rfl) (ev_tmp rfl) (by (exact qlArr_all _ _ _ _ _ _)) el_oathbookref3_Log (by (rfl)) 0 rfl (by (rfl)) ?_; clear hst; intro WS1 hst; simp only [List.set_cons_zero, List.set_cons_succ] at hst)))
  refine bp_cellQ2 rfl rfl rfl rfl rfl (hst.get 0 rfl) Tryz.underlying27 rfl el_oathbookref3_Log (qlArr_size _ _ _ _ _ _) ?_
  exact HR.out _ hst.forget
 have HNm1 := Lib.hid hnm
 have HIs := Lib.hid (HIs0.out hnm)
 clear HIs0
 rw [hnm] at HNm
 clear hnm
 go_upto_region 1 with (go_big_may; first | (refine L_boxA (d := some 3) rfl rfl rfl (ev_tmp rfl) ?_; (try clear hnew); intro g3 W3 hnew; replace hst := hst.trans hnew; simp only [List.cons_append, List.nil_append] at hst) | (refine L_boxA (d := some 5) rfl rfl rfl (ev_tmp rfl) ?_; (try clear hnew); intro g5 W5 hnew; replace hst := hst.trans hnew; simp only [List.cons_append, List.nil_append] at hst) | (refine L_allocA (d := some 6) rfl rfl rfl el_oathbookref3_Log ?_; (try clear hnew); intro g6 W6 hnew; replace hst := hst.trans hnew; simp only [List.cons_append, List.nil_append] at hst))
 go_upto_region 3 with (go_big_may; (go_at_call 31; refine (HNm.out _).mono ?_; rintro e Wn ⟨rfl, hnew⟩; replace hst := hst.keep hnew; clear hnew))
 go_upto_region 4 with (go_big_may; first | (go_at_call 32; refine (HLs.out _ s (hst.old (by decide) HX.out)).mono ?_; rintro e Wn ⟨rfl, hnew⟩; replace hst := hst.keep hnew; clear hnew) | ((refine L_loadA (d := some 20) rfl rfl rfl (by rfl) Tryz.underlying27 rfl el_oathbookref3_Log (by (exact hst.get 2 rfl)) (by (exact qlArr_size _ _ _ _ _ _)) ?_)))
 go_upto_region 5 with (go_big_may; fail)
 go_upto_region 6 with (go_big_may; fail)
 go_wp2_with (fail)
 generalize hz : lastZ ns s = z
 have HZ := Lib.hid hz
 clear hz
 go_loopg [10, 11, 12] n (fun gk s10 s11 s12 wr => ∃ (i : Nat) (t : Bool), Hid (gk + i = n) ∧ Hid (t = takenN (ns.take i) s) ∧ s10 = .int .i64 (cN ns i : Int) ∧ s11 = .bool t ∧ s12 = .int .i64 (i : Int) ∧ St w wr [.blk g6 27 (qlArr none 0 0 none 0 0), .blk g5 32 k.arr, .blk g3 27 (qlArr K m mc A n c)])
 case atStart => exact ⟨0, false, Lib.hid rfl, Lib.hid rfl, rfl, rfl, rfl, hst⟩
 case round =>
  clear hst
  obtain ⟨i, t, HI, HTk, rfl, rfl, rfl, hst⟩ := hrel
  have hi := HI.out
  by_cases hin : i < n
  ·obtain ⟨g, rfl⟩ : ∃ g, gk = g + 1 := ⟨gk - 1, by omega⟩
   have hil : i < ns.length := by rw [HL.out]; exact hin
   have HC := Lib.hid (fun (W : World) (g off : Nat) h => note_name (W := W) (g := g) (off := off) (i := i) (ns := ns) h hil)
   have hcs := cN_s hil
   have hcl := cN_le ns i
   have hul : ns[i].name.length ≤ 67 := by have := HU.out ns[i] (List.getElem_mem hil); omega
   have hts := takenN_s hil s
   rw [← HTk.out] at hts
   generalize ns[i].name = u at HC hcs hul hts
   have HLu := Lib.hid (fun (w' : World) h => HLs.out w' u h)
   have HIu := Lib.hid (fun w' => rindex_any u w' (by omega))
   generalize lastZ ns u = zu at hcs HLu
   generalize idxN u = iu at hts HIu
   generalize hgc : cN ns (i + 1) = c1 at hcs
   generalize cN ns i = c0 at hcs hcl
   generalize hgi : idxN s = is at hts
   have HIs' := Lib.hid (fun w' => by have := HIs.out w'; rw [hgi] at this; exact this)
   have HTS := Lib.hid hts
   have HCS := Lib.hid hcs
   have HGC := Lib.hid hgc
   clear hil hul hgi hts hcs hgc HTk
   go_upto_region 9 with (go_big_may; (refine L_load1 (d := some 25) rfl rfl rfl (by rfl) Tryz.underlying23 rfl (by (exact cell_of (hst.get 2 rfl) qlArr_1)) ?_))
   go_upto_region 10 with (go_big_may; first | (refine L_load1 (d := some 35) rfl rfl rfl (by rfl) Tryz.underlying9 rfl (HC.out _ _ _ hr33) ?_) | (refine L_load1 (d := some 31) rfl rfl rfl (by rfl) Tryz.underlying23 rfl (by (exact cell_of (hst.get 2 rfl) qlArr_1)) ?_) | (refine L_idxS (d := some 33) rfl rfl rfl (by rfl) (by rfl) Tryz.underlying23 el_api_Note (by (exact hst.old (by decide) HX.out)) (by omega) (by omega) ?_; intro o33 p33 ha33 hr33; ((subst ha33))))
   go_upto_if 40 with (go_big_may; first | (go_at_call 32; refine (HLu.out _ (hst.old (by decide) HX.out)).mono ?_; rintro e Wn ⟨rfl, hnew⟩; replace hst := hst.keep hnew; clear hnew) | ((refine L_loadA (d := some 36) rfl rfl rfl (by rfl) Tryz.underlying27 rfl el_oathbookref3_Log (by (exact hst.get 2 rfl)) (by (rfl)) ?_)))
   go_cut [10] (fun s10 wx => s10 = .int .i64 (c1 : Int) ∧ St w wx [.blk g6 27 (qlArr none 0 0 none 0 0), .blk g5 32 k.arr, .blk g3 27 (qlArr K m mc (some ⟨o33, p33, none⟩) n c)])
   case first =>
    by_cases hzu : zu = (i : Int)
    ·have hx1 : (zu == (i : Int)) = true := by simp [hzu]
     have hcs := HCS.out
     rw [if_pos hzu] at hcs
     clear hzu
     go_wp2_with (go_big_may; fail)
     go_meet
     case rel => exact ⟨by rw [hcs]; go_num, hst⟩
    ·have hx1 : (zu == (i : Int)) = false := by simp [hzu]
     have hcs := HCS.out
     rw [if_neg hzu] at hcs
     clear hzu
     go_wp2_with fail
     go_meet
     case rel => exact ⟨by rw [hcs], hst⟩
   case rest =>
    obtain ⟨rfl, hst⟩ := hcut
    clear HCS HLu
    by_cases hus : u = s
    ·have HS := Lib.hid (show (!decide (u = s)) = false by simp [hus])
     have HT2 := Lib.hid (show t = takenN (ns.take (i + 1)) s by rw [HTS.out]; simp [hus])
     clear hus
     go_upto_region 8 with (first | (with_reducible refine L_pass (t := 47) rfl (by kernel_rfl) ?_) | (with_reducible refine L_pass (t := 48) rfl (by kernel_rfl) ?_) | (with_reducible refine L_pass (t := 49) rfl (by kernel_rfl) ?_) | (with_reducible refine L_pass (t := 50) rfl (by kernel_rfl) ?_) | (with_reducible refine L_pass (t := 51) rfl (by kernel_rfl) ?_) | (go_big_may; (refine L_neStr (d := some 45) rfl rfl rfl eqG_str Tryz.underlying9 (ev_tmp rfl) (ev_tmp rfl) ?_; (try rw [HS.out]))))
     go_wp2_with (fail)
     go_roundg g
     case measure => omega
     case rel => exact ⟨i + 1, t, Lib.hid (by have := HI.out; omega), HT2, by rw [HGC.out], rfl, by go_num, hst⟩
    ·have HS := Lib.hid (show (!decide (u = s)) = true by simp [hus])
     by_cases hii : iu = is
     ·have hx2 : ((iu : Int) == (is : Int)) = true := by simp [hii]
      have HT2 := Lib.hid (show true = takenN (ns.take (i + 1)) s by rw [HTS.out]; simp [hus, hii])
      clear hus hii
      go_upto_region 13 with (go_big_may; first | (go_at_call_of 33 (Value.string (bsOf u)); refine (HIu.out _).mono ?_; rintro e Wn ⟨rfl, hnew⟩; replace hst := hst.keep hnew; clear hnew) | (go_at_call_of 33 (Value.string (bsOf s)); refine (HIs'.out _).mono ?_; rintro e Wn ⟨rfl, hnew⟩; replace hst := hst.keep hnew; clear hnew) | (refine L_neStr (d := some 45) rfl rfl rfl eqG_str Tryz.underlying9 (ev_tmp rfl) (ev_tmp rfl) ?_; (try rw [HS.out])))
      go_upto_region 8 with (go_big_may; fail)
      go_wp2_with (fail)
      go_roundg g
      case measure => omega
      case rel => exact ⟨i + 1, true, Lib.hid (by have := HI.out; omega), HT2, by rw [HGC.out], rfl, by go_num, hst⟩
     ·have hx2 : ((iu : Int) == (is : Int)) = false := beq_eq_false_iff_ne.2 (fun e => hii (by omega))
      have HT2 := Lib.hid (show t = takenN (ns.take (i + 1)) s by rw [HTS.out]; simp [hii])
      clear hus hii
      go_upto_region 8 with (go_big_may; first | (go_at_call_of 33 (Value.string (bsOf u)); refine (HIu.out _).mono ?_; rintro e Wn ⟨rfl, hnew⟩; replace hst := hst.keep hnew; clear hnew) | (go_at_call_of 33 (Value.string (bsOf s)); refine (HIs'.out _).mono ?_; rintro e Wn ⟨rfl, hnew⟩; replace hst := hst.keep hnew; clear hnew) | (refine L_neStr (d := some 45) rfl rfl rfl eqG_str Tryz.underlying9 (ev_tmp rfl) (ev_tmp rfl) ?_; (try rw [HS.out])))
      go_wp2_with (fail)
      go_roundg g
      case measure => omega
      case rel => exact ⟨i + 1, t, Lib.hid (by have := HI.out; omega), HT2, by rw [HGC.out], rfl, by go_num, hst⟩
  ·obtain rfl : gk = 0 := by omega
   obtain rfl : i = n := by omega
   have HTA := Lib.hid (show t = takenN ns s by have := HTk.out; rwa [← HL.out, List.take_length] at this)
   have HCA := Lib.hid (show cN ns i = namesC ns by rw [← HL.out]; exact cN_all ns)
   clear hi hin HI HTk HLs HIs HNm HU
   go_upto_region 14 with (go_big_may; (refine L_load1 (d := some 25) rfl rfl rfl (by rfl) Tryz.underlying23 rfl (by (exact cell_of (hst.get 2 rfl) qlArr_1)) ?_))
   go_simp
   go_cut [64] (fun s64 wx => ∃ fB : Bool, Hid (fB = decide (256 ≤ ns.length ∨ lastI ns s = none ∧ 64 ≤ namesC ns)) ∧ s64 = .bool fB ∧ St w wx [.blk g6 27 (qlArr none 0 0 none 0 0), .blk g5 32 k.arr, .blk g3 27 (qlArr K m mc A i c)])
   case first =>
    by_cases hz256 : (256 : Int) ≤ (i : Int)
    ·have HB := Lib.hid (show true = decide (256 ≤ ns.length ∨ lastI ns s = none ∧ 64 ≤ namesC ns) from (decide_eq_true (.inl (by rw [HL.out]; omega))).symm)
     clear hn hs0 htl
     generalize cN ns i = c0 at *
     go_wp2_with ((refine L_load1 (d := some 54) rfl rfl rfl (by rfl) Tryz.underlying23 rfl (by (exact cell_of (hst.get 2 rfl) qlArr_1)) ?_))
     go_meet
     case rel => exact ⟨true, HB, rfl, hst⟩
    cases hla : lastI ns s with
    | none =>
     obtain rfl : z = -1 := by rw [← HZ.out]; unfold lastZ; rw [hla]
     have HB := Lib.hid (show decide ((64 : Int) ≤ (cN ns i : Int)) = decide (256 ≤ ns.length ∨ lastI ns s = none ∧ 64 ≤ namesC ns) by
      rw [hla, ← HCA.out, HL.out]
      by_cases hc : 64 ≤ cN ns i
      ·rw [decide_eq_true (by omega), decide_eq_true (.inr ⟨rfl, hc⟩)]
      ·rw [decide_eq_false (by omega), decide_eq_false]
       rintro (h | h)
       ·omega
       ·exact hc h.2)
     generalize cN ns i = c0 at *
     clear hla hn hs0 htl
     go_wp2_with ((refine L_load1 (d := some 54) rfl rfl rfl (by rfl) Tryz.underlying23 rfl (by (exact cell_of (hst.get 2 rfl) qlArr_1)) ?_))
     go_meet
     case rel => exact ⟨_, HB, rfl, hst⟩
    | some j =>
     obtain rfl : z = (j : Int) := by rw [← HZ.out]; unfold lastZ; rw [hla]
     have HB := Lib.hid (show false = decide (256 ≤ ns.length ∨ lastI ns s = none ∧ 64 ≤ namesC ns) from (decide_eq_false (by
      rintro (h | h)
      ·rw [HL.out] at h; omega
      ·rw [hla] at h; cases h.1)).symm)
     have hj0 : ¬ (j : Int) < 0 := by omega
     generalize cN ns i = c0 at *
     clear hla hn hs0 htl
     go_wp2_with ((refine L_load1 (d := some 54) rfl rfl rfl (by rfl) Tryz.underlying23 rfl (by (exact cell_of (hst.get 2 rfl) qlArr_1)) ?_))
     go_meet
     case rel => exact ⟨false, HB, rfl, hst⟩
   case rest =>
    obtain ⟨fB, HB, rfl, hst⟩ := hcut
    clear HCA
    generalize cN ns i = c0 at *
    cases fB with
    | true =>
     have HR := Lib.hid (HNo.out 4 (addE_4 HNm1.out (of_decide_eq_true HB.out.symm)) (by decide))
     clear HOk HNo HNN htl hs0 hn HB
     go_wp2_with (first | ((refine L_loadA (d := some 65) rfl rfl rfl (by rfl) Tryz.underlying27 rfl el_oathbookref3_Log (by (exact hst.get 2 rfl)) (by (exact qlArr_size _ _ _ _ _ _)) ?_)) | (refine wpl_at (.store 27 (.tmp 6) (.tmp 65)) rfl ?_; (refine L_storeA rfl rfl hst rfl (by rfl) (ev_tmp rfl) (by (exact qlArr_all _ _ _ _ _ _)) el_oathbookref3_Log (by (rfl)) 0 rfl (by (rfl)) ?_; clear hst; intro WS1 hst; simp only [List.set_cons_zero, List.set_cons_succ] at hst)))
     refine bp_cellQ2 rfl rfl rfl rfl rfl (hst.get 0 rfl) Tryz.underlying27 rfl el_oathbookref3_Log (qlArr_size _ _ _ _ _ _) ?_
     exact HR.out _ hst.forget
    | false =>
     have hnf := of_decide_eq_false HB.out.symm
     cases t with
     | true =>
      have HR := Lib.hid (HNo.out 7 (addE_7 HNm1.out hnf HTA.out.symm) (by decide))
      clear HOk HNo HNN htl hs0 hn HB hnf HTA
      go_upto_region 17 with (go_big_may; fail)
      go_wp2_with (first | ((refine L_loadA (d := some 67) rfl rfl rfl (by rfl) Tryz.underlying27 rfl el_oathbookref3_Log (by (exact hst.get 2 rfl)) (by (exact qlArr_size _ _ _ _ _ _)) ?_)) | (refine wpl_at (.store 27 (.tmp 6) (.tmp 67)) rfl ?_; (refine L_storeA rfl rfl hst rfl (by rfl) (ev_tmp rfl) (by (exact qlArr_all _ _ _ _ _ _)) el_oathbookref3_Log (by (rfl)) 0 rfl (by (rfl)) ?_; clear hst; intro WS1 hst; simp only [List.set_cons_zero, List.set_cons_succ] at hst)))
      refine bp_cellQ2 rfl rfl rfl rfl rfl (hst.get 0 rfl) Tryz.underlying27 rfl el_oathbookref3_Log (qlArr_size _ _ _ _ _ _) ?_
      exact HR.out _ hst.forget
     | false =>
      have hle := Nat.lt_of_not_le (fun h => hnf (.inl h))
      rewrite [HL.out] at hle
      obtain ⟨tt, htt⟩ : ∃ tt, tt = turnN ns s := ⟨_, rfl⟩
      rewrite [← htt] at HNN htl
      have HTT := Lib.hid htt
      have HNL := Lib.hid (show notesL ns ++ (ntArr s k tt).toList = notesL (ns ++ [newN ns s k]) by rw [HNN.out, notesL, notesL, List.flatMap_append]; simp [NoteN.arr])
      have hE0 := addE_0 HNm1.out hnf HTA.out.symm
      have HOk1 := Lib.hid (fun w' O oc hs => HOk.out hE0 w' O oc hs)
      generalize hgl : notesL (ns ++ [newN ns s k]) = NL at HNL HOk1
      have ht1 : 0 ≤ tt := htl.1
      have ht2 : tt ≤ 256 := by have := htl.2; rw [HL.out] at this; omega
      clear HNo HOk HNN htl hs0 HB hnf HTA hgl hE0 htt
      go_upto_region 18 with (go_big_may; fail)
      go_upto_region 19 with (go_big_may; first | (refine L_buildN (d := some 70) rfl rfl rfl (ev_tmp rfl) (ev_tmp rfl) ?_) | ((refine L_loadA (d := some 69) rfl rfl rfl (by rfl) Tryz.underlying32 rfl el_api_Digest (by (exact hst.get 1 rfl)) (by (exact Dig.size _)) ?_)) | (refine L_allocA (d := some 14) rfl rfl rfl el_api_Note ?_; (try clear hnew); intro g14 W14 hnew; replace hst := hst.trans hnew; simp only [List.cons_append, List.nil_append] at hst) | (refine wpl_at (.store 34 (.tmp 14) (.tmp 70)) rfl ?_; (refine L_storeA rfl rfl hst rfl (by rfl) (ev_tmp rfl) (by (exact ntArr_all _ _ _)) el_api_Note (by (exact ntArr_size _ _ _)) 0 rfl (by (rfl)) ?_; clear hst; intro WS4 hst; simp only [List.set_cons_zero, List.set_cons_succ] at hst)))
      go_upto_if 72 with (go_big_may; fail)
      (try clear hnew)
      go_simp
      go_cut [] (fun wx => St w wx [.blk g14 34 (ntArr s k tt), .blk g6 27 (qlArr none 0 0 none 0 0), .blk g5 32 k.arr, .blk g3 27 (qlArr K m mc A i c)])
      case first =>
       cases hla : lastI ns s with
       | none =>
        obtain rfl : z = -1 := by rw [← HZ.out]; unfold lastZ; rw [hla]
        have HT0 := Lib.hid (show ntArr s k tt = ntArr s k 0 by rw [HTT.out]; unfold turnN lastN?; rw [hla]; rfl)
        clear hla HTT HNL HOk1
        go_wp2_with fail
        go_meet
        case rel => rw [HT0.out]; exact hst
       | some j =>
        obtain rfl : z = (j : Int) := by rw [← HZ.out]; unfold lastZ; rw [hla]
        have hjl := lastI_lt hla
        have hji : j < i := by rw [← HL.out]; exact hjl
        have HTe := Lib.hid (show tt = ns[j].turn + 1 by rw [HTT.out]; unfold turnN lastN?; rw [hla]; simp only [Option.bind_some, List.getElem?_eq_getElem hjl])
        have HCt := Lib.hid (fun (W : World) (g off : Nat) h => show W.cell? ⟨g, off + (j : Int).toNat * 34 + 33, none⟩ = some (.int .i64 ns[j].turn) from note_cells (W := W) (g := g) (off := off) (i := j) (ns := ns) h hjl 33 _ (by unfold NoteN.arr; rw [Array.getElem?_toList]; exact ntArr_33))
        generalize ns[j].turn = t0 at HCt HTe
        have hj1 : (0 : Int) ≤ (j : Int) := by omega
        have hb1 : -1 ≤ t0 := by have := HTe.out; omega
        have hb2 : t0 ≤ 255 := by have := HTe.out; omega
        clear hla HTT HNL HOk1 hjl ht1 ht2
        go_wp2_with (first | (refine L_load1 (d := some 78) rfl rfl rfl (by rfl) Tryz.underlying3 rfl (HCt.out _ _ _ hr76) ?_) | (refine L_load1 (d := some 74) rfl rfl rfl (by rfl) Tryz.underlying23 rfl (by (exact cell_of (hst.get 3 rfl) qlArr_1)) ?_) | (refine L_idxS (d := some 76) rfl rfl rfl (by rfl) (by rfl) Tryz.underlying23 el_api_Note (by (exact hst.old (by decide) HX.out)) (by omega) (by omega) ?_; intro o76 p76 ha76 hr76; ((subst ha76))) | (refine wpl_at (.store 3 (.tmp 80) (.tmp 79)) rfl ?_; (refine L_store1 rfl rfl hst rfl (by rfl) (ev_tmp rfl) rfl el_int 0 rfl (by (rw [ntArr_size _ _ _]; decide)) ?_; clear hst; intro WS8 hst; simp only [List.set_cons_zero, List.set_cons_succ, ntArr_turn _ _ _ _] at hst)))
        go_meet
        case rel => rw [HTe.out]; exact hst
      case rest =>
       have hst := hcut
       clear hcut HTT HZ
       go_upto_region 22 with (go_big_may; first | (refine L_buildQ0 (d := some 83) rfl rfl rfl (ev_tmp rfl) ?_) | (refine L_load1 (d := some 82) rfl rfl rfl (by rfl) Tryz.underlying22 rfl (by (exact cell_of (hst.get 3 rfl) qlArr_0)) ?_) | (refine L_allocA (d := some 15) rfl rfl rfl el_oathbookref3_Log ?_; (try clear hnew); intro g15 W15 hnew; replace hst := hst.trans hnew; simp only [List.cons_append, List.nil_append] at hst) | (refine wpl_at (.store 27 (.tmp 15) (.tmp 83)) rfl ?_; (refine L_storeA rfl rfl hst rfl (by rfl) (ev_tmp rfl) (by (exact qlArr_all _ _ _ _ _ _)) el_oathbookref3_Log (by (rfl)) 0 rfl (by (rfl)) ?_; clear hst; intro WS4 hst; simp only [List.set_cons_zero, List.set_cons_succ] at hst)))
       go_simp
       go_cut [] (fun wx => ∃ (O : Option Addr) (oc : Nat), St w wx [.blk g15 27 (qlArr K m mc O (i + 1) oc), .blk g6 27 (qlArr none 0 0 none 0 0), .blk g3 27 (qlArr K m mc A i c), .row O (i + 1) oc 34 34 NL])
       case first =>
        refine wp_region_pm (.one 1 0 (.one 2 0 (.two 0 2 (.two 3 1 (.one 4 2 (.one 5 2 (.one 6 1 (.one 7 2 (.one 8 1 .nil))))) 4 2 (.two 3 1 (.one 5 2 (.one 6 1 (.one 7 2 (.one 8 1 .nil)))) 5 2 (.one 3 1 (.one 6 1 (.one 7 2 (.one 8 1 .nil)))))) 4 2 (.two 0 2 (.two 3 1 (.one 5 2 (.one 6 1 (.one 7 2 (.one 8 1 .nil)))) 5 2 (.one 3 1 (.one 6 1 (.one 7 2 (.one 8 1 .nil))))) 5 2 (.one 0 2 (.one 3 1 (.one 6 1 (.one 7 2 (.one 8 1 .nil))))))))) (by kernel_rfl) (by kernel_rfl) ?_
        replace hst := hst.drew
        refine pm_qf rfl rfl (by kernel_rfl) ?_; go_wp2_with fail
        refine pm_q rfl rfl ?_; go_wp2_with ((refine L_load1 (d := some 86) rfl rfl rfl (by rfl) Tryz.underlying23 rfl (by (exact cell_of (hst.get 4 rfl) qlArr_1)) ?_))
        refine pm_two (ki := 2) (kj := 2) rfl rfl ?_ ?_
        ·go_wp2_with ((refine L_buildS (d := some 84) rfl rfl rfl [] (bs_0 ) rfl Tryz.underlying23 el_api_Note rfl (by (simp [Value.cells]; done)) (by decide) (by decide) ?_; (try clear hnew); intro g84 W84 hnew; replace hst := hst.trans hnew; simp only [List.cons_append, List.nil_append] at hst; simp only [List.flatMap_cons, List.flatMap_nil, List.append_nil, Value.cells, List.toList_toArray] at hst)); refine ⟨fun _ => (by (exact hnew.below)), ?_⟩
         refine pm_two (ki := 1) (kj := 2) rfl rfl ?_ ?_
         ·go_wp2_with ((refine L_appendO (d := some 87) rfl rfl hst rfl (by rfl) (by rfl) Tryz.underlying23 el_api_Note rfl (by decide) (by decide) 0 rfl (by (rfl)) (by (exact hst.old (by decide) HX.out)) (by (exact nt_ones _)) (by omega) ?_; clear hst; intro A87 c87 W87 hst; simp only [List.set_cons_zero, List.set_cons_succ, List.nil_append, Nat.zero_add] at hst)); refine ⟨fun h => absurd h (by decide), ?_⟩
          refine pm_g rfl ?_; go_wp2_with (((refine L_loadA (d := some 88) rfl rfl rfl (by rfl) Tryz.underlying34 rfl el_api_Note (by (exact hst.get 2 rfl)) (by (exact ntArr_size _ _ _)) ?_))); refine ⟨by (exact Below.refl _ _), ?_⟩
          refine pm_g rfl ?_; go_wp2_with ((refine L_buildS (d := some 89) rfl rfl rfl [_] (bs_1 (ev_tmp rfl)) rfl Tryz.underlying23 el_api_Note rfl (by (simp [Value.cells]; done)) (by decide) (by decide) ?_; (try clear hnew); intro g89 W89 hnew; replace hst := hst.trans hnew; simp only [List.cons_append, List.nil_append] at hst; simp only [List.flatMap_cons, List.flatMap_nil, List.append_nil, Value.cells, List.toList_toArray] at hst)); refine ⟨by (exact hnew.below), ?_⟩
          refine pm_e rfl ?_; go_wp2_with ((refine L_appendO (d := some 90) rfl rfl hst rfl (by rfl) (by rfl) Tryz.underlying23 el_api_Note rfl (by decide) (by decide) 1 rfl (by (omega)) (by (exact hst.sl 0 rfl)) (by (exact ntArr_one _ _ _)) (by omega) ?_; clear hst; intro A90 c90 W90 hst; simp only [List.set_cons_zero, List.set_cons_succ, List.nil_append, Nat.zero_add] at hst))
          refine pm_g rfl ?_; go_wp2_with fail; refine ⟨by (exact Below.refl _ _), ?_⟩
          refine pm_e rfl ?_; go_wp2_with ((refine wpl_at (.store 23 (.tmp 91) (.tmp 90)) rfl ?_; (refine L_store1 rfl rfl hst rfl (by rfl) (ev_tmp rfl) rfl el_S_api_Note 2 rfl (by (exact of_decide_eq_true rfl)) ?_; clear hst; intro WS8 hst; simp only [List.set_cons_zero, List.set_cons_succ, qlArr_s1 _ _ _] at hst)))
          refine pm_nil ?_
          go_wp2_with fail
          go_meet
          case rel => rewrite [HNL.out] at hst; (exact ⟨_, _, hst.pick [2, 4, 6, 1] (by decide)⟩)
         ·go_wp2_with (((refine L_loadA (d := some 88) rfl rfl rfl (by rfl) Tryz.underlying34 rfl el_api_Note (by (exact hst.get 2 rfl)) (by (exact ntArr_size _ _ _)) ?_))); refine ⟨fun _ => (by (exact Below.refl _ _)), ?_⟩
          refine pm_two (ki := 1) (kj := 2) rfl rfl ?_ ?_
          ·go_wp2_with ((refine L_appendO (d := some 87) rfl rfl hst rfl (by rfl) (by rfl) Tryz.underlying23 el_api_Note rfl (by decide) (by decide) 0 rfl (by (rfl)) (by (exact hst.old (by decide) HX.out)) (by (exact nt_ones _)) (by omega) ?_; clear hst; intro A87 c87 W87 hst; simp only [List.set_cons_zero, List.set_cons_succ, List.nil_append, Nat.zero_add] at hst)); refine ⟨fun h => absurd h (by decide), ?_⟩
           refine pm_g rfl ?_; go_wp2_with ((refine L_buildS (d := some 89) rfl rfl rfl [_] (bs_1 (ev_tmp rfl)) rfl Tryz.underlying23 el_api_Note rfl (by (simp [Value.cells]; done)) (by decide) (by decide) ?_; (try clear hnew); intro g89 W89 hnew; replace hst := hst.trans hnew; simp only [List.cons_append, List.nil_append] at hst; simp only [List.flatMap_cons, List.flatMap_nil, List.append_nil, Value.cells, List.toList_toArray] at hst)); refine ⟨by (exact hnew.below), ?_⟩
           refine pm_e rfl ?_; go_wp2_with ((refine L_appendO (d := some 90) rfl rfl hst rfl (by rfl) (by rfl) Tryz.underlying23 el_api_Note rfl (by decide) (by decide) 1 rfl (by (omega)) (by (exact hst.sl 0 rfl)) (by (exact ntArr_one _ _ _)) (by omega) ?_; clear hst; intro A90 c90 W90 hst; simp only [List.set_cons_zero, List.set_cons_succ, List.nil_append, Nat.zero_add] at hst))
           refine pm_g rfl ?_; go_wp2_with fail; refine ⟨by (exact Below.refl _ _), ?_⟩
           refine pm_e rfl ?_; go_wp2_with ((refine wpl_at (.store 23 (.tmp 91) (.tmp 90)) rfl ?_; (refine L_store1 rfl rfl hst rfl (by rfl) (ev_tmp rfl) rfl el_S_api_Note 2 rfl (by (exact of_decide_eq_true rfl)) ?_; clear hst; intro WS8 hst; simp only [List.set_cons_zero, List.set_cons_succ, qlArr_s1 _ _ _] at hst)))
           refine pm_nil ?_
           go_wp2_with fail
           go_meet
           case rel => rewrite [HNL.out] at hst; (exact ⟨_, _, hst.pick [2, 4, 6, 1] (by decide)⟩)
          ·go_wp2_with ((refine L_buildS (d := some 89) rfl rfl rfl [_] (bs_1 (ev_tmp rfl)) rfl Tryz.underlying23 el_api_Note rfl (by (simp [Value.cells]; done)) (by decide) (by decide) ?_; (try clear hnew); intro g89 W89 hnew; replace hst := hst.trans hnew; simp only [List.cons_append, List.nil_append] at hst; simp only [List.flatMap_cons, List.flatMap_nil, List.append_nil, Value.cells, List.toList_toArray] at hst)); refine ⟨fun _ => (by (exact hnew.below)), ?_⟩
           refine pm_e rfl ?_; go_wp2_with ((refine L_appendO (d := some 87) rfl rfl hst rfl (by rfl) (by rfl) Tryz.underlying23 el_api_Note rfl (by decide) (by decide) 1 rfl (by (rfl)) (by (exact hst.old (by decide) HX.out)) (by (exact nt_ones _)) (by omega) ?_; clear hst; intro A87 c87 W87 hst; simp only [List.set_cons_zero, List.set_cons_succ, List.nil_append, Nat.zero_add] at hst))
           refine pm_e rfl ?_; go_wp2_with ((refine L_appendO (d := some 90) rfl rfl hst rfl (by rfl) (by rfl) Tryz.underlying23 el_api_Note rfl (by decide) (by decide) 1 rfl (by (omega)) (by (exact hst.sl 0 rfl)) (by (exact ntArr_one _ _ _)) (by omega) ?_; clear hst; intro A90 c90 W90 hst; simp only [List.set_cons_zero, List.set_cons_succ, List.nil_append, Nat.zero_add] at hst))
           refine pm_g rfl ?_; go_wp2_with fail; refine ⟨by (exact Below.refl _ _), ?_⟩
           refine pm_e rfl ?_; go_wp2_with ((refine wpl_at (.store 23 (.tmp 91) (.tmp 90)) rfl ?_; (refine L_store1 rfl rfl hst rfl (by rfl) (ev_tmp rfl) rfl el_S_api_Note 2 rfl (by (exact of_decide_eq_true rfl)) ?_; clear hst; intro WS8 hst; simp only [List.set_cons_zero, List.set_cons_succ, qlArr_s1 _ _ _] at hst)))
           refine pm_nil ?_
           go_wp2_with fail
           go_meet
           case rel => rewrite [HNL.out] at hst; (exact ⟨_, _, hst.pick [2, 4, 6, 1] (by decide)⟩)
        ·go_wp2_with (((refine L_loadA (d := some 88) rfl rfl rfl (by rfl) Tryz.underlying34 rfl el_api_Note (by (exact hst.get 1 rfl)) (by (exact ntArr_size _ _ _)) ?_))); refine ⟨fun _ => (by (exact Below.refl _ _)), ?_⟩
         refine pm_two (ki := 2) (kj := 2) rfl rfl ?_ ?_
         ·go_wp2_with ((refine L_buildS (d := some 84) rfl rfl rfl [] (bs_0 ) rfl Tryz.underlying23 el_api_Note rfl (by (simp [Value.cells]; done)) (by decide) (by decide) ?_; (try clear hnew); intro g84 W84 hnew; replace hst := hst.trans hnew; simp only [List.cons_append, List.nil_append] at hst; simp only [List.flatMap_cons, List.flatMap_nil, List.append_nil, Value.cells, List.toList_toArray] at hst)); refine ⟨fun _ => (by (exact hnew.below)), ?_⟩
          refine pm_two (ki := 1) (kj := 2) rfl rfl ?_ ?_
          ·go_wp2_with ((refine L_appendO (d := some 87) rfl rfl hst rfl (by rfl) (by rfl) Tryz.underlying23 el_api_Note rfl (by decide) (by decide) 0 rfl (by (rfl)) (by (exact hst.old (by decide) HX.out)) (by (exact nt_ones _)) (by omega) ?_; clear hst; intro A87 c87 W87 hst; simp only [List.set_cons_zero, List.set_cons_succ, List.nil_append, Nat.zero_add] at hst)); refine ⟨fun h => absurd h (by decide), ?_⟩
           refine pm_g rfl ?_; go_wp2_with ((refine L_buildS (d := some 89) rfl rfl rfl [_] (bs_1 (ev_tmp rfl)) rfl Tryz.underlying23 el_api_Note rfl (by (simp [Value.cells]; done)) (by decide) (by decide) ?_; (try clear hnew); intro g89 W89 hnew; replace hst := hst.trans hnew; simp only [List.cons_append, List.nil_append] at hst; simp only [List.flatMap_cons, List.flatMap_nil, List.append_nil, Value.cells, List.toList_toArray] at hst)); refine ⟨by (exact hnew.below), ?_⟩
           refine pm_e rfl ?_; go_wp2_with ((refine L_appendO (d := some 90) rfl rfl hst rfl (by rfl) (by rfl) Tryz.underlying23 el_api_Note rfl (by decide) (by decide) 1 rfl (by (omega)) (by (exact hst.sl 0 rfl)) (by (exact ntArr_one _ _ _)) (by omega) ?_; clear hst; intro A90 c90 W90 hst; simp only [List.set_cons_zero, List.set_cons_succ, List.nil_append, Nat.zero_add] at hst))
           refine pm_g rfl ?_; go_wp2_with fail; refine ⟨by (exact Below.refl _ _), ?_⟩
           refine pm_e rfl ?_; go_wp2_with ((refine wpl_at (.store 23 (.tmp 91) (.tmp 90)) rfl ?_; (refine L_store1 rfl rfl hst rfl (by rfl) (ev_tmp rfl) rfl el_S_api_Note 2 rfl (by (exact of_decide_eq_true rfl)) ?_; clear hst; intro WS8 hst; simp only [List.set_cons_zero, List.set_cons_succ, qlArr_s1 _ _ _] at hst)))
           refine pm_nil ?_
           go_wp2_with fail
           go_meet
           case rel => rewrite [HNL.out] at hst; (exact ⟨_, _, hst.pick [2, 4, 6, 1] (by decide)⟩)
          ·go_wp2_with ((refine L_buildS (d := some 89) rfl rfl rfl [_] (bs_1 (ev_tmp rfl)) rfl Tryz.underlying23 el_api_Note rfl (by (simp [Value.cells]; done)) (by decide) (by decide) ?_; (try clear hnew); intro g89 W89 hnew; replace hst := hst.trans hnew; simp only [List.cons_append, List.nil_append] at hst; simp only [List.flatMap_cons, List.flatMap_nil, List.append_nil, Value.cells, List.toList_toArray] at hst)); refine ⟨fun _ => (by (exact hnew.below)), ?_⟩
           refine pm_e rfl ?_; go_wp2_with ((refine L_appendO (d := some 87) rfl rfl hst rfl (by rfl) (by rfl) Tryz.underlying23 el_api_Note rfl (by decide) (by decide) 1 rfl (by (rfl)) (by (exact hst.old (by decide) HX.out)) (by (exact nt_ones _)) (by omega) ?_; clear hst; intro A87 c87 W87 hst; simp only [List.set_cons_zero, List.set_cons_succ, List.nil_append, Nat.zero_add] at hst))
           refine pm_e rfl ?_; go_wp2_with ((refine L_appendO (d := some 90) rfl rfl hst rfl (by rfl) (by rfl) Tryz.underlying23 el_api_Note rfl (by decide) (by decide) 1 rfl (by (omega)) (by (exact hst.sl 0 rfl)) (by (exact ntArr_one _ _ _)) (by omega) ?_; clear hst; intro A90 c90 W90 hst; simp only [List.set_cons_zero, List.set_cons_succ, List.nil_append, Nat.zero_add] at hst))
           refine pm_g rfl ?_; go_wp2_with fail; refine ⟨by (exact Below.refl _ _), ?_⟩
           refine pm_e rfl ?_; go_wp2_with ((refine wpl_at (.store 23 (.tmp 91) (.tmp 90)) rfl ?_; (refine L_store1 rfl rfl hst rfl (by rfl) (ev_tmp rfl) rfl el_S_api_Note 2 rfl (by (exact of_decide_eq_true rfl)) ?_; clear hst; intro WS8 hst; simp only [List.set_cons_zero, List.set_cons_succ, qlArr_s1 _ _ _] at hst)))
           refine pm_nil ?_
           go_wp2_with fail
           go_meet
           case rel => rewrite [HNL.out] at hst; (exact ⟨_, _, hst.pick [2, 4, 6, 1] (by decide)⟩)
         ·go_wp2_with ((refine L_buildS (d := some 89) rfl rfl rfl [_] (bs_1 (ev_tmp rfl)) rfl Tryz.underlying23 el_api_Note rfl (by (simp [Value.cells]; done)) (by decide) (by decide) ?_; (try clear hnew); intro g89 W89 hnew; replace hst := hst.trans hnew; simp only [List.cons_append, List.nil_append] at hst; simp only [List.flatMap_cons, List.flatMap_nil, List.append_nil, Value.cells, List.toList_toArray] at hst)); refine ⟨fun _ => (by (exact hnew.below)), ?_⟩
          refine pm_g rfl ?_; go_wp2_with ((refine L_buildS (d := some 84) rfl rfl rfl [] (bs_0 ) rfl Tryz.underlying23 el_api_Note rfl (by (simp [Value.cells]; done)) (by decide) (by decide) ?_; (try clear hnew); intro g84 W84 hnew; replace hst := hst.trans hnew; simp only [List.cons_append, List.nil_append] at hst; simp only [List.flatMap_cons, List.flatMap_nil, List.append_nil, Value.cells, List.toList_toArray] at hst)); refine ⟨by (exact hnew.below), ?_⟩
          refine pm_e rfl ?_; go_wp2_with ((refine L_appendO (d := some 87) rfl rfl hst rfl (by rfl) (by rfl) Tryz.underlying23 el_api_Note rfl (by decide) (by decide) 0 rfl (by (rfl)) (by (exact hst.old (by decide) HX.out)) (by (exact nt_ones _)) (by omega) ?_; clear hst; intro A87 c87 W87 hst; simp only [List.set_cons_zero, List.set_cons_succ, List.nil_append, Nat.zero_add] at hst))
          refine pm_e rfl ?_; go_wp2_with ((refine L_appendO (d := some 90) rfl rfl hst rfl (by rfl) (by rfl) Tryz.underlying23 el_api_Note rfl (by decide) (by decide) 0 rfl (by (omega)) (by (exact hst.sl 1 rfl)) (by (exact ntArr_one _ _ _)) (by omega) ?_; clear hst; intro A90 c90 W90 hst; simp only [List.set_cons_zero, List.set_cons_succ, List.nil_append, Nat.zero_add] at hst))
          refine pm_g rfl ?_; go_wp2_with fail; refine ⟨by (exact Below.refl _ _), ?_⟩
          refine pm_e rfl ?_; go_wp2_with ((refine wpl_at (.store 23 (.tmp 91) (.tmp 90)) rfl ?_; (refine L_store1 rfl rfl hst rfl (by rfl) (ev_tmp rfl) rfl el_S_api_Note 2 rfl (by (exact of_decide_eq_true rfl)) ?_; clear hst; intro WS8 hst; simp only [List.set_cons_zero, List.set_cons_succ, qlArr_s1 _ _ _] at hst)))
          refine pm_nil ?_
          go_wp2_with fail
          go_meet
          case rel => rewrite [HNL.out] at hst; (exact ⟨_, _, hst.pick [2, 4, 6, 0] (by decide)⟩)
       case rest =>
        obtain ⟨O, oc, hst⟩ := hcut
        go_wp2_with fail
        refine wp_region_pm (.one 0 0 (.two 1 2 (.two 2 2 (.two 3 2 (.one 4 1 (.one 5 2 (.one 6 2 .nil))) 4 1 (.one 3 2 (.one 5 2 (.one 6 2 .nil)))) 4 1 (.one 2 2 (.one 3 2 (.one 5 2 (.one 6 2 .nil))))) 4 1 (.one 1 2 (.one 2 2 (.one 3 2 (.one 5 2 (.one 6 2 .nil))))))) (by kernel_rfl) (by kernel_rfl) ?_
        replace hst := hst.drew
        refine pm_q rfl rfl ?_; go_wp2_with (((refine L_loadA (d := some 92) rfl rfl rfl (by rfl) Tryz.underlying27 rfl el_oathbookref3_Log (by (exact hst.get 0 rfl)) (by (exact qlArr_size _ _ _ _ _ _)) ?_)))
        refine pm_two (ki := 2) (kj := 1) rfl rfl ?_ ?_
        ·go_wp2_with fail; refine ⟨fun _ => (by (exact Below.refl _ _)), ?_⟩
         refine pm_two (ki := 2) (kj := 1) rfl rfl ?_ ?_
         ·go_wp2_with ((refine L_load1 (d := some 94) rfl rfl rfl (by rfl) Tryz.underlying23 rfl (by (exact cell_of (hst.get 2 rfl) qlArr_1)) ?_)); refine ⟨fun _ => (by (exact Below.refl _ _)), ?_⟩
          refine pm_two (ki := 2) (kj := 1) rfl rfl ?_ ?_
          ·go_wp2_with fail; refine ⟨fun _ => (by (exact Below.refl _ _)), ?_⟩
           refine pm_e rfl ?_; go_wp2_with ((refine wpl_at (.store 27 (.tmp 6) (.tmp 92)) rfl ?_; (refine L_storeA rfl rfl hst rfl (by rfl) (ev_tmp rfl) (by (exact qlArr_all _ _ _ _ _ _)) el_oathbookref3_Log (by (rfl)) 1 rfl (by (rfl)) ?_; clear hst; intro WS4 hst; simp only [List.set_cons_zero, List.set_cons_succ] at hst)))
           refine pm_g rfl ?_; go_wp2_with fail; refine ⟨by (exact Below.refl _ _), ?_⟩
           refine pm_g rfl ?_; go_wp2_with fail; refine ⟨by (exact Below.refl _ _), ?_⟩
           refine pm_nil ?_
           go_wp2_with fail
           refine bp_cellQ2 rfl rfl rfl rfl rfl (hst.get 1 rfl) Tryz.underlying27 rfl el_oathbookref3_Log (qlArr_size _ _ _ _ _ _) ?_
           exact HOk1.out _ _ _ (hst.pick [3] (by decide))
          ·go_wp2_with ((refine wpl_at (.store 27 (.tmp 6) (.tmp 92)) rfl ?_; (refine L_storeA rfl rfl hst rfl (by rfl) (ev_tmp rfl) (by (exact qlArr_all _ _ _ _ _ _)) el_oathbookref3_Log (by (rfl)) 1 rfl (by (rfl)) ?_; clear hst; intro WS4 hst; simp only [List.set_cons_zero, List.set_cons_succ] at hst))); refine ⟨fun h => absurd h (by decide), ?_⟩
           refine pm_g rfl ?_; go_wp2_with fail; refine ⟨by (exact Below.refl _ _), ?_⟩
           refine pm_g rfl ?_; go_wp2_with fail; refine ⟨by (exact Below.refl _ _), ?_⟩
           refine pm_g rfl ?_; go_wp2_with fail; refine ⟨by (exact Below.refl _ _), ?_⟩
           refine pm_nil ?_
           go_wp2_with fail
           refine bp_cellQ2 rfl rfl rfl rfl rfl (hst.get 1 rfl) Tryz.underlying27 rfl el_oathbookref3_Log (qlArr_size _ _ _ _ _ _) ?_
           exact HOk1.out _ _ _ (hst.pick [3] (by decide))
         ·go_wp2_with ((refine wpl_at (.store 27 (.tmp 6) (.tmp 92)) rfl ?_; (refine L_storeA rfl rfl hst rfl (by rfl) (ev_tmp rfl) (by (exact qlArr_all _ _ _ _ _ _)) el_oathbookref3_Log (by (rfl)) 1 rfl (by (rfl)) ?_; clear hst; intro WS4 hst; simp only [List.set_cons_zero, List.set_cons_succ] at hst))); refine ⟨fun h => absurd h (by decide), ?_⟩
          refine pm_g rfl ?_; go_wp2_with ((refine L_load1 (d := some 94) rfl rfl rfl (by rfl) Tryz.underlying23 rfl (by (exact cell_of (hst.get 2 rfl) qlArr_1)) ?_)); refine ⟨by (exact Below.refl _ _), ?_⟩
          refine pm_g rfl ?_; go_wp2_with fail; refine ⟨by (exact Below.refl _ _), ?_⟩
          refine pm_g rfl ?_; go_wp2_with fail; refine ⟨by (exact Below.refl _ _), ?_⟩
          refine pm_g rfl ?_; go_wp2_with fail; refine ⟨by (exact Below.refl _ _), ?_⟩
          refine pm_nil ?_
          go_wp2_with fail
          refine bp_cellQ2 rfl rfl rfl rfl rfl (hst.get 1 rfl) Tryz.underlying27 rfl el_oathbookref3_Log (qlArr_size _ _ _ _ _ _) ?_
          exact HOk1.out _ _ _ (hst.pick [3] (by decide))
        ·go_wp2_with ((refine wpl_at (.store 27 (.tmp 6) (.tmp 92)) rfl ?_; (refine L_storeA rfl rfl hst rfl (by rfl) (ev_tmp rfl) (by (exact qlArr_all _ _ _ _ _ _)) el_oathbookref3_Log (by (rfl)) 1 rfl (by (rfl)) ?_; clear hst; intro WS4 hst; simp only [List.set_cons_zero, List.set_cons_succ] at hst))); refine ⟨fun h => absurd h (by decide), ?_⟩
         refine pm_g rfl ?_; go_wp2_with fail; refine ⟨by (exact Below.refl _ _), ?_⟩
         refine pm_g rfl ?_; go_wp2_with ((refine L_load1 (d := some 94) rfl rfl rfl (by rfl) Tryz.underlying23 rfl (by (exact cell_of (hst.get 2 rfl) qlArr_1)) ?_)); refine ⟨by (exact Below.refl _ _), ?_⟩
         refine pm_g rfl ?_; go_wp2_with fail; refine ⟨by (exact Below.refl _ _), ?_⟩
         refine pm_g rfl ?_; go_wp2_with fail; refine ⟨by (exact Below.refl _ _), ?_⟩
         refine pm_g rfl ?_; go_wp2_with fail; refine ⟨by (exact Below.refl _ _), ?_⟩
         refine pm_nil ?_
         go_wp2_with fail
         refine bp_cellQ2 rfl rfl rfl rfl rfl (hst.get 1 rfl) Tryz.underlying27 rfl el_oathbookref3_Log (qlArr_size _ _ _ _ _ _) ?_
         exact HOk1.out _ _ _ (hst.pick [3] (by decide))
theorem radded_any (K : Option Addr) (m mc : Nat) (ns : List NoteN) (s : List UInt8) (k : Dig) (A : Option Addr) (n c : Nat) (w : World) (hx : SlR w A n c 34 (notesL ns)) (hg : Logged ns) (h0 : addE ns s = 0) :
  Calls Tryz.prog 9 #[.agg (qlArr K m mc A n c), .string (bsOf s), k.v] w fun e w' => ∃ O oc, e = .returned (.tuple #[.agg (qlArr K m mc O (n + 1) oc), .int .i64 (n : Int), .int .i64 0]) ∧ St w w' [.row O (n + 1) oc 34 34 (notesL (ns ++ [newN ns s k]))] :=
 radded_gen K m mc ns s k A n c w hx hg (by have := (isNm_len (addE_zero h0).1).2; omega) _ (fun _ _ O oc h => ⟨O, oc, rfl, h⟩) (fun r h hr => absurd (h.symm.trans h0) hr)
end Go.Proofs.YtaebeemnipafbaaGreatDoor

set_option maxRecDepth 20000
set_option linter.unusedSimpArgs false
set_option linter.unusedVariables false
namespace Go.Proofs.YtaebeemnipafbaaGreatDoor
open Go.RowKit
theorem dig_oneQ (d : Dig) : ∀ u ∈ d.arr.toList, u.oneCell' = true := by
 rw [Dig.toList]
 exact oneCell_bytes
set_option maxHeartbeats 2000000 in
theorem rplong_any : ∀ (n m : Nat) (own : Bool) (w : World), 1 ≤ m → m ≤ n → n ≤ 256 →
  Calls Tryz.prog 129 #[.int .i64 (m : Int), .int .i64 (n : Int), .bool own] w fun e w' => e = .returned (.int .i64 (plN n m own : Int)) ∧ St w w' [] := by
 intro n
 induction n using Nat.strongRecOn with
 | ind n ih =>
 intro m own w hm1 hmn hn
 have hst := St.refl w
 by_cases h : m = n
 ·subst h
  clear ih
  rw [plN_all]
  cases own with
  | true =>
   go_enter Tryz.func129, Tryz.ntmps129
   go_wp2_with (fail)
   go_ret
   exact ⟨rfl, hst⟩
  | false =>
   go_enter Tryz.func129, Tryz.ntmps129
   go_wp2_with (fail)
   go_ret
   exact ⟨rfl, hst⟩
 ·have hlt := halfN_lt n (by omega)
  have hps := halfN_pos n
  have h' : ((m : Int) == (n : Int)) = false := by rw [beq_eq_false_iff_ne]; omega
  have HF := Lib.hid (fun w => rhalf_any n (by omega) (by omega) w)
  by_cases hk : m ≤ halfN n
  ·have hle := plN_le (halfN n) m own
   rw [plN_left h (by omega) hk]
   have HI := Lib.hid (fun w => ih (halfN n) hlt m own w hm1 hk (by omega))
   have hk' : (m : Int) ≤ (halfN n : Int) := by omega
   clear ih h
   generalize plN (halfN n) m own = r at *
   generalize halfN n = k at *
   go_enter Tryz.func129, Tryz.ntmps129
   go_wp2_with (first | (go_at_call 48; (try clear hnew); refine (HF.out _).mono ?_; rintro e Wk1 ⟨rfl, hnew⟩; replace hst := hst.keep hnew) | (go_at_call 129; (try clear hnew); refine (HI.out _).mono ?_; rintro e Wk2 ⟨rfl, hnew⟩; replace hst := hst.keep hnew))
   go_ret
   exact ⟨congrArg Ending.returned (by go_num), hst⟩
  ·have hle := plN_le (n - halfN n) (m - halfN n) false
   rw [plN_right h (by omega) hk]
   have HI := Lib.hid (fun w => ih (n - halfN n) (by omega) (m - halfN n) false w (by omega) (by omega) (by omega))
   have e1 : (((m - halfN n : Nat)) : Int) = (m : Int) - (halfN n : Int) := by omega
   have e2 : (((n - halfN n : Nat)) : Int) = (n : Int) - (halfN n : Int) := by omega
   rw [e1, e2] at HI
   have hk' : ¬ (m : Int) ≤ (halfN n : Int) := by omega
   clear ih h e1 e2
   generalize plN (n - halfN n) (m - halfN n) false = r at *
   generalize halfN n = k at *
   go_enter Tryz.func129, Tryz.ntmps129
   go_wp2_with (first | (go_at_call 48; (try clear hnew); refine (HF.out _).mono ?_; rintro e Wk3 ⟨rfl, hnew⟩; replace hst := hst.keep hnew) | (go_at_call 129; (try clear hnew); refine (HI.out _).mono ?_; rintro e Wk4 ⟨rfl, hnew⟩; replace hst := hst.keep hnew))
   go_ret
   exact ⟨congrArg Ending.returned (by go_num), hst⟩
set_option maxHeartbeats 4000000 in
theorem rproof_any : ∀ (n : Nat) (ls : List Dig) (A : Option Addr) (c m : Nat) (own : Bool) (w : World), SlR w A n c 32 (digsL ls) → 1 ≤ m → m ≤ n → n ≤ 256 →
  Calls Tryz.prog 17 #[.slice A n c, .int .i64 (m : Int), .bool own] w fun e w' => ∃ O oc, e = .returned (.slice O (plN n m own) oc) ∧ St w w' [.row O (plN n m own) oc 32 32 (digsL (gpN ls m own))] := by
 intro n
 induction n using Nat.strongRecOn with
 | ind n ih =>
 intro ls A c m own w hx hm1 hmn hn
 have hst := St.refl w
 have hl : ls.length = n := by have := hx.1; rw [length_digsL] at this; omega
 have hcap := hx.2.1
 by_cases h : m = n
 ·subst h
  rw [gpN_all ls own hl.symm, plN_all]
  clear ih
  cases own with
  | true =>
   go_enter Tryz.func17, Tryz.ntmps17
   go_wp2_with (fail)
   go_ret
   exact ⟨_, _, rfl, hst.nilRow 32 32⟩
  | false =>
   have HR := Lib.hid (fun w hs => rroot_any m ls A c w hs hn)
   have HB := Lib.hid (show (rootN ls).arr.toList = digsL [rootN ls] by rw [digsL_single, Dig.toList])
   generalize rootN ls = r at *
   go_enter Tryz.func17, Tryz.ntmps17
   go_wp2_with (first | (go_at_call 41; (try clear hnew); refine (HR.out _ (hst.old (by decide) hx)).mono ?_; rintro e Wk5 ⟨rfl, hnew⟩; replace hst := hst.keep hnew) | (refine L_buildS (d := some 21) rfl rfl rfl [_] (bs_1 (ev_tmp rfl)) rfl Tryz.underlying44 el_api_Digest rfl (by (simp [Value.cells, Dig.size]; done)) (by decide) (by decide) ?_; (try clear hnew); intro g21 W21 hnew; replace hst := hst.trans hnew; simp only [List.cons_append, List.nil_append] at hst; simp only [List.flatMap_cons, List.flatMap_nil, List.append_nil, Value.cells, List.toList_toArray] at hst))
   go_ret
   refine ⟨_, _, rfl, ?_⟩
   (try simp only [Bool.false_eq_true, if_false])
   rw [← HB.out]
   exact hst.pick [0] (by decide)
 ·have hlt := halfN_lt n (by omega)
  have hps := halfN_pos n
  have h' : ((m : Int) == (n : Int)) = false := by rw [beq_eq_false_iff_ne]; omega
  have HF := Lib.hid (fun w => rhalf_any n (by omega) (by omega) w)
  have H1 := Lib.hid (show ((digsL ls).drop (0 * 32)).take ((halfN n - 0) * 32) = digsL (ls.take (halfN n)) by rw [digsL_cut]; rfl)
  have H2 := Lib.hid (show ((digsL ls).drop (halfN n * 32)).take ((n - halfN n) * 32) = digsL (ls.drop (halfN n)) by rw [digsL_cut, List.take_of_length_le (by rw [List.length_drop]; omega)])
  by_cases hk : m ≤ halfN n
  ·have hle := plN_le (halfN n) m own
   rw [plN_left h (by omega) hk]
   have HI := Lib.hid (fun A c w hs => ih (halfN n) hlt (ls.take (halfN n)) A c m own w hs hm1 hk (by omega))
   have HB := Lib.hid (show digsL (gpN (ls.take (halfN n)) m own) ++ (rootN (ls.drop (halfN n))).arr.toList = digsL (gpN ls m own) by
    rw [gpN_left (ls := ls) (by omega) (by omega) (by rw [hl]; exact hk), hl, digsL_append, digsL_single, Dig.toList])
   have hk' : (m : Int) ≤ (halfN n : Int) := by omega
   clear ih hl h
   generalize plN (halfN n) m own = r at *
   generalize halfN n = k at *
   go_enter Tryz.func17, Tryz.ntmps17
   go_upto_region 1 with (fail)
   go_upto_region 3 with (((refine L_pickF (d := some 14) rfl rfl rfl (ev_tmp rfl) ev_const ?_)))
   go_upto_region 5 with (fail)
   go_upto_region 6 with ((go_at_call 48; (try clear hnew); refine (HF.out _).mono ?_; rintro e Wk6 ⟨rfl, hnew⟩; replace hst := hst.keep hnew))
   go_upto_region 7 with (fail)
   (try clear hnew)
   refine wp_region_idxT [(0, 0), (1, 0), (2, 0), (3, 0), (4, 0), (6, 0), (7, 0), (8, 0), (5, 2), (9, 2), (10, 2), (11, 1), (12, 2)] (by kernel_rfl) (by kernel_rfl) ?_
   replace hst := hst.drew
   refine idx_q rfl rfl ?_; go_wp2_with fail
   refine idx_q rfl rfl ?_; go_wp2_with fail
   refine idx_q rfl rfl ?_; go_wp2_with (((refine L_cutV (d := some 30) rfl rfl rfl (by rfl) Tryz.underlying44 el_api_Digest (by decide) hx 0 k _ (Or.inl ⟨rfl, rfl⟩) (Or.inr ⟨_, _, rfl, by (exact ev_tmp rfl)⟩) (Or.inl ⟨rfl, rfl⟩) (by omega) (by omega) (by omega) (by omega) ?_; intro A30 c30 hs30)))
   refine idx_q rfl rfl ?_; go_wp2_with fail
   refine idx_q rfl rfl ?_; go_wp2_with fail
   refine idx_q rfl rfl ?_; go_wp2_with fail
   refine idx_q rfl rfl ?_; go_wp2_with fail
   refine idx_q rfl rfl ?_; go_wp2_with (((refine L_cutV (d := some 36) rfl rfl rfl (by rfl) Tryz.underlying44 el_api_Digest (by decide) hx k n _ (Or.inr ⟨_, _, rfl, by (exact ev_tmp rfl)⟩) (Or.inl ⟨rfl, rfl, rfl⟩) (Or.inl ⟨rfl, rfl⟩) (by omega) (by omega) (by omega) (by omega) ?_; intro A36 c36 hs36)))
   refine idx_g rfl ?_; go_wp2_with ((go_at_call 17; (try clear hnew); refine (HI.out A30 c30 _ (by rw [← H1.out]; exact hst.old (by decide) hs30)).mono ?_; rintro e Wk7 ⟨O33, c33, rfl, hnew⟩; replace hst := hst.trans hnew; simp only [List.cons_append, List.nil_append] at hst)); refine ⟨by (exact hnew.below), ?_⟩
   refine idx_g rfl ?_; go_wp2_with ((go_at_call 41; (try clear hnew); refine (rroot_any (n - k) (ls.drop k) A36 c36 _ (by rw [← H2.out]; exact hst.old (by decide) hs36) (by omega)).mono ?_; rintro e Wk8 ⟨rfl, hnew⟩; replace hst := hst.keep hnew)); refine ⟨by (exact hnew.below), ?_⟩
   refine idx_g rfl ?_; go_wp2_with ((refine L_buildS (d := some 38) rfl rfl rfl [_] (bs_1 (ev_tmp rfl)) rfl Tryz.underlying44 el_api_Digest rfl (by (simp [Value.cells, Dig.size]; done)) (by decide) (by decide) ?_; (try clear hnew); intro g38 W38 hnew; replace hst := hst.trans hnew; simp only [List.cons_append, List.nil_append] at hst; simp only [List.flatMap_cons, List.flatMap_nil, List.append_nil, Value.cells, List.toList_toArray] at hst)); refine ⟨by (exact hnew.below), ?_⟩
   refine idx_e rfl ?_; go_wp2_with ((refine L_appendO (d := some 39) rfl rfl hst rfl (by rfl) (by rfl) Tryz.underlying44 el_api_Digest rfl (by decide) (by decide) 1 rfl (by (rfl)) (by (exact hst.sl 0 rfl)) (by (exact oneCell_bytes)) (by omega) ?_; clear hst; intro A39 c39 W39 hst; simp only [List.set_cons_zero, List.set_cons_succ, List.nil_append, Nat.zero_add] at hst))
   refine idx_g rfl ?_; go_wp2_with fail; refine ⟨by (exact Below.refl _ _), ?_⟩
   refine idx_nil ?_
   go_wp2_with fail
   go_ret
   refine ⟨_, _, rfl, ?_⟩
   rw [HB.out] at hst
   (exact hst.pick [1] (by decide))
  ·have hle := plN_le (n - halfN n) (m - halfN n) false
   rw [plN_right h (by omega) hk]
   have HI := Lib.hid (fun A c w hs => ih (n - halfN n) (by omega) (ls.drop (halfN n)) A c (m - halfN n) false w hs (by omega) (by omega) (by omega))
   have HB := Lib.hid (show digsL (gpN (ls.drop (halfN n)) (m - halfN n) false) ++ (rootN (ls.take (halfN n))).arr.toList = digsL (gpN ls m own) by
    rw [gpN_right (ls := ls) (by omega) (by omega) (by rw [hl]; exact hk), hl, digsL_append, digsL_single, Dig.toList])
   have e1 : (((m - halfN n : Nat)) : Int) = (m : Int) - (halfN n : Int) := by omega
   rw [e1] at HI
   have hk' : ¬ (m : Int) ≤ (halfN n : Int) := by omega
   clear ih hl h e1
   generalize plN (n - halfN n) (m - halfN n) false = r at *
   generalize halfN n = k at *
   go_enter Tryz.func17, Tryz.ntmps17
   go_upto_region 1 with (fail)
   go_upto_region 3 with (((refine L_pickF (d := some 14) rfl rfl rfl (ev_tmp rfl) ev_const ?_)))
   go_upto_region 5 with (fail)
   go_upto_region 6 with ((go_at_call 48; (try clear hnew); refine (HF.out _).mono ?_; rintro e Wk9 ⟨rfl, hnew⟩; replace hst := hst.keep hnew))
   go_upto_region 8 with (fail)
   (try clear hnew)
   refine wp_region_idxT [(0, 0), (1, 0), (2, 0), (3, 0), (4, 0), (5, 0), (7, 0), (8, 0), (9, 0), (6, 2), (10, 2), (11, 2), (12, 1), (13, 2)] (by kernel_rfl) (by kernel_rfl) ?_
   replace hst := hst.drew
   refine idx_q rfl rfl ?_; go_wp2_with fail
   refine idx_q rfl rfl ?_; go_wp2_with fail
   refine idx_q rfl rfl ?_; go_wp2_with (((refine L_cutV (d := some 42) rfl rfl rfl (by rfl) Tryz.underlying44 el_api_Digest (by decide) hx k n _ (Or.inr ⟨_, _, rfl, by (exact ev_tmp rfl)⟩) (Or.inl ⟨rfl, rfl, rfl⟩) (Or.inl ⟨rfl, rfl⟩) (by omega) (by omega) (by omega) (by omega) ?_; intro A42 c42 hs42)))
   refine idx_q rfl rfl ?_; go_wp2_with fail
   refine idx_q rfl rfl ?_; go_wp2_with fail
   refine idx_q rfl rfl ?_; go_wp2_with fail
   refine idx_q rfl rfl ?_; go_wp2_with fail
   refine idx_q rfl rfl ?_; go_wp2_with fail
   refine idx_q rfl rfl ?_; go_wp2_with (((refine L_cutV (d := some 49) rfl rfl rfl (by rfl) Tryz.underlying44 el_api_Digest (by decide) hx 0 k _ (Or.inl ⟨rfl, rfl⟩) (Or.inr ⟨_, _, rfl, by (exact ev_tmp rfl)⟩) (Or.inl ⟨rfl, rfl⟩) (by omega) (by omega) (by omega) (by omega) ?_; intro A49 c49 hs49)))
   refine idx_g rfl ?_; go_wp2_with ((go_at_call 17; (try clear hnew); refine (HI.out A42 c42 _ (by rw [← H2.out]; exact hst.old (by decide) hs42)).mono ?_; rintro e Wk10 ⟨O46, c46, rfl, hnew⟩; replace hst := hst.trans hnew; simp only [List.cons_append, List.nil_append] at hst)); refine ⟨by (exact hnew.below), ?_⟩
   refine idx_g rfl ?_; go_wp2_with ((go_at_call 41; (try clear hnew); refine (rroot_any k (ls.take k) A49 c49 _ (by rw [← H1.out]; exact hst.old (by decide) hs49) (by omega)).mono ?_; rintro e Wk11 ⟨rfl, hnew⟩; replace hst := hst.keep hnew)); refine ⟨by (exact hnew.below), ?_⟩
   refine idx_g rfl ?_; go_wp2_with ((refine L_buildS (d := some 51) rfl rfl rfl [_] (bs_1 (ev_tmp rfl)) rfl Tryz.underlying44 el_api_Digest rfl (by (simp [Value.cells, Dig.size]; done)) (by decide) (by decide) ?_; (try clear hnew); intro g51 W51 hnew; replace hst := hst.trans hnew; simp only [List.cons_append, List.nil_append] at hst; simp only [List.flatMap_cons, List.flatMap_nil, List.append_nil, Value.cells, List.toList_toArray] at hst)); refine ⟨by (exact hnew.below), ?_⟩
   refine idx_e rfl ?_; go_wp2_with ((refine L_appendO (d := some 52) rfl rfl hst rfl (by rfl) (by rfl) Tryz.underlying44 el_api_Digest rfl (by decide) (by decide) 1 rfl (by (rfl)) (by (exact hst.sl 0 rfl)) (by (exact oneCell_bytes)) (by omega) ?_; clear hst; intro A52 c52 W52 hst; simp only [List.set_cons_zero, List.set_cons_succ, List.nil_append, Nat.zero_add] at hst))
   refine idx_g rfl ?_; go_wp2_with fail; refine ⟨by (exact Below.refl _ _), ?_⟩
   refine idx_nil ?_
   go_wp2_with fail
   go_ret
   refine ⟨_, _, rfl, ?_⟩
   rw [HB.out] at hst
   (exact hst.pick [1] (by decide))
theorem two_at (a b : Dig) : Hid (((digsL [a, b]).drop ((0 : Int).toNat * 32)).take 32 = a.arr.toList) ∧ Hid (((digsL [a, b]).drop ((1 : Int).toNat * 32)).take 32 = b.arr.toList) :=
 ⟨Lib.hid (by rw [Dig.toList]; exact digsL_at [a, b] 0 (by decide : 0 < 2)), Lib.hid (by rw [Dig.toList]; exact digsL_at [a, b] 1 (by decide : 1 < 2))⟩
set_option maxHeartbeats 4000000 in
theorem rroots_any : ∀ (n m : Nat) (own : Bool) (old : Dig) (p : List Dig) (A : Option Addr) (k c : Nat) (w : World), SlR w A k c 32 (digsL p) → k = plN n m own → 1 ≤ m → m ≤ n → n ≤ 256 →
  Calls Tryz.prog 130 #[.int .i64 (m : Int), .int .i64 (n : Int), .bool own, old.v, .slice A k c] w fun e w' => ∃ O oc, e = .returned (.slice O 2 oc) ∧ St w w' [.row O 2 oc 32 32 (digsL [(grN n m own old p).1, (grN n m own old p).2])] := by
 intro n
 induction n using Nat.strongRecOn with
 | ind n ih =>
 intro m own old p A k c w hx hk hm1 hmn hn
 have hst := St.refl w
 have hl : p.length = k := by have := hx.1; rw [length_digsL] at this; omega
 have hcap := hx.2.1
 have hmax := hx.2.2.1
 simp only [maxLen] at hmax
 by_cases h : m = n
 ·subst h
  clear ih
  rw [plN_all] at hk
  cases own with
  | true =>
   rw [grN_all]
   simp only [if_true]
   rw [digsL_two]
   go_enter Tryz.func130, Tryz.ntmps130
   go_upto_region 1 with ((refine L_boxA (d := some 8) rfl rfl rfl (ev_tmp rfl) ?_; (try clear hnew); intro g8 W8 hnew; replace hst := hst.trans hnew; simp only [List.cons_append, List.nil_append] at hst))
   go_upto_region 2 with (((refine L_pickT (d := some 21) rfl rfl rfl (ev_tmp rfl) (ev_tmp rfl) ?_)))
   go_wp2_with (first | ((refine L_loadA (d := some 22) rfl rfl rfl (by rfl) Tryz.underlying32 rfl el_api_Digest (by (exact hst.get 0 rfl)) (by (exact Dig.size _)) ?_)) | ((refine L_loadA (d := some 23) rfl rfl rfl (by rfl) Tryz.underlying32 rfl el_api_Digest (by (exact hst.get 0 rfl)) (by (exact Dig.size _)) ?_)) | (refine L_buildS (d := some 24) rfl rfl rfl [_, _] (bs_2 (ev_tmp rfl) (ev_tmp rfl)) rfl Tryz.underlying44 el_api_Digest rfl (by (simp [Value.cells, Dig.size]; done)) (by decide) (by decide) ?_; (try clear hnew); intro g24 W24 hnew; replace hst := hst.trans hnew; simp only [List.cons_append, List.nil_append] at hst; simp only [List.flatMap_cons, List.flatMap_nil, List.append_nil, Value.cells, List.toList_toArray] at hst))
   go_ret
   exact ⟨_, _, rfl, hst.pick [0] (by decide)⟩
  | false =>
   simp only [Bool.false_eq_true, if_false] at hk
   subst hk
   obtain ⟨q, d, rfl, hq, hp, hc⟩ := path_last p 0 hl
   obtain rfl : q = [] := List.eq_nil_of_length_eq_zero hq
   rw [List.nil_append] at *
   have HP := Lib.hid (show ((digsL [d]).drop ((0 : Int).toNat * 32)).take 32 = d.arr.toList from hp)
   have HG := Lib.hid (show grN m m false old [d] = (d, d) by rw [grN_all]; rfl)
   rw [HG.out, digsL_two]
   clear hp hc hq hl HG
   generalize digsL [d] = lx at *
   go_enter Tryz.func130, Tryz.ntmps130
   go_upto_region 1 with ((refine L_boxA (d := some 8) rfl rfl rfl (ev_tmp rfl) ?_; (try clear hnew); intro g8 W8 hnew; replace hst := hst.trans hnew; simp only [List.cons_append, List.nil_append] at hst))
   go_upto_region 3 with (((refine L_pickT (d := some 21) rfl rfl rfl (ev_tmp rfl) (ev_tmp rfl) ?_)))
   go_upto_region 4 with (first | (refine L_loadM (d := some 30) rfl rfl rfl (by rfl) Tryz.underlying32 rfl el_api_Digest (cs := d.arr) (by rw [← HP.out]; exact hr29) (Dig.size _) ?_) | (refine L_idxS (d := some 29) rfl rfl rfl (by rfl) (by rfl) Tryz.underlying44 el_api_Digest (by (exact hst.old (by decide) hx)) (by omega) (by omega) ?_; intro o29 p29 ha29 hr29; ((subst ha29))) | (refine L_allocA (d := some 11) rfl rfl rfl el_api_Digest ?_; (try clear hnew); intro g11 W11 hnew; replace hst := hst.trans hnew; simp only [List.cons_append, List.nil_append] at hst) | (refine wpl_at (.store 32 (.tmp 11) (.tmp 30)) rfl ?_; (refine L_storeA rfl rfl hst rfl (by rfl) (ev_tmp rfl) (by (exact Dig.one _)) el_api_Digest (by (exact Dig.size _)) 0 rfl (by (rfl)) ?_; clear hst; intro WS7 hst; simp only [List.set_cons_zero, List.set_cons_succ] at hst)))
   go_upto_region 5 with (((refine L_cutV (d := some 35) rfl rfl rfl (by rfl) Tryz.underlying44 el_api_Digest (by decide) hx 0 0 _ (Or.inl ⟨rfl, rfl⟩) (Or.inr ⟨_, _, rfl, by (exact ev_tmp rfl)⟩) (Or.inl ⟨rfl, rfl⟩) (by omega) (by omega) (by omega) (by omega) ?_; intro A35 c35 hs35)))
   go_upto_region 6 with (fail)
   go_wp2_with (first | ((refine L_loadA (d := some 39) rfl rfl rfl (by rfl) Tryz.underlying32 rfl el_api_Digest (by (exact hst.get 0 rfl)) (by (exact Dig.size _)) ?_)) | ((refine L_loadA (d := some 40) rfl rfl rfl (by rfl) Tryz.underlying32 rfl el_api_Digest (by (exact hst.get 0 rfl)) (by (exact Dig.size _)) ?_)) | (refine L_buildS (d := some 41) rfl rfl rfl [_, _] (bs_2 (ev_tmp rfl) (ev_tmp rfl)) rfl Tryz.underlying44 el_api_Digest rfl (by (simp [Value.cells, Dig.size]; done)) (by decide) (by decide) ?_; (try clear hnew); intro g41 W41 hnew; replace hst := hst.trans hnew; simp only [List.cons_append, List.nil_append] at hst; simp only [List.flatMap_cons, List.flatMap_nil, List.append_nil, Value.cells, List.toList_toArray] at hst))
   go_ret
   exact ⟨_, _, rfl, hst.pick [0] (by decide)⟩
 ·have hlt := halfN_lt n (by omega)
  have hps := halfN_pos n
  have h' : ((m : Int) == (n : Int)) = false := by rw [beq_eq_false_iff_ne]; omega
  have HF := Lib.hid (fun w => rhalf_any n (by omega) (by omega) w)
  by_cases hk2 : m ≤ halfN n
  ·rw [plN_left h (by omega) hk2] at hk
   have hk' : (m : Int) ≤ (halfN n : Int) := by omega
   obtain ⟨r, hr'⟩ : ∃ r, r = plN (halfN n) m own := ⟨_, rfl⟩
   rw [← hr'] at hk
   subst hk
   obtain ⟨q, d, rfl, hq, hp, hc⟩ := path_last p r hl
   rw [grN_left h (by omega) hk2]
   have HP := Lib.hid (show ((digsL (q ++ [d])).drop ((r : Int).toNat * 32)).take 32 = d.arr.toList from hp)
   have HC := Lib.hid hc
   have HI := Lib.hid (fun A c w hs => ih (halfN n) hlt m own old q A r c w hs hr' hm1 hk2 (by omega))
   have H2 := two_at (grN (halfN n) m own old q).1 (grN (halfN n) m own old q).2
   clear hp hc hq hl ih hr' h
   generalize (grN (halfN n) m own old q).1 = x at *
   generalize (grN (halfN n) m own old q).2 = y at *
   generalize halfN n = hf at *
   obtain ⟨HX, HY⟩ := H2
   rw [digsL_two x (nodeN y d)]
   generalize digsL [x, y] = lxy at *
   generalize digsL (q ++ [d]) = lx at *
   go_enter Tryz.func130, Tryz.ntmps130
   go_upto_region 1 with ((refine L_boxA (d := some 8) rfl rfl rfl (ev_tmp rfl) ?_; (try clear hnew); intro g8 W8 hnew; replace hst := hst.trans hnew; simp only [List.cons_append, List.nil_append] at hst))
   go_upto_region 3 with (((refine L_pickF (d := some 21) rfl rfl rfl (ev_tmp rfl) ev_const ?_)))
   go_upto_region 4 with (first | (refine L_loadM (d := some 30) rfl rfl rfl (by rfl) Tryz.underlying32 rfl el_api_Digest (cs := d.arr) (by rw [← HP.out]; exact hr29) (Dig.size _) ?_) | (refine L_idxS (d := some 29) rfl rfl rfl (by rfl) (by rfl) Tryz.underlying44 el_api_Digest (by (exact hst.old (by decide) hx)) (by omega) (by omega) ?_; intro o29 p29 ha29 hr29; ((subst ha29))) | (refine L_allocA (d := some 11) rfl rfl rfl el_api_Digest ?_; (try clear hnew); intro g11 W11 hnew; replace hst := hst.trans hnew; simp only [List.cons_append, List.nil_append] at hst) | (refine wpl_at (.store 32 (.tmp 11) (.tmp 30)) rfl ?_; (refine L_storeA rfl rfl hst rfl (by rfl) (ev_tmp rfl) (by (exact Dig.one _)) el_api_Digest (by (exact Dig.size _)) 0 rfl (by (rfl)) ?_; clear hst; intro WS7 hst; simp only [List.set_cons_zero, List.set_cons_succ] at hst)))
   go_upto_region 5 with (((refine L_cutV (d := some 35) rfl rfl rfl (by rfl) Tryz.underlying44 el_api_Digest (by decide) hx 0 r _ (Or.inl ⟨rfl, rfl⟩) (Or.inr ⟨_, _, rfl, by (exact ev_tmp rfl)⟩) (Or.inl ⟨rfl, rfl⟩) (by omega) (by omega) (by omega) (by omega) ?_; intro A35 c35 hs35)))
   go_upto_region 7 with (fail)
   go_upto_region 8 with ((go_at_call 48; (try clear hnew); refine (HF.out _).mono ?_; rintro e Wk12 ⟨rfl, hnew⟩; replace hst := hst.keep hnew))
   go_upto_region 9 with (fail)
   go_upto_region 10 with (first | (go_at_call 130; (try clear hnew); refine (HI.out A35 c35 _ (by rw [← HC.out]; exact hst.old (by decide) hs35)).mono ?_; rintro e Wk13 ⟨O52, c52, rfl, hnew⟩; replace hst := hst.trans hnew; simp only [List.cons_append, List.nil_append] at hst) | ((refine L_loadA (d := some 50) rfl rfl rfl (by rfl) Tryz.underlying32 rfl el_api_Digest (by (exact hst.get 1 rfl)) (by (exact Dig.size _)) ?_)))
   (try clear hnew)
   refine wp_region_idx [(0, 0), (1, 0), (2, 0), (3, 0), (4, 0), (5, 0), (6, 2), (7, 2), (8, 2), (9, 2)] (by kernel_rfl) (by kernel_rfl) ?_
   replace hst := hst.drew
   refine idx_q rfl rfl ?_; go_wp2_with fail
   refine idx_q rfl rfl ?_; go_wp2_with ((refine L_idxS (d := some 54) rfl rfl rfl (by rfl) (by rfl) Tryz.underlying44 el_api_Digest (by (exact hst.sl 0 rfl)) (by omega) (by omega) ?_; intro o54 p54 ha54 hr54; ((subst ha54))))
   refine idx_q rfl rfl ?_; go_wp2_with ((refine L_loadM (d := some 55) rfl rfl rfl (by rfl) Tryz.underlying32 rfl el_api_Digest (cs := x.arr) (by rw [← HX.out]; exact hr54) (Dig.size _) ?_))
   refine idx_q rfl rfl ?_; go_wp2_with fail
   refine idx_q rfl rfl ?_; go_wp2_with ((refine L_idxS (d := some 57) rfl rfl rfl (by rfl) (by rfl) Tryz.underlying44 el_api_Digest (by (exact hst.sl 0 rfl)) (by omega) (by omega) ?_; intro o57 p57 ha57 hr57; ((obtain ⟨h1, h2⟩ := some_addr ha57; subst h1; subst h2; clear ha57))))
   refine idx_q rfl rfl ?_; go_wp2_with ((refine L_loadM (d := some 58) rfl rfl rfl (by rfl) Tryz.underlying32 rfl el_api_Digest (cs := y.arr) (by rw [← HY.out]; exact hr57) (Dig.size _) ?_))
   refine idx_g rfl ?_; go_wp2_with (((refine L_loadA (d := some 59) rfl rfl rfl (by rfl) Tryz.underlying32 rfl el_api_Digest (by (exact hst.get 1 rfl)) (by (exact Dig.size _)) ?_))); refine ⟨by (exact Below.refl _ _), ?_⟩
   refine idx_g rfl ?_; go_wp2_with ((go_at_call 86; (try clear hnew); with_reducible refine (rnode_any _ _ _).mono ?_; rintro e Wk14 ⟨rfl, hnew⟩; replace hst := hst.keep hnew)); refine ⟨by (exact hnew.below), ?_⟩
   refine idx_g rfl ?_; go_wp2_with ((refine L_buildS (d := some 61) rfl rfl rfl [_, _] (bs_2 (ev_tmp rfl) (ev_tmp rfl)) rfl Tryz.underlying44 el_api_Digest rfl (by (simp [Value.cells, Dig.size]; done)) (by decide) (by decide) ?_; (try clear hnew); intro g61 W61 hnew; replace hst := hst.trans hnew; simp only [List.cons_append, List.nil_append] at hst; simp only [List.flatMap_cons, List.flatMap_nil, List.append_nil, Value.cells, List.toList_toArray] at hst)); refine ⟨by (exact hnew.below), ?_⟩
   refine idx_g rfl ?_; go_wp2_with fail; refine ⟨by (exact Below.refl _ _), ?_⟩
   refine idx_nil ?_
   go_wp2_with fail
   go_ret
   exact ⟨_, _, rfl, hst.pick [0] (by decide)⟩
  ·rw [plN_right h (by omega) hk2] at hk
   have hk' : ¬ (m : Int) ≤ (halfN n : Int) := by omega
   obtain ⟨r, hr'⟩ : ∃ r, r = plN (n - halfN n) (m - halfN n) false := ⟨_, rfl⟩
   rw [← hr'] at hk
   subst hk
   obtain ⟨q, d, rfl, hq, hp, hc⟩ := path_last p r hl
   rw [grN_right h (by omega) hk2]
   have HP := Lib.hid (show ((digsL (q ++ [d])).drop ((r : Int).toNat * 32)).take 32 = d.arr.toList from hp)
   have HC := Lib.hid hc
   have HI := Lib.hid (fun A c w hs => ih (n - halfN n) (by omega) (m - halfN n) false old q A r c w hs hr' (by omega) (by omega) (by omega))
   have e1 : (((m - halfN n : Nat)) : Int) = (m : Int) - (halfN n : Int) := by omega
   have e2 : (((n - halfN n : Nat)) : Int) = (n : Int) - (halfN n : Int) := by omega
   rw [e1, e2] at HI
   have H2 := two_at (grN (n - halfN n) (m - halfN n) false old q).1 (grN (n - halfN n) (m - halfN n) false old q).2
   clear hp hc hq hl ih hr' h e1 e2
   generalize (grN (n - halfN n) (m - halfN n) false old q).1 = x at *
   generalize (grN (n - halfN n) (m - halfN n) false old q).2 = y at *
   generalize halfN n = hf at *
   obtain ⟨HX, HY⟩ := H2
   rw [digsL_two (nodeN d x) (nodeN d y)]
   generalize digsL [x, y] = lxy at *
   generalize digsL (q ++ [d]) = lx at *
   go_enter Tryz.func130, Tryz.ntmps130
   go_upto_region 1 with ((refine L_boxA (d := some 8) rfl rfl rfl (ev_tmp rfl) ?_; (try clear hnew); intro g8 W8 hnew; replace hst := hst.trans hnew; simp only [List.cons_append, List.nil_append] at hst))
   go_upto_region 3 with (((refine L_pickF (d := some 21) rfl rfl rfl (ev_tmp rfl) ev_const ?_)))
   go_upto_region 4 with (first | (refine L_loadM (d := some 30) rfl rfl rfl (by rfl) Tryz.underlying32 rfl el_api_Digest (cs := d.arr) (by rw [← HP.out]; exact hr29) (Dig.size _) ?_) | (refine L_idxS (d := some 29) rfl rfl rfl (by rfl) (by rfl) Tryz.underlying44 el_api_Digest (by (exact hst.old (by decide) hx)) (by omega) (by omega) ?_; intro o29 p29 ha29 hr29; ((subst ha29))) | (refine L_allocA (d := some 11) rfl rfl rfl el_api_Digest ?_; (try clear hnew); intro g11 W11 hnew; replace hst := hst.trans hnew; simp only [List.cons_append, List.nil_append] at hst) | (refine wpl_at (.store 32 (.tmp 11) (.tmp 30)) rfl ?_; (refine L_storeA rfl rfl hst rfl (by rfl) (ev_tmp rfl) (by (exact Dig.one _)) el_api_Digest (by (exact Dig.size _)) 0 rfl (by (rfl)) ?_; clear hst; intro WS7 hst; simp only [List.set_cons_zero, List.set_cons_succ] at hst)))
   go_upto_region 5 with (((refine L_cutV (d := some 35) rfl rfl rfl (by rfl) Tryz.underlying44 el_api_Digest (by decide) hx 0 r _ (Or.inl ⟨rfl, rfl⟩) (Or.inr ⟨_, _, rfl, by (exact ev_tmp rfl)⟩) (Or.inl ⟨rfl, rfl⟩) (by omega) (by omega) (by omega) (by omega) ?_; intro A35 c35 hs35)))
   go_upto_region 7 with (fail)
   go_upto_region 8 with ((go_at_call 48; (try clear hnew); refine (HF.out _).mono ?_; rintro e Wk15 ⟨rfl, hnew⟩; replace hst := hst.keep hnew))
   go_upto_region 11 with (fail)
   go_upto_region 12 with (first | (go_at_call 130; (try clear hnew); refine (HI.out A35 c35 _ (by rw [← HC.out]; exact hst.old (by decide) hs35)).mono ?_; rintro e Wk16 ⟨O70, c70, rfl, hnew⟩; replace hst := hst.trans hnew; simp only [List.cons_append, List.nil_append] at hst) | ((refine L_loadA (d := some 68) rfl rfl rfl (by rfl) Tryz.underlying32 rfl el_api_Digest (by (exact hst.get 1 rfl)) (by (exact Dig.size _)) ?_)))
   (try clear hnew)
   refine wp_region_idx [(0, 0), (1, 0), (2, 0), (3, 0), (5, 0), (6, 0), (7, 0), (8, 0), (4, 2), (9, 2), (10, 2), (11, 2)] (by kernel_rfl) (by kernel_rfl) ?_
   replace hst := hst.drew
   refine idx_q rfl rfl ?_; go_wp2_with (((refine L_loadA (d := some 71) rfl rfl rfl (by rfl) Tryz.underlying32 rfl el_api_Digest (by (exact hst.get 1 rfl)) (by (exact Dig.size _)) ?_)))
   refine idx_q rfl rfl ?_; go_wp2_with fail
   refine idx_q rfl rfl ?_; go_wp2_with ((refine L_idxS (d := some 73) rfl rfl rfl (by rfl) (by rfl) Tryz.underlying44 el_api_Digest (by (exact hst.sl 0 rfl)) (by omega) (by omega) ?_; intro o73 p73 ha73 hr73; ((subst ha73))))
   refine idx_q rfl rfl ?_; go_wp2_with ((refine L_loadM (d := some 74) rfl rfl rfl (by rfl) Tryz.underlying32 rfl el_api_Digest (cs := x.arr) (by rw [← HX.out]; exact hr73) (Dig.size _) ?_))
   refine idx_q rfl rfl ?_; go_wp2_with (((refine L_loadA (d := some 76) rfl rfl rfl (by rfl) Tryz.underlying32 rfl el_api_Digest (by (exact hst.get 1 rfl)) (by (exact Dig.size _)) ?_)))
   refine idx_q rfl rfl ?_; go_wp2_with fail
   refine idx_q rfl rfl ?_; go_wp2_with ((refine L_idxS (d := some 78) rfl rfl rfl (by rfl) (by rfl) Tryz.underlying44 el_api_Digest (by (exact hst.sl 0 rfl)) (by omega) (by omega) ?_; intro o78 p78 ha78 hr78; ((obtain ⟨h1, h2⟩ := some_addr ha78; subst h1; subst h2; clear ha78))))
   refine idx_q rfl rfl ?_; go_wp2_with ((refine L_loadM (d := some 79) rfl rfl rfl (by rfl) Tryz.underlying32 rfl el_api_Digest (cs := y.arr) (by rw [← HY.out]; exact hr78) (Dig.size _) ?_))
   refine idx_g rfl ?_; go_wp2_with ((go_at_call 86; (try clear hnew); with_reducible refine (rnode_any _ _ _).mono ?_; rintro e Wk17 ⟨rfl, hnew⟩; replace hst := hst.keep hnew)); refine ⟨by (exact hnew.below), ?_⟩
   refine idx_g rfl ?_; go_wp2_with ((go_at_call 86; (try clear hnew); with_reducible refine (rnode_any _ _ _).mono ?_; rintro e Wk17 ⟨rfl, hnew⟩; replace hst := hst.keep hnew)); refine ⟨by (exact hnew.below), ?_⟩
   refine idx_g rfl ?_; go_wp2_with ((refine L_buildS (d := some 81) rfl rfl rfl [_, _] (bs_2 (ev_tmp rfl) (ev_tmp rfl)) rfl Tryz.underlying44 el_api_Digest rfl (by (simp [Value.cells, Dig.size]; done)) (by decide) (by decide) ?_; (try clear hnew); intro g81 W81 hnew; replace hst := hst.trans hnew; simp only [List.cons_append, List.nil_append] at hst; simp only [List.flatMap_cons, List.flatMap_nil, List.append_nil, Value.cells, List.toList_toArray] at hst)); refine ⟨by (exact hnew.below), ?_⟩
   refine idx_g rfl ?_; go_wp2_with fail; refine ⟨by (exact Below.refl _ _), ?_⟩
   refine idx_nil ?_
   go_wp2_with fail
   go_ret
   exact ⟨_, _, rfl, hst.pick [0] (by decide)⟩
end Go.Proofs.YtaebeemnipafbaaGreatDoor

set_option linter.unusedSimpArgs false
set_option linter.unusedVariables false
namespace Go.Proofs.YtaebeemnipafbaaGreatDoor
open Go.RowKit
set_option maxHeartbeats 8000000 in
set_option maxRecDepth 100000 in
theorem sameF_eq (s : List UInt8) (k : Dig) (t i : Int) (ps qs : List Dig) (A B C D : Option Addr) (n ca cb p cc cd : Nat) (w : World) (h1 : SlR w A n ca 32 (digsL ps)) (h2 : SlR w B n cb 32 (digsL ps)) (h3 : SlR w C p cc 32 (digsL qs)) (h4 : SlR w D p cd 32 (digsL qs)) :
  Calls Tryz.prog 16 #[.agg (fdArr s k t i A n ca C p cc), .agg (fdArr s k t i B n cb D p cd)] w fun e w' => e = .returned (.bool true) ∧ St w w' [] := by
 have hst := St.refl w
 have H1 := Lib.hid h1
 have H2 := Lib.hid h2
 have H3 := Lib.hid h3
 have H4 := Lib.hid h4
 have HS1 := Lib.hid (fun (w' : World) h h' => by
  have := sameD_any ps ps A B n ca n cb w' h h'
  rw [decide_eq_true rfl] at this
  exact this)
 have HS2 := Lib.hid (fun (w' : World) h h' => by
  have := sameD_any qs qs C D p cc p cd w' h h'
  rw [decide_eq_true rfl] at this
  exact this)
 have HEq := Lib.hid (fun w => show (Op.equalIn 10000 34 (.agg (ntArr s k t)) (.agg (ntArr s k t))).run Tryz.prog w = .ok true w by rw [eqNote]; simp)
 have hii : (i == i) = true := by simp
 clear h1 h2 h3 h4
 go_enter Tryz.func16, Tryz.ntmps16
 go_upto_region 1 with (go_big_may; first | (refine L_boxA (d := some 2) rfl rfl rfl (ev_tmp rfl) ?_; (try clear hnew); intro g2 W2 hnew; replace hst := hst.trans hnew; simp only [List.cons_append, List.nil_append] at hst) | (refine L_boxA (d := some 3) rfl rfl rfl (ev_tmp rfl) ?_; (try clear hnew); intro g3 W3 hnew; replace hst := hst.trans hnew; simp only [List.cons_append, List.nil_append] at hst))
 go_upto_region 2 with (go_big_may; first | (go_at_call 20; (try clear hnew); refine (HS1.out _ (hst.old (by decide) H1.out) (hst.old (by decide) H2.out)).mono ?_; rintro e Wz ⟨rfl, hnew⟩; replace hst := hst.keep hnew) | (refine L_load1 (d := some 8) rfl rfl rfl (by rfl) Tryz.underlying44 rfl (by (exact cell_of (hst.get 1 rfl) fdArr_35)) ?_) | (refine L_load1 (d := some 10) rfl rfl rfl (by rfl) Tryz.underlying44 rfl (by (exact cell_of (hst.get 0 rfl) fdArr_35)) ?_))
 (try clear hnew)
 go_upto_region 3 with (go_big_may; first | (go_at_call 20; (try clear hnew); refine (HS2.out _ (hst.old (by decide) H3.out) (hst.old (by decide) H4.out)).mono ?_; rintro e Wz ⟨rfl, hnew⟩; replace hst := hst.keep hnew) | (refine L_load1 (d := some 13) rfl rfl rfl (by rfl) Tryz.underlying44 rfl (by (exact cell_of (hst.get 1 rfl) fdArr_36)) ?_) | (refine L_load1 (d := some 15) rfl rfl rfl (by rfl) Tryz.underlying44 rfl (by (exact cell_of (hst.get 0 rfl) fdArr_36)) ?_))
 (try clear hnew)
 go_wp2_with (first | (refine L_eqA (d := some 26) rfl rfl rfl eqG_Note (ev_tmp rfl) (ev_tmp rfl) (HEq.out _) ?_) | ((refine L_loadM (d := some 23) rfl rfl rfl (by rfl) Tryz.underlying34 rfl el_api_Note (by (exact fdArr_note (hst.get 1 rfl))) (by (exact ntArr_size _ _ _)) ?_)) | ((refine L_loadM (d := some 25) rfl rfl rfl (by rfl) Tryz.underlying34 rfl el_api_Note (by (exact fdArr_note (hst.get 0 rfl))) (by (exact ntArr_size _ _ _)) ?_)) | (refine L_load1 (d := some 30) rfl rfl rfl (by rfl) Tryz.underlying3 rfl (by (exact cell_of (hst.get 1 rfl) fdArr_34)) ?_) | (refine L_load1 (d := some 32) rfl rfl rfl (by rfl) Tryz.underlying3 rfl (by (exact cell_of (hst.get 0 rfl) fdArr_34)) ?_))
 go_ret
 exact ⟨rfl, hst.forget⟩
end Go.Proofs.YtaebeemnipafbaaGreatDoor

set_option maxRecDepth 20000
set_option linter.unusedSimpArgs false
set_option linter.unusedVariables false
namespace Go.Proofs.YtaebeemnipafbaaGreatDoor
open Go.RowKit
theorem el_api_Errno : ElemIs Tryz.prog 28 (.int .i64 0) 1 8 := by unfold ElemIs; kernel_rfl
theorem as_any (k : Int) (g : Nat) (old : Value) (w0 w : World) (L : List Res) (hE : Eb w0) (hst : St w0 w (.blk g 28 #[old] :: L)) :
  Calls Tryz.prog 75 #[.iface 28 (.int .i64 k), .iface 137 (.pointer (some ⟨g, 0, none⟩))] w fun e w' => e = .returned (.bool true) ∧ St w0 w' (.blk g 28 #[.int .i64 k] :: L) := by
 have hc := hst.get 0 rfl
 refine (as_hit k ⟨g, 0, none⟩ old w (hE.of hst) (cell_of hc rfl) (by simp [World.frozen?, hc])).mono ?_
 rintro e w' ⟨rfl, rfl⟩
 refine ⟨rfl, ?_⟩
 exact (((((hst.alloc _ _).alloc _ _).alloc _ _).alloc _ _).setCell 4 rfl 0 (.int .i64 k)).tailN 4
set_option maxHeartbeats 1000000 in
theorem told_any (k : Nat) (w : World) (hE : Eb w) : Calls Tryz.prog 37 #[errV k] w fun e w' => e = .returned (.int .i64 (k : Int)) ∧ St w w' [] := by
 have hst := St.refl w
 have HE := Lib.hid hE
 clear hE
 unfold errV
 go_enter Tryz.func37, Tryz.ntmps37
 go_upto_region 1 with (fail)
 go_upto_region 3 with (fail)
 go_upto_region 4 with ((refine L_alloc1 (d := some 3) rfl rfl rfl el_api_Errno rfl ?_; (try clear hnew); intro g3 W3 hnew; replace hst := hst.trans hnew; simp only [List.cons_append, List.nil_append] at hst))
 go_upto_region 5 with ((go_at_call 75; (try clear hnew); refine (as_any (k : Int) g3 (.int .i64 0) w _ [] HE.out hst).mono ?_; rintro e Wa ⟨rfl, hst'⟩; clear hst; have hst := hst'; clear hst'))
 go_wp2_with ((refine L_load1 (d := some 9) rfl rfl rfl (by rfl) Tryz.underlying28 rfl (by (exact cell_of (hst.get 0 rfl) rfl)) ?_))
 go_ret
 exact ⟨rfl, hst.forget⟩
theorem told_nil (w : World) : Calls Tryz.prog 37 #[.nilIface] w fun e w' => e = .returned (.int .i64 0) ∧ St w w' [] := by
 have hst := St.refl w
 go_enter Tryz.func37, Tryz.ntmps37
 go_wp2_with (fail)
 go_ret
 exact ⟨rfl, hst.forget⟩
theorem sError_any (k : Nat) (w : World) (hE : Eb w) : Calls Tryz.prog 11 #[errV k, .int .i64 (k : Int)] w fun e w' => e = .returned (.bool true) ∧ St w w' [] := by
 have hst := St.refl w
 have HE := Lib.hid hE
 clear hE
 go_enter Tryz.func11, Tryz.ntmps11
 go_wp2_with ((go_at_call 37; (try clear hnew); refine (told_any k _ (HE.out.of hst)).mono ?_; rintro e Wk1 ⟨rfl, hnew⟩; replace hst := hst.keep hnew))
 go_ret
 exact ⟨rfl, hst⟩
theorem sError_nil (w : World) : Calls Tryz.prog 11 #[.nilIface, .int .i64 0] w fun e w' => e = .returned (.bool true) ∧ St w w' [] := by
 have hst := St.refl w
 go_enter Tryz.func11, Tryz.ntmps11
 go_wp2_with ((go_at_call 37; (try clear hnew); refine (told_nil _).mono ?_; rintro e Wk2 ⟨rfl, hnew⟩; replace hst := hst.keep hnew))
 go_ret
 exact ⟨rfl, hst⟩
end Go.Proofs.YtaebeemnipafbaaGreatDoor

set_option maxRecDepth 20000
set_option linter.unusedSimpArgs false
set_option linter.unusedVariables false
namespace Go.Proofs.YtaebeemnipafbaaGreatDoor
open Go.RowKit
attribute [local simp] hdArr_size ntArr_size
theorem sErrA_any (r : Nat) (w : World) (hE : Eb w) : Calls Tryz.prog 11 #[errO r, .int .i64 (r : Int)] w fun e w' => e = .returned (.bool true) ∧ St w w' [] := by
 by_cases h : r = 0
 ·subst h; exact sError_nil w
 ·rw [show errO r = errV r from if_neg h]; exact sError_any r w hE
theorem bangA : (!true) = false := rfl
def AddInv (m gl i : Nat) (N : List NoteN) (p : LgP) : Prop := N.length ≤ i ∧ Logged N ∧ MapsOf N p.nm p.am ∧ p.g = gl ∧ p.m = m
set_option maxHeartbeats 40000000 in
set_option maxRecDepth 100000 in
theorem logAdds_any (w : World) (hT : Tb w) (hE : Eb w) (key : List UInt8) (K : Option Addr) (m mc : Nat) (hk : SlR w K m mc 1 (bytesL key)) (hm0 : m * 1 ≤ 140737488351232) (ns : List NoteN) (A : Option Addr) (n nc : Nat) (hx : SlR w A n nc 34 (notesL ns)) (hnz : ∀ q ∈ ns, q.name.length ≤ 9223372036854775807)
  (s : List UInt8) (hsz : s.length ≤ 140737488351232) (v : Int) (hv1 : -9223372036854775808 ≤ v) (hv2 : v ≤ 9223372036854775807) :
  Calls Tryz.prog 3 #[.slice K m mc, .slice A n nc, .string (bsOf s), .int .i64 v] w fun e w' => e = .returned (.bool true) ∧ St w w' [] := by
 have hst := St.refl w
 have HT := Lib.hid hT
 have HEb := Lib.hid hE
 have hl : ns.length = n := by have := hx.1; rw [length_notesL] at this; omega
 have HX := Lib.hid hx
 have HK := Lib.hid hk
 have HL := Lib.hid hl
 have HNz := Lib.hid hnz
 have HG := Lib.hid (fun w' (h : SlR w' K m mc 1 (bytesL key)) => lnew_any key K m mc w' h (by omega))
 have hm : m ≤ 140737488351232 := by omega
 clear hT hE hx hl hm0 hk hnz
 go_enter Tryz.func3, Tryz.ntmps3
 by_cases h40 : 40 < (n : Int)
 ·skip
  go_upto_region 1 with (go_big_may; fail)
  go_upto_region 2 with (go_big_may; fail)
  go_wp2_with (fail)
  go_ret
  exact ⟨rfl, hst.forget⟩
 go_upto_region 1 with (go_big_may; fail)
 go_upto_region 3 with (go_big_may; fail)
 go_upto_region 4 with (go_big_may; (go_at_call 8; refine (HG.out _ (hst.old (by decide) HK.out)).mono ?_; rintro e Wl ⟨p, rfl, hpm, hmp, hnew⟩; replace hst := hst.trans hnew; clear hnew))
 go_upto_region 6 with (go_big_may; fail)
 go_upto_region 7 with (go_big_may; first | (refine L_buildQ0 (d := some 34) rfl rfl rfl (ev_tmp rfl) ?_) | (refine L_allocA (d := some 10) rfl rfl rfl el_oathbookref3_Log ?_; (try clear hnew); intro g10 W10 hnew; replace hst := hst.trans hnew; simp only [List.cons_append, List.nil_append] at hst) | (refine wpl_at (.store 27 (.tmp 10) (.tmp 34)) rfl ?_; (refine L_storeA rfl rfl hst rfl (by rfl) (ev_tmp rfl) (by (exact qlArr_all _ _ _ _ _ _)) el_oathbookref3_Log (by (rfl)) 0 rfl (by (rfl)) ?_; clear hst; intro WS3 hst; simp only [List.set_cons_zero, List.set_cons_succ] at hst)))
 go_wp2_with (fail)
 clear HG
 have h40' : n ≤ 40 := by omega
 clear h40
 obtain ⟨N0, hN0⟩ : ∃ N0 : List NoteN, N0 = [] := ⟨_, rfl⟩
 rewrite [← hN0] at hmp hst
 have hg0 : Logged N0 := by rw [hN0]; exact .nil
 have hl0 : N0.length = 0 := by rw [hN0]; rfl
 have hn0 : notesL N0 = [] := by rw [hN0]; rfl
 have HL0 := Lib.hid hl0
 have HN0 := Lib.hid hn0
 clear hN0 hl0 hn0
 simp only [lgL, List.cons_append, List.nil_append, List.append_nil] at hst
 replace hst := hst.nilRow 34 34
 obtain ⟨gl, hgl⟩ : ∃ g, g = p.g := ⟨_, rfl⟩
 rewrite [← hgl]
 go_loopg [11] n (fun gk s11 wr => ∃ (i : Nat) (N : List NoteN) (q : LgP) (O : Option Addr) (oc : Nat), Hid (gk + i = n) ∧ Hid (AddInv m gl i N q) ∧ s11 = .int .i64 (i : Int) ∧
  St w wr (.blk g10 27 (qlArr K m mc O N.length oc) :: .row O N.length oc 34 34 (notesL N) :: (lgL q key N ++ [])))
 case atStart => exact ⟨0, N0, p, none, 0, Lib.hid rfl, Lib.hid ⟨by have := HL0.out; omega, hg0, hmp, hgl.symm, hpm⟩, rfl, by rw [HL0.out, HN0.out]; exact hst.pick [1, 0, 2, 3, 4, 5, 6] (by decide)⟩
 case round =>
  clear hst hmp hpm hgl hg0 HL0 HN0
  obtain ⟨i, N, q, O, oc, HI, HV, rfl, hst⟩ := hrel
  have hi := HI.out
  obtain ⟨v1, v3, v4, v5, v6⟩ := HV.out
  by_cases hlt : i < n
  ·obtain ⟨g, rfl⟩ : ∃ g, gk = g + 1 := ⟨gk - 1, by omega⟩
   have hil : i < ns.length := by rw [HL.out]; exact hlt
   have hsl := HNz.out ns[i] (List.getElem_mem hil)
   have HC := Lib.hid (fun (W : World) (g off : Nat) h => note_name (W := W) (g := g) (off := off) (i := i) (ns := ns) h hil)
   have HC2 := Lib.hid (fun (W : World) (g off : Nat) h => note_key (W := W) (g := g) (off := off) (i := i) (ns := ns) h hil)
   obtain ⟨t, ht⟩ : ∃ q, q = ns[i].name := ⟨_, rfl⟩
   obtain ⟨k, hkk⟩ : ∃ q, q = ns[i].key := ⟨_, rfl⟩
   rewrite [← ht] at HC hsl
   rewrite [← hkk] at HC2
   clear ht hkk hil
   have HA := Lib.hid (fun (w' : World) (L : List Res) h => addU_any key N t k q w w' L HT.out h v4 v3)
   rewrite [v5, v6] at HA
   have v1' : (addL N t k).length ≤ i + 1 := by have := (length_addL N t k).2; omega
   have v3' := v3.addL t k
   have hn64 : N.length ≤ 40 := by omega
   by_cases h0 : addE N t = 0
   ·simp only [h0, if_true] at HA
    have hN1 : addL N t k = N ++ [newN N t k] := by unfold addL; rw [if_pos h0]
    have HAd := Lib.hid (fun (w' : World) (h : SlR w' O N.length oc 34 (notesL N)) => radded_gen K m mc N t k O N.length oc w' h v3 hsl (fun e w2 => ∃ O2 o2, e = .returned (.tuple #[.agg (qlArr K m mc O2 (N.length + 1) o2), .int .i64 (N.length : Int), .int .i64 0]) ∧ St w' w2 [.row O2 (N.length + 1) o2 34 34 (notesL (N ++ [newN N t k]))])
     (fun _ _ O2 o2 h => ⟨O2, o2, rfl, h⟩) (fun r h hr => absurd (h.symm.trans h0) hr))
    rewrite [← hN1] at HAd
    have hlen : (addL N t k).length = N.length + 1 := by rw [hN1]; simp
    generalize addL N t k = N1 at *
    rewrite [← hlen] at HAd
    clear h0 v1 v3 v4 v5 v6 hi HV hN1 hlen hsl
    go_upto_region 10 with (go_big_may; fail)
    simp only [lgL, List.cons_append, List.nil_append, List.append_nil] at hst
    go_simp
    go_cut [12, 13, 14] (fun s12 s13 s14 wx => ∃ (g12 : Nat) (O1 : Option Addr) (o1 : Nat), s12 = .pointer (some ⟨g12, 0, none⟩) ∧ s13 = .int .i64 (N.length : Int) ∧ s14 = .int .i64 0 ∧ St w wx (.blk g12 27 (qlArr K m mc O1 N1.length o1) :: .blk g10 27 (qlArr K m mc O N.length oc) :: .row O1 N1.length o1 34 34 (notesL N1) :: (lgL q key N ++ [])))
    case first =>
     refine wp_region_pm (.one 1 3 (.one 2 3 (.one 6 3 (.one 7 3 (.one 0 0 (.one 3 0 (.one 4 0 (.one 5 0 (.one 8 0 (.one 9 0 (.one 10 0 (.two 11 2 (.one 12 3 (.one 13 3 (.one 14 3 (.one 15 3 (.one 16 2 (.one 17 1 (.one 18 2 (.one 19 2 .nil)))))))) 16 2 (.one 11 2 (.one 12 2 (.one 13 3 (.one 14 3 (.one 15 3 (.one 17 1 (.one 18 2 (.one 19 2 .nil)))))))))))))))))))) (by kernel_rfl) (by kernel_rfl) ?_
     replace hst := hst.drew
     refine pm_p rfl rfl ?_; go_wp2_with fail
     refine pm_p rfl rfl ?_; go_wp2_with fail
     refine pm_p rfl rfl ?_; go_wp2_with fail
     refine pm_p rfl rfl ?_; go_wp2_with fail
     refine pm_q rfl rfl ?_; go_wp2_with (((refine L_loadA (d := some 42) rfl rfl rfl (by rfl) Tryz.underlying27 rfl el_oathbookref3_Log (by (exact hst.get 0 rfl)) (by (exact qlArr_size _ _ _ _ _ _)) ?_)))
     refine pm_q rfl rfl ?_; go_wp2_with ((refine L_idxS (d := some 45) rfl rfl rfl (by rfl) (by rfl) Tryz.underlying23 el_api_Note (by (exact hst.old (by decide) HX.out)) (by omega) (by omega) ?_; intro o45 p45 ha45 hr45; ((subst ha45))))
     refine pm_qf rfl rfl (by kernel_rfl) ?_; go_wp2_with fail
     refine pm_q rfl rfl ?_; go_wp2_with ((refine L_load1 (d := some 47) rfl rfl rfl (by rfl) Tryz.underlying9 rfl (HC.out _ _ _ hr45) ?_))
     refine pm_q rfl rfl ?_; go_wp2_with ((refine L_idxS (d := some 50) rfl rfl rfl (by rfl) (by rfl) Tryz.underlying23 el_api_Note (by (exact hst.old (by decide) HX.out)) (by omega) (by omega) ?_; intro o50 p50 ha50 hr50; ((obtain ⟨h1, h2⟩ := some_addr ha50; subst h1; subst h2; clear ha50))))
     refine pm_qf rfl rfl (by kernel_rfl) ?_; go_wp2_with fail
     refine pm_q rfl rfl ?_; go_wp2_with ((refine L_loadM (d := some 52) rfl rfl rfl (by rfl) Tryz.underlying32 rfl el_api_Digest (HC2.out _ _ _ hr50) (Dig.size _) ?_))
     refine pm_two (ki := 2) (kj := 2) rfl rfl ?_ ?_
     ·go_wp2_with ((go_at_call 9; (try clear hnew); refine (HAd.out _ (by (exact hst.sl 1 rfl))).mono ?_; rintro e Wd ⟨O1, o1, rfl, hnew⟩; replace hst := hst.trans hnew; simp only [List.cons_append, List.nil_append] at hst)); refine ⟨fun _ => (by (exact hnew.below)), ?_⟩
      refine pm_p rfl rfl ?_; go_wp2_with fail
      refine pm_p rfl rfl ?_; go_wp2_with fail
      refine pm_p rfl rfl ?_; go_wp2_with fail
      refine pm_p rfl rfl ?_; go_wp2_with fail
      refine pm_g rfl ?_; go_wp2_with ((refine L_allocA (d := some 12) rfl rfl rfl el_oathbookref3_Log ?_; (try clear hnew); intro g12 W12 hnew; replace hst := hst.trans hnew; simp only [List.cons_append, List.nil_append] at hst)); refine ⟨by (exact hnew.below), ?_⟩
      refine pm_e rfl ?_; go_wp2_with ((refine wpl_at (.store 27 (.tmp 12) (.tmp 54)) rfl ?_; (refine L_storeA rfl rfl hst rfl (by rfl) (ev_tmp rfl) (by (exact qlArr_all _ _ _ _ _ _)) el_oathbookref3_Log (by (rfl)) 0 rfl (by (rfl)) ?_; clear hst; intro WS17 hst; simp only [List.set_cons_zero, List.set_cons_succ] at hst)))
      refine pm_g rfl ?_; go_wp2_with fail; refine ⟨by (exact Below.refl _ _), ?_⟩
      refine pm_g rfl ?_; go_wp2_with fail; refine ⟨by (exact Below.refl _ _), ?_⟩
      refine pm_nil ?_
      go_wp2_with fail
      go_meet
      case rel => (exact ⟨_, _, _, rfl, rfl, rfl, hst.pick [0, 2, 1, 4, 5, 6, 7, 8] (by decide)⟩)
     ·go_wp2_with ((refine L_allocA (d := some 12) rfl rfl rfl el_oathbookref3_Log ?_; (try clear hnew); intro g12 W12 hnew; replace hst := hst.trans hnew; simp only [List.cons_append, List.nil_append] at hst)); refine ⟨fun _ => (by (exact hnew.below)), ?_⟩
      refine pm_g rfl ?_; go_wp2_with ((go_at_call 9; (try clear hnew); refine (HAd.out _ (by (exact hst.sl 2 rfl))).mono ?_; rintro e Wd ⟨O1, o1, rfl, hnew⟩; replace hst := hst.trans hnew; simp only [List.cons_append, List.nil_append] at hst)); refine ⟨by (exact hnew.below), ?_⟩
      refine pm_g rfl ?_; go_wp2_with fail; refine ⟨by (exact Below.refl _ _), ?_⟩
      refine pm_p rfl rfl ?_; go_wp2_with fail
      refine pm_p rfl rfl ?_; go_wp2_with fail
      refine pm_p rfl rfl ?_; go_wp2_with fail
      refine pm_e rfl ?_; go_wp2_with ((refine wpl_at (.store 27 (.tmp 12) (.tmp 54)) rfl ?_; (refine L_storeA rfl rfl hst rfl (by rfl) (ev_tmp rfl) (by (exact qlArr_all _ _ _ _ _ _)) el_oathbookref3_Log (by (rfl)) 1 rfl (by (rfl)) ?_; clear hst; intro WS17 hst; simp only [List.set_cons_zero, List.set_cons_succ] at hst)))
      refine pm_g rfl ?_; go_wp2_with fail; refine ⟨by (exact Below.refl _ _), ?_⟩
      refine pm_g rfl ?_; go_wp2_with fail; refine ⟨by (exact Below.refl _ _), ?_⟩
      refine pm_nil ?_
      go_wp2_with fail
      go_meet
      case rel => (exact ⟨_, _, _, rfl, rfl, rfl, hst.pick [1, 2, 0, 4, 5, 6, 7, 8] (by decide)⟩)
    case rest =>
     obtain ⟨g12, O1, o1, rfl, rfl, rfl, hst⟩ := hcut
     go_upto_region 12 with (go_big_may; first | ((refine L_loadA (d := some 57) rfl rfl rfl (by rfl) Tryz.underlying27 rfl el_oathbookref3_Log (by (exact hst.get 0 rfl)) (by (exact qlArr_size _ _ _ _ _ _)) ?_)) | (refine wpl_at (.store 27 (.tmp 10) (.tmp 57)) rfl ?_; (refine L_storeA rfl rfl hst rfl (by rfl) (ev_tmp rfl) (by (exact qlArr_all _ _ _ _ _ _)) el_oathbookref3_Log (by (rfl)) 1 rfl (by (rfl)) ?_; clear hst; intro WS1 hst; simp only [List.set_cons_zero, List.set_cons_succ] at hst)))
     replace hst := St.swap (X := [_, _, _]) (Y := lgL q key N) (L := []) hst
     refine wp_region_idxT [(0, 0), (1, 0), (2, 0), (3, 0), (4, 0), (5, 0), (6, 0), (7, 2), (8, 2), (9, 2), (10, 2), (11, 1), (12, 2), (13, 0), (14, 0), (15, 2), (16, 2)] (by kernel_rfl) (by kernel_rfl) ?_
     replace hst := hst.drew
     refine idx_q rfl rfl ?_; go_wp2_with fail
     refine idx_q rfl rfl ?_; go_wp2_with fail
     refine idx_q rfl rfl ?_; go_wp2_with fail
     refine idx_q rfl rfl ?_; go_wp2_with ((refine L_idxS (d := some 62) rfl rfl rfl (by rfl) (by rfl) Tryz.underlying23 el_api_Note (by (exact hst.old (by decide) HX.out)) (by omega) (by omega) ?_; intro o62 p62 ha62 hr62; ((subst ha62))))
     refine idx_qf rfl rfl (by kernel_rfl) ?_; go_wp2_with fail
     refine idx_q rfl rfl ?_; go_wp2_with ((refine L_load1 (d := some 64) rfl rfl rfl (by rfl) Tryz.underlying9 rfl (HC.out _ _ _ hr62) ?_))
     refine idx_q rfl rfl ?_; go_wp2_with fail
     refine idx_g rfl ?_; go_wp2_with fail; refine ⟨by (exact Below.refl _ _), ?_⟩
     refine idx_g rfl ?_; go_wp2_with ((refine L_idxS (d := some 67) rfl rfl rfl (by rfl) (by rfl) Tryz.underlying23 el_api_Note (by (exact hst.old (by decide) HX.out)) (by omega) (by omega) ?_; intro o67 p67 ha67 hr67; ((obtain ⟨h1, h2⟩ := some_addr ha67; subst h1; subst h2; clear ha67)))); refine ⟨by (exact Below.refl _ _), ?_⟩
     refine idx_g rfl ?_; go_wp2_with fail; refine ⟨by (exact Below.refl _ _), ?_⟩
     refine idx_g rfl ?_; go_wp2_with ((refine L_loadM (d := some 69) rfl rfl rfl (by rfl) Tryz.underlying32 rfl el_api_Digest (HC2.out _ _ _ hr67) (Dig.size _) ?_)); refine ⟨by (exact Below.refl _ _), ?_⟩
     refine idx_e rfl ?_; go_wp2_with ((go_at_call 10; refine (HA.out _ _ hst).mono ?_; rintro e Wa ⟨rfl, q1, u1, u2, u3, hst'⟩; clear hst; have hst := hst'; clear hst'))
     refine idx_g rfl ?_; go_wp2_with fail; refine ⟨by (exact Below.refl _ _), ?_⟩
     refine idx_q rfl rfl ?_; go_wp2_with fail
     refine idx_q rfl rfl ?_; go_wp2_with fail
     refine idx_g rfl ?_; go_wp2_with fail; refine ⟨by (exact Below.refl _ _), ?_⟩
     refine idx_g rfl ?_; go_wp2_with fail; refine ⟨by (exact Below.refl _ _), ?_⟩
     refine idx_nil ?_
     replace hst := St.swap (X := lgL q1 key N1) (Y := [_, _, _]) (L := []) hst
     simp only [List.cons_append, List.nil_append] at hst
     go_upto_region 14 with (go_big_may; (go_at_call 11; (try clear hnew); refine (sError_nil _).mono ?_; rintro e Wk1 ⟨rfl, hnew⟩; replace hst := hst.keep hnew))
     go_upto_region 9 with (go_big_may; fail)
     go_wp2_with (fail)
     go_roundg g
     case measure => omega
     case rel => exact ⟨i + 1, N1, q1, O1, o1, Lib.hid (by have := HI.out; omega), Lib.hid ⟨v1', v3', u3, u1, u2⟩, by go_num, hst.tail⟩
   ·have hL1 : addL N t k = N := by unfold addL; rw [if_neg h0]
    rewrite [hL1] at HA v1' v3'
    simp only [h0, if_false] at HA
    have HAd := Lib.hid (fun (w' : World) (h : SlR w' O N.length oc 34 (notesL N)) => radded_gen K m mc N t k O N.length oc w' h v3 hsl (fun e w2 => e = .returned (.tuple #[.agg (qlArr K m mc O N.length oc), .int .i64 0, .int .i64 (addE N t : Int)]) ∧ St w' w2 [])
     (fun h => absurd h h0) (fun r h hr w2 h2 => ⟨by rw [h], h2⟩))
    generalize addE N t = rr at *
    clear h0 hL1 v1 v3 v4 v5 v6 hi HV hsl
    go_upto_region 10 with (go_big_may; fail)
    simp only [lgL, List.cons_append, List.nil_append, List.append_nil] at hst
    go_simp
    go_cut [12, 13, 14] (fun s12 s13 s14 wx => ∃ (g12 : Nat), s12 = .pointer (some ⟨g12, 0, none⟩) ∧ s13 = .int .i64 0 ∧ s14 = .int .i64 (rr : Int) ∧ St w wx (.blk g12 27 (qlArr K m mc O N.length oc) :: .blk g10 27 (qlArr K m mc O N.length oc) :: .row O N.length oc 34 34 (notesL N) :: (lgL q key N ++ [])))
    case first =>
     refine wp_region_pm (.one 1 3 (.one 2 3 (.one 6 3 (.one 7 3 (.one 0 0 (.one 3 0 (.one 4 0 (.one 5 0 (.one 8 0 (.one 9 0 (.one 10 0 (.two 11 2 (.one 12 3 (.one 13 3 (.one 14 3 (.one 15 3 (.one 16 2 (.one 17 1 (.one 18 2 (.one 19 2 .nil)))))))) 16 2 (.one 11 2 (.one 12 2 (.one 13 3 (.one 14 3 (.one 15 3 (.one 17 1 (.one 18 2 (.one 19 2 .nil)))))))))))))))))))) (by kernel_rfl) (by kernel_rfl) ?_
     replace hst := hst.drew
     refine pm_p rfl rfl ?_; go_wp2_with fail
     refine pm_p rfl rfl ?_; go_wp2_with fail
     refine pm_p rfl rfl ?_; go_wp2_with fail
     refine pm_p rfl rfl ?_; go_wp2_with fail
     refine pm_q rfl rfl ?_; go_wp2_with (((refine L_loadA (d := some 42) rfl rfl rfl (by rfl) Tryz.underlying27 rfl el_oathbookref3_Log (by (exact hst.get 0 rfl)) (by (exact qlArr_size _ _ _ _ _ _)) ?_)))
     refine pm_q rfl rfl ?_; go_wp2_with ((refine L_idxS (d := some 45) rfl rfl rfl (by rfl) (by rfl) Tryz.underlying23 el_api_Note (by (exact hst.old (by decide) HX.out)) (by omega) (by omega) ?_; intro o45 p45 ha45 hr45; ((subst ha45))))
     refine pm_qf rfl rfl (by kernel_rfl) ?_; go_wp2_with fail
     refine pm_q rfl rfl ?_; go_wp2_with ((refine L_load1 (d := some 47) rfl rfl rfl (by rfl) Tryz.underlying9 rfl (HC.out _ _ _ hr45) ?_))
     refine pm_q rfl rfl ?_; go_wp2_with ((refine L_idxS (d := some 50) rfl rfl rfl (by rfl) (by rfl) Tryz.underlying23 el_api_Note (by (exact hst.old (by decide) HX.out)) (by omega) (by omega) ?_; intro o50 p50 ha50 hr50; ((obtain ⟨h1, h2⟩ := some_addr ha50; subst h1; subst h2; clear ha50))))
     refine pm_qf rfl rfl (by kernel_rfl) ?_; go_wp2_with fail
     refine pm_q rfl rfl ?_; go_wp2_with ((refine L_loadM (d := some 52) rfl rfl rfl (by rfl) Tryz.underlying32 rfl el_api_Digest (HC2.out _ _ _ hr50) (Dig.size _) ?_))
     refine pm_two (ki := 2) (kj := 2) rfl rfl ?_ ?_
     ·go_wp2_with ((go_at_call 9; (try clear hnew); refine (HAd.out _ (by (exact hst.sl 1 rfl))).mono ?_; rintro e Wd ⟨rfl, hnew⟩; replace hst := hst.keep hnew)); refine ⟨fun _ => (by (exact hnew.below)), ?_⟩
      refine pm_p rfl rfl ?_; go_wp2_with fail
      refine pm_p rfl rfl ?_; go_wp2_with fail
      refine pm_p rfl rfl ?_; go_wp2_with fail
      refine pm_p rfl rfl ?_; go_wp2_with fail
      refine pm_g rfl ?_; go_wp2_with ((refine L_allocA (d := some 12) rfl rfl rfl el_oathbookref3_Log ?_; (try clear hnew); intro g12 W12 hnew; replace hst := hst.trans hnew; simp only [List.cons_append, List.nil_append] at hst)); refine ⟨by (exact hnew.below), ?_⟩
      refine pm_e rfl ?_; go_wp2_with ((refine wpl_at (.store 27 (.tmp 12) (.tmp 54)) rfl ?_; (refine L_storeA rfl rfl hst rfl (by rfl) (ev_tmp rfl) (by (exact qlArr_all _ _ _ _ _ _)) el_oathbookref3_Log (by (rfl)) 0 rfl (by (rfl)) ?_; clear hst; intro WS17 hst; simp only [List.set_cons_zero, List.set_cons_succ] at hst)))
      refine pm_g rfl ?_; go_wp2_with fail; refine ⟨by (exact Below.refl _ _), ?_⟩
      refine pm_g rfl ?_; go_wp2_with fail; refine ⟨by (exact Below.refl _ _), ?_⟩
      refine pm_nil ?_
      go_wp2_with fail
      go_meet
      case rel => exact ⟨_, rfl, rfl, rfl, hst⟩
     ·go_wp2_with ((refine L_allocA (d := some 12) rfl rfl rfl el_oathbookref3_Log ?_; (try clear hnew); intro g12 W12 hnew; replace hst := hst.trans hnew; simp only [List.cons_append, List.nil_append] at hst)); refine ⟨fun _ => (by (exact hnew.below)), ?_⟩
      refine pm_g rfl ?_; go_wp2_with ((go_at_call 9; (try clear hnew); refine (HAd.out _ (by (exact hst.sl 2 rfl))).mono ?_; rintro e Wd ⟨rfl, hnew⟩; replace hst := hst.keep hnew)); refine ⟨by (exact hnew.below), ?_⟩
      refine pm_g rfl ?_; go_wp2_with fail; refine ⟨by (exact Below.refl _ _), ?_⟩
      refine pm_p rfl rfl ?_; go_wp2_with fail
      refine pm_p rfl rfl ?_; go_wp2_with fail
      refine pm_p rfl rfl ?_; go_wp2_with fail
      refine pm_e rfl ?_; go_wp2_with ((refine wpl_at (.store 27 (.tmp 12) (.tmp 54)) rfl ?_; (refine L_storeA rfl rfl hst rfl (by rfl) (ev_tmp rfl) (by (exact qlArr_all _ _ _ _ _ _)) el_oathbookref3_Log (by (rfl)) 0 rfl (by (rfl)) ?_; clear hst; intro WS17 hst; simp only [List.set_cons_zero, List.set_cons_succ] at hst)))
      refine pm_g rfl ?_; go_wp2_with fail; refine ⟨by (exact Below.refl _ _), ?_⟩
      refine pm_g rfl ?_; go_wp2_with fail; refine ⟨by (exact Below.refl _ _), ?_⟩
      refine pm_nil ?_
      go_wp2_with fail
      go_meet
      case rel => exact ⟨_, rfl, rfl, rfl, hst⟩
    case rest =>
     obtain ⟨g12, rfl, rfl, rfl, hst⟩ := hcut
     go_upto_region 12 with (go_big_may; first | ((refine L_loadA (d := some 57) rfl rfl rfl (by rfl) Tryz.underlying27 rfl el_oathbookref3_Log (by (exact hst.get 0 rfl)) (by (exact qlArr_size _ _ _ _ _ _)) ?_)) | (refine wpl_at (.store 27 (.tmp 10) (.tmp 57)) rfl ?_; (refine L_storeA rfl rfl hst rfl (by rfl) (ev_tmp rfl) (by (exact qlArr_all _ _ _ _ _ _)) el_oathbookref3_Log (by (rfl)) 1 rfl (by (rfl)) ?_; clear hst; intro WS1 hst; simp only [List.set_cons_zero, List.set_cons_succ] at hst)))
     replace hst := St.swap (X := [_, _, _]) (Y := lgL q key N) (L := []) hst
     refine wp_region_idxT [(0, 0), (1, 0), (2, 0), (3, 0), (4, 0), (5, 0), (6, 0), (7, 2), (8, 2), (9, 2), (10, 2), (11, 1), (12, 2), (13, 0), (14, 0), (15, 2), (16, 2)] (by kernel_rfl) (by kernel_rfl) ?_
     replace hst := hst.drew
     refine idx_q rfl rfl ?_; go_wp2_with fail
     refine idx_q rfl rfl ?_; go_wp2_with fail
     refine idx_q rfl rfl ?_; go_wp2_with fail
     refine idx_q rfl rfl ?_; go_wp2_with ((refine L_idxS (d := some 62) rfl rfl rfl (by rfl) (by rfl) Tryz.underlying23 el_api_Note (by (exact hst.old (by decide) HX.out)) (by omega) (by omega) ?_; intro o62 p62 ha62 hr62; ((subst ha62))))
     refine idx_qf rfl rfl (by kernel_rfl) ?_; go_wp2_with fail
     refine idx_q rfl rfl ?_; go_wp2_with ((refine L_load1 (d := some 64) rfl rfl rfl (by rfl) Tryz.underlying9 rfl (HC.out _ _ _ hr62) ?_))
     refine idx_q rfl rfl ?_; go_wp2_with fail
     refine idx_g rfl ?_; go_wp2_with fail; refine ⟨by (exact Below.refl _ _), ?_⟩
     refine idx_g rfl ?_; go_wp2_with ((refine L_idxS (d := some 67) rfl rfl rfl (by rfl) (by rfl) Tryz.underlying23 el_api_Note (by (exact hst.old (by decide) HX.out)) (by omega) (by omega) ?_; intro o67 p67 ha67 hr67; ((obtain ⟨h1, h2⟩ := some_addr ha67; subst h1; subst h2; clear ha67)))); refine ⟨by (exact Below.refl _ _), ?_⟩
     refine idx_g rfl ?_; go_wp2_with fail; refine ⟨by (exact Below.refl _ _), ?_⟩
     refine idx_g rfl ?_; go_wp2_with ((refine L_loadM (d := some 69) rfl rfl rfl (by rfl) Tryz.underlying32 rfl el_api_Digest (HC2.out _ _ _ hr67) (Dig.size _) ?_)); refine ⟨by (exact Below.refl _ _), ?_⟩
     refine idx_e rfl ?_; go_wp2_with ((go_at_call 10; refine (HA.out _ _ hst).mono ?_; rintro e Wa ⟨rfl, q1, u1, u2, u3, hst'⟩; clear hst; have hst := hst'; clear hst'))
     refine idx_g rfl ?_; go_wp2_with fail; refine ⟨by (exact Below.refl _ _), ?_⟩
     refine idx_q rfl rfl ?_; go_wp2_with fail
     refine idx_q rfl rfl ?_; go_wp2_with fail
     refine idx_g rfl ?_; go_wp2_with fail; refine ⟨by (exact Below.refl _ _), ?_⟩
     refine idx_g rfl ?_; go_wp2_with fail; refine ⟨by (exact Below.refl _ _), ?_⟩
     refine idx_nil ?_
     replace hst := St.swap (X := lgL q1 key N) (Y := [_, _, _]) (L := []) hst
     simp only [List.cons_append, List.nil_append] at hst
     go_upto_region 14 with (go_big_may; (go_at_call 11; (try clear hnew); refine (sError_any rr _ (HEb.out.of hst)).mono ?_; rintro e Wk2 ⟨rfl, hnew⟩; replace hst := hst.keep hnew))
     go_upto_region 9 with (go_big_may; fail)
     go_wp2_with (fail)
     go_roundg g
     case measure => omega
     case rel => exact ⟨i + 1, N, q1, O, oc, Lib.hid (by have := HI.out; omega), Lib.hid ⟨v1', v3', u3, u1, u2⟩, by go_num, hst.tail⟩
  ·obtain rfl : gk = 0 := by omega
   obtain rfl : i = n := by omega
   clear hi
   have hn40 : N.length ≤ 40 := by omega
   have HH := Lib.hid (fun (w' : World) (ht : Tb w') (h : LgAt w' q key N) => by
    have := headK_any key N q w' ht h v4 v3 (by omega)
    rewrite [v5] at this
    exact this)
   have HHf := Lib.hid (fun (w' : World) (hk : SlR w' K m mc 1 (bytesL key)) (h : SlR w' O N.length oc 34 (notesL N)) => rheadof_any key K m mc N O N.length oc w' hk h v3 (by omega))
   have HEh := Lib.hid (fun (w' : World) => show (Op.equalIn 10000 41 (.agg (hdArr (N.length : Int) (rootN (lvN N)) (mapN N) (headR key N))) (.agg (hdArr (N.length : Int) (rootN (lvN N)) (mapN N) (headR key N)))).run Tryz.prog w' = .ok true w' by rw [eqHead]; simp)
   have HFi := Lib.hid (fun (w' : World) (h : SlR w' O N.length oc 34 (notesL N)) => rfoundU_any K m mc N s O N.length oc w' h v3 (by omega))
   have HFd := Lib.hid (fun (w' : World) (L : List Res) h => by
    have := findV_any key N s q w w' L HT.out h v4 v3
    rewrite [v5] at this
    exact this)
   have HSe := Lib.hid (fun (w' : World) (h : Eb w') => sErrA_any (findE s) w' h)
   have HSf := Lib.hid (fun (w' : World) (A1 B1 C1 D1 : Option Addr) (c1 c2 c3 c4 : Nat) h1 h2 h3 h4 => sameF_eq (findN N s).note.name (findN N s).note.key (findN N s).note.turn (findN N s).at_ (findN N s).path (findN N s).mpath A1 B1 C1 D1 (findN N s).path.length c1 c2 (findN N s).mpath.length c3 c4 w' h1 h2 h3 h4)
   generalize findN N s = fd at *
   generalize findE s = fe at *
   generalize errO fe = eo at *
   obtain ⟨⟨a1, a2, a3⟩, a4, a5, a6⟩ := fd
   simp only at HFi HFd HSf
   obtain ⟨l5, hl5⟩ : ∃ l, l = a5.length := ⟨_, rfl⟩
   obtain ⟨l6, hl6⟩ : ∃ l, l = a6.length := ⟨_, rfl⟩
   rewrite [← hl5, ← hl6] at HFi HFd HSf
   clear hl5 hl6
   have HSd0 := Lib.hid (fun w' : World => by
    have := sameD_any [] [] none none 0 0 0 0 w' (SlR.nil_ w' 32) (SlR.nil_ w' 32)
    rw [decide_eq_true rfl] at this
    exact this)
   have HSn := Lib.hid (fun (w' : World) (L : List Res) h hv => by
    have := since_no key N q v w w' L h v3 hv
    rewrite [v5] at this
    exact this)
   have HSy := Lib.hid (fun (w' : World) (L : List Res) h h1 h2 => by
    have := since_any key N q v w w' L HT.out h v3 h1 h2
    rewrite [v5] at this
    exact this)
   have HLv := Lib.hid (fun (w' : World) (h : SlR w' O N.length oc 34 (notesL N)) => rleaves_any K m mc N O N.length oc w' h v3.ok (by omega))
   generalize rootN (lvN N) = rt at HH HHf HEh
   generalize mapN N = mp at HH HHf HEh
   generalize headR key N = hr at HH HHf HEh
   clear v1 v3 v4 v5 v6 HV HI HNz
   go_upto_region 16 with (go_big_may; fail)
   refine wp_region_idx [(0, 0), (2, 0), (1, 2), (3, 2), (4, 2)] (by kernel_rfl) (by kernel_rfl) ?_
   replace hst := hst.drew
   refine idx_q rfl rfl ?_; go_wp2_with fail
   refine idx_q rfl rfl ?_; go_wp2_with (((refine L_loadA (d := some 85) rfl rfl rfl (by rfl) Tryz.underlying27 rfl el_oathbookref3_Log (by (exact hst.get 0 rfl)) (by (exact qlArr_size _ _ _ _ _ _)) ?_)))
   refine idx_g rfl ?_; go_wp2_with ((go_at_call 12; (try clear hnew); refine (HH.out _ (HT.out.of hst) (lgAt_of (St.swap (X := [_, _]) (Y := lgL q key N) (L := []) hst))).mono ?_; rintro e Wh ⟨rfl, hnew⟩; replace hst := hst.keep hnew)); refine ⟨by (exact hnew.below), ?_⟩
   refine idx_g rfl ?_; go_wp2_with ((go_at_call 13; (try clear hnew); refine (HHf.out _ (hst.old (by decide) HK.out) (hst.sl 1 rfl)).mono ?_; rintro e Wh ⟨rfl, hnew⟩; replace hst := hst.keep hnew)); refine ⟨by (exact hnew.below), ?_⟩
   refine idx_g rfl ?_; go_wp2_with ((refine L_neA (d := some 87) rfl rfl rfl eqG_Head (ev_tmp rfl) (ev_tmp rfl) (HEh.out _) ?_; rewrite [bangA])); refine ⟨by (exact Below.refl _ _), ?_⟩
   refine idx_nil ?_
   go_upto_region 18 with fail
   clear HH HHf HEh
   (try clear hnew)
   go_upto_region 19 with (go_big_may; first | (go_at_call 14; (try clear hnew); refine (HFi.out _ (hst.sl 1 rfl)).mono ?_; rintro e Wf ⟨A1, c1, B1, d1, rfl, hnew⟩; replace hst := hst.trans hnew; simp only [List.cons_append, List.nil_append] at hst) | ((refine L_loadA (d := some 89) rfl rfl rfl (by rfl) Tryz.underlying27 rfl el_oathbookref3_Log (by (exact hst.get 0 rfl)) (by (exact qlArr_size _ _ _ _ _ _)) ?_)) | (refine L_allocA (d := some 18) rfl rfl rfl el_api_Found ?_; (try clear hnew); intro g18 W18 hnew; replace hst := hst.trans hnew; simp only [List.cons_append, List.nil_append] at hst) | (refine wpl_at (.store 46 (.tmp 18) (.tmp 92)) rfl ?_; (refine L_storeA rfl rfl hst rfl (by rfl) (ev_tmp rfl) (by (exact fdArr_all _ _ _ _ _ _ _ _ _ _)) el_api_Found (by (exact fdArr_size _ _ _ _ _ _ _ _ _ _)) 0 rfl (by (rfl)) ?_; clear hst; intro WS7 hst; simp only [List.set_cons_zero, List.set_cons_succ] at hst)))
   (try clear hnew)
   replace hst := St.swap (X := [_, _, _, _, _]) (Y := lgL q key N) (L := []) hst
   go_upto_region 20 with (go_big_may; first | (go_at_call 15; refine (HFd.out _ _ hst).mono ?_; rintro e Wf ⟨A2, c2, B2, d2, rfl, hst'⟩; clear hst; have hst := hst'; clear hst') | (refine L_allocA (d := some 20) rfl rfl rfl el_api_Found ?_; (try clear hnew); intro g20 W20 hnew; replace hst := hst.trans hnew; simp only [List.cons_append, List.nil_append] at hst) | (refine wpl_at (.store 46 (.tmp 20) (.tmp 98)) rfl ?_; (refine L_storeA rfl rfl hst rfl (by rfl) (ev_tmp rfl) (by (exact fdArr_all _ _ _ _ _ _ _ _ _ _)) el_api_Found (by (exact fdArr_size _ _ _ _ _ _ _ _ _ _)) 0 rfl (by (rfl)) ?_; clear hst; intro WS7 hst; simp only [List.set_cons_zero, List.set_cons_succ] at hst)))
   (try clear hnew)
   simp only [lgL, List.cons_append, List.nil_append, List.append_nil] at hst
   go_upto_region 21 with (go_big_may; (go_at_call 11; (try clear hnew); refine (HSe.out _ (HEb.out.of hst)).mono ?_; rintro e Wk3 ⟨rfl, hnew⟩; replace hst := hst.keep hnew))
   go_upto_region 22 with (go_big_may; first | (go_at_call 16; (try clear hnew); refine (HSf.out _ _ _ _ _ _ _ _ _ (hst.sl 1 rfl) (hst.sl 9 rfl) (hst.sl 2 rfl) (hst.sl 10 rfl)).mono ?_; rintro e Wf ⟨rfl, hnew⟩; replace hst := hst.keep hnew) | ((refine L_loadA (d := some 103) rfl rfl rfl (by rfl) Tryz.underlying46 rfl el_api_Found (by (exact hst.get 0 rfl)) (by (exact fdArr_size _ _ _ _ _ _ _ _ _ _)) ?_)) | ((refine L_loadA (d := some 104) rfl rfl rfl (by rfl) Tryz.underlying46 rfl el_api_Found (by (exact hst.get 8 rfl)) (by (exact fdArr_size _ _ _ _ _ _ _ _ _ _)) ?_)))
   (try clear hnew)
   go_upto_region 24 with (go_big_may; fail)
   go_upto_region 25 with (go_big_may; fail)
   go_upto_region 26 with (go_big_may; fail)
   have hst2 : St w _ (lgL q key N ++ ([.blk g10 27 (qlArr K m mc O N.length oc), .row O N.length oc 34 34 (notesL N)] : List Res)) := hst.pick [3, 4, 5, 6, 7, 11, 12] (by decide)
   replace hst := hst.pick [3, 4, 5, 6, 7, 11, 12] (by decide)
   clear HFi HFd HSe HSf
   by_cases b1 : v < 1
   ·have e1 : decide (v < 1) = true := decide_eq_true b1
    have HSb := Lib.hid (fun (w' : World) (L : List Res) h => HSn.out w' L h (.inl b1))
    go_upto_region 27 with (first | (with_reducible refine L_pass (t := 115) rfl (by kernel_rfl) ?_) | (with_reducible refine L_pass (t := 116) rfl (by kernel_rfl) ?_) | (with_reducible refine L_pass (t := 117) rfl (by kernel_rfl) ?_) | (with_reducible refine L_pass (t := 118) rfl (by kernel_rfl) ?_) | (with_reducible refine L_pass (t := 119) rfl (by kernel_rfl) ?_))
    go_upto_region 29 with (go_big_may; fail)
    go_upto_region 30 with (go_big_may; (go_at_call 19; refine (HSb.out _ _ hst2).mono ?_; rintro e Ws ⟨rfl, hst'⟩; clear hst hst2; have hst := hst'; clear hst'))
    go_upto_region 31 with (go_big_may; (go_at_call 11; (try clear hnew); refine (sError_any 2 _ (HEb.out.of hst)).mono ?_; rintro e Wk4 ⟨rfl, hnew⟩; replace hst := hst.keep hnew))
    go_upto_region 32 with (go_big_may; (go_at_call 20; (try clear hnew); refine (HSd0.out _).mono ?_; rintro e Wk5 ⟨rfl, hnew⟩; replace hst := hst.keep hnew))
    go_wp2_with (fail)
    go_ret
    exact ⟨rfl, hst.forget⟩
   have e1 : decide (v < 1) = false := decide_eq_false b1
   by_cases b2 : (N.length : Int) < v
   ·have e2 : decide ((N.length : Int) < v) = true := decide_eq_true b2
    have HSb := Lib.hid (fun (w' : World) (L : List Res) h => HSn.out w' L h (.inr b2))
    go_upto_region 27 with (go_big_may; (refine L_load1 (d := some 117) rfl rfl rfl (by rfl) Tryz.underlying23 rfl (by (exact cell_of (hst.get 5 rfl) qlArr_1)) ?_))
    go_upto_region 29 with (go_big_may; fail)
    go_upto_region 30 with (go_big_may; (go_at_call 19; refine (HSb.out _ _ hst2).mono ?_; rintro e Ws ⟨rfl, hst'⟩; clear hst hst2; have hst := hst'; clear hst'))
    go_upto_region 31 with (go_big_may; (go_at_call 11; (try clear hnew); refine (sError_any 2 _ (HEb.out.of hst)).mono ?_; rintro e Wk6 ⟨rfl, hnew⟩; replace hst := hst.keep hnew))
    go_upto_region 32 with (go_big_may; (go_at_call 20; (try clear hnew); refine (HSd0.out _).mono ?_; rintro e Wk7 ⟨rfl, hnew⟩; replace hst := hst.keep hnew))
    go_wp2_with (fail)
    go_ret
    exact ⟨rfl, hst.forget⟩
   have e2 : decide ((N.length : Int) < v) = false := decide_eq_false b2
   obtain ⟨m0, rfl⟩ := Int.eq_ofNat_of_zero_le (show 0 ≤ v by omega)
   clear hst2
   have HPr := Lib.hid (fun (w' : World) (Ol : Option Addr) (ol : Nat) (h : SlR w' Ol N.length ol 32 (digsL (lvN N))) => rproof_any N.length (lvN N) Ol ol m0 true w' h (by omega) (by omega) (by omega))
   have HSz := Lib.hid (fun (w' : World) (L : List Res) h => by
    have := HSy.out w' L h (by omega) (by omega)
    rewrite [Int.toNat_natCast] at this
    exact this)
   have HSd := Lib.hid (fun (w' : World) (X Y : Option Addr) (c1 c2 : Nat) h1 h2 => by
    have := sameD_any (gpN (lvN N) m0 true) (gpN (lvN N) m0 true) X Y (plN N.length m0 true) c1 (plN N.length m0 true) c2 w' h1 h2
    rw [decide_eq_true rfl] at this
    exact this)
   generalize gpN (lvN N) m0 true = gp at *
   generalize plN N.length m0 true = pl at *
   go_upto_region 28 with (go_big_may; (refine L_load1 (d := some 117) rfl rfl rfl (by rfl) Tryz.underlying23 rfl (by (exact cell_of (hst.get 5 rfl) qlArr_1)) ?_))
   go_upto_region 29 with (go_big_may; first | (go_at_call 18; (try clear hnew); refine (HLv.out _ (hst.sl 6 rfl)).mono ?_; rintro e Wl ⟨Ol, ol, rfl, hnew⟩; replace hst := hst.trans hnew; simp only [List.cons_append, List.nil_append] at hst) | (go_at_call 17; (try clear hnew); refine (HPr.out _ _ _ (hst.sl 0 rfl)).mono ?_; rintro e Wp ⟨Op, op, rfl, hnew⟩; replace hst := hst.trans hnew; simp only [List.cons_append, List.nil_append] at hst) | ((refine L_loadA (d := some 121) rfl rfl rfl (by rfl) Tryz.underlying27 rfl el_oathbookref3_Log (by (exact hst.get 5 rfl)) (by (exact qlArr_size _ _ _ _ _ _)) ?_)))
   (try clear hnew)
   have hst2 : St w _ (lgL q key N ++ ([.row Op pl op 32 32 (digsL gp)] : List Res)) := hst.pick [2, 3, 4, 5, 6, 0] (by decide)
   go_upto_region 30 with (go_big_may; (go_at_call 19; refine (HSz.out _ _ hst2).mono ?_; rintro e Ws ⟨Os, os, rfl, hst'⟩; clear hst hst2; have hst := hst'; clear hst'; simp only [lgL, List.cons_append, List.nil_append, List.append_nil] at hst))
   go_upto_region 31 with (go_big_may; (go_at_call 11; (try clear hnew); refine (sError_nil _).mono ?_; rintro e Wk8 ⟨rfl, hnew⟩; replace hst := hst.keep hnew))
   go_upto_region 32 with (go_big_may; (go_at_call 20; (try clear hnew); refine (HSd.out _ _ _ _ _ (hst.sl 0 rfl) (hst.sl 6 rfl)).mono ?_; rintro e Wk9 ⟨rfl, hnew⟩; replace hst := hst.keep hnew))
   go_wp2_with (fail)
   go_ret
   exact ⟨rfl, hst.forget⟩
end Go.Proofs.YtaebeemnipafbaaGreatDoor

set_option maxRecDepth 20000
set_option linter.unusedSimpArgs false
set_option linter.unusedVariables false
namespace Go.Proofs.YtaebeemnipafbaaGreatDoor
open Go.ChangeShapes Go.WideShapes Go.RowKit
def ebCell : Value := .iface 209 (.agg #[.pointer (some ⟨6, 36, none⟩)])
theorem etG : Tryz.prog.globalNamed "errors.errorType" = some 0 := by kernel_rfl
theorem rtT : (Tryz.prog.cutTypes.find? (·.1 == "internal/reflectlite.rtype")).map (·.2) = some 209 := by kernel_rfl
theorem oneRow : ((List.range 297).filter fun t => Tryz.prog.rowNamed t [101, 114, 114, 111, 114]) = [36] := by kernel_rfl
theorem nTypes : Tryz.prog.types.size = 297 := by kernel_rfl
theorem eb_of {W : World} (h : handlesMet Tryz.prog [("errors.errorType", Rows.laid_errors_errorType)] W) : Eb W := by
 obtain ⟨name, u, ty, e1, e2, e3, e4, e5⟩ := h _ (List.mem_singleton.2 rfl)
 have en : name = [101, 114, 114, 111, 114] := (Option.some.inj e1).symm
 subst en
 obtain rfl := Option.some.inj (rtT.symm.trans e2)
 have hm : ty ∈ (List.range 297).filter fun t => Tryz.prog.rowNamed t [101, 114, 114, 111, 114] := List.mem_filter.2 ⟨List.mem_range.2 (by rw [← nTypes]; exact e3), e4⟩
 rw [oneRow] at hm
 obtain rfl := List.mem_singleton.1 hm
 have hh : typeHandle Tryz.prog 36 = .pointer (some ⟨6, 36, none⟩) := by kernel_rfl
 rw [hh] at e5
 simpa [Eb] using World.var?_cell etG e5 0
end Go.Proofs.YtaebeemnipafbaaGreatDoor

set_option maxRecDepth 20000
set_option linter.unusedSimpArgs false
set_option linter.unusedVariables false
namespace Go.Proofs.YtaebeemnipafbaaGreatDoor
open Go.ChangeShapes Go.WideShapes Go.ChangeAt Go.RowKit Go.Deep
section
variable {P : Program} {H : Type} {enc : TypeId × Value → H} {W : World} {base : Nat} {spare : Nat → Bool} {held : Bool}
theorem trod_struct3 {t : TypeId} {f0 f1 f2 : Field} {fuel : Nat} {cs : List Value} {x : DataW H × List MemPlace} (ht : P.underlying t = some (.struct #[f0, f1, f2])) (h : DataW.trod enc P W base spare held fuel t cs = some x) :
  ∃ y0 y1 y2 n, x = (.agg [y0.1, y1.1, y2.1], y0.2 ++ (y1.2 ++ y2.2)) ∧ cs.length = P.cellsOf t ∧ DataW.trod enc P W base spare held n f0.type ((cs.drop f0.offset).take (P.cellsOf f0.type)) = some y0 ∧
   DataW.trod enc P W base spare held n f1.type ((cs.drop f1.offset).take (P.cellsOf f1.type)) = some y1 ∧ DataW.trod enc P W base spare held n f2.type ((cs.drop f2.offset).take (P.cellsOf f2.type)) = some y2 := by
 obtain ⟨xs, n, _, rfl, hl, hlen, hf⟩ := DataW.trod_struct ht h
 match xs, hlen with
 | [y0, y1, y2], _ => exact ⟨y0, y1, y2, n, by simp, hl, by simpa using hf 0 f0 rfl, by simpa using hf 1 f1 rfl, by simpa using hf 2 f2 rfl⟩
theorem note_of_trod {t te e8 : TypeId} {f0 f1 f2 : Field} {fuel : Nat} {cs : List Value} {x : DataW H × List MemPlace} (ht : P.underlying t = some (.struct #[f0, f1, f2])) (h0 : P.underlying f0.type = some .string) (h1 : f1.type = te) (h2 : P.underlying f2.type = some (.int .i64)) (hte : P.underlying te = some (.array 32 e8)) (he : P.underlying e8 = some (.int .u8)) (hce : P.cellsOf e8 = 1) (hct : P.cellsOf te = 32)
  (o0 : f0.offset = 0) (o1 : f1.offset = 1) (o2 : f2.offset = 33) (c0 : P.cellsOf f0.type = 1) (c2 : P.cellsOf f2.type = 1) (ct : P.cellsOf t = 34) (hf : DataW.trod enc P W base spare held fuel t cs = some x) :
  ∃ q : NoteN, cs = q.arr.toList ∧ (Lit.int .i64 q.turn).wf = true := by
 obtain ⟨y0, y1, y2, m, _, hl, k0, k1, k2⟩ := trod_struct3 ht hf
 rw [o0, c0, List.drop_zero] at k0
 rw [h1, o1, hct] at k1
 rw [o2, c2] at k2
 rw [ct] at hl
 obtain ⟨s, hs, _⟩ := DataW.trod_string h0 k0
 obtain ⟨k, hk⟩ := dig_of_trod hte he hce hct k1
 obtain ⟨n, hc, _, hw⟩ := DataW.trod_int h2 k2
 refine ⟨⟨s.data.toList, k, n⟩, ?_, hw⟩
 have q : cs = cs.take 1 ++ ((cs.drop 1).take 32 ++ (cs.drop 33).take 1) := by
  have a1 : (cs.drop 33).take 1 = cs.drop 33 := List.take_of_length_le (by rw [List.length_drop]; omega)
  have a2 : (cs.drop 1).take 32 ++ cs.drop 33 = cs.drop 1 := by
   have := List.take_append_drop 32 (cs.drop 1)
   rwa [List.drop_drop] at this
  rw [a1, a2, List.take_append_drop]
 rw [q, hs, hc, hk]
 show _ = (ntArr s.data.toList k n).toList
 rw [ntArr_list, ← bsOf_eta s, Dig.toList]
 rfl
theorem open_notesS {r : Reach} {b0 : Nat} {t t1 te e8 : TypeId} {f0 f1 f2 : Field} {v : Value} {d : DataW H} {p : List MemPlace} (hts : P.underlying t = some (.slice t1)) (ht : P.underlying t1 = some (.struct #[f0, f1, f2])) (h0 : P.underlying f0.type = some .string) (h1 : f1.type = te) (h2 : P.underlying f2.type = some (.int .i64)) (hte : P.underlying te = some (.array 32 e8)) (he : P.underlying e8 = some (.int .u8)) (hce : P.cellsOf e8 = 1) (hct : P.cellsOf te = 32)
  (o0 : f0.offset = 0) (o1 : f1.offset = 1) (o2 : f2.offset = 33) (c0 : P.cellsOf f0.type = 1) (c2 : P.cellsOf f2.type = 1) (ct : P.cellsOf t1 = 34)
  (hval : Value.okWide P W r b0 t v) (h : DataW.Trod enc P W base spare held t v d p) :
  ∃ A n c hs, v = .slice A n c ∧ SlR W A n c 34 (notesL hs) ∧ (∀ q ∈ hs, (Lit.int .i64 q.turn).wf = true) ∧ ((d = .nil ∧ n = 0) ∨ ∃ el sp, d = .slice el sp ∧ el.length = n) := by
 obtain ⟨a0, len0, cap0, rfl⟩ := okWide_slice hts hval
 obtain ⟨fuel, hf⟩ := h
 rcases open_slice hts hf with ⟨hcs, hx⟩ | ⟨a, len, cap, m, k, D, Pl, hcs, hb, hl, hm, hmm, hx, hel⟩
 ·simp only [Value.cells, List.cons.injEq, Value.slice.injEq, and_true] at hcs
  obtain ⟨rfl, rfl, rfl⟩ := hcs
  simp only [Prod.mk.injEq] at hx
  exact ⟨none, 0, 0, [], rfl, SlR.nil_ W 34, (fun q hq => by cases hq), .inl ⟨hx.1, rfl⟩⟩
 ·simp only [Value.cells, List.cons.injEq, Value.slice.injEq, and_true] at hcs
  obtain ⟨rfl, rfl, rfl⟩ := hcs
  simp only [Prod.mk.injEq] at hx
  rw [ct] at hel
  have hlm : len0 ≤ m := by rw [hmm]; split <;> omega
  have hin : Inhabited NoteN := ⟨⟨[], zeroD, 0⟩⟩
  obtain ⟨bs, hbs⟩ := choose_below (α := NoteN) (n := len0) (p := fun i b => W.cells? base (a.add (i * 34)) 34 = some b.arr.toList ∧ (Lit.int .i64 b.turn).wf = true) (fun i hi => by
   obtain ⟨cs', k1, k2⟩ := hel i (by omega)
   obtain ⟨q, rfl, hw⟩ := note_of_trod ht h0 h1 h2 hte he hce hct o0 o1 o2 c0 c2 ct k2
   exact ⟨q, k1, hw⟩)
  have hs := slr_of (W := W) (base := base) (A := some a) (n := len0) (c := cap0) (s := 34) (by decide) (fun i => (bs i).arr.toList) hl hm (fun _ => ⟨a, rfl, fun i hi => (hbs i hi).1⟩)
  refine ⟨some a, len0, cap0, (List.range len0).map bs, rfl, ?_, ?_, .inr ⟨_, _, hx.1, by simp⟩⟩
  ·have hfl : ∀ l : List Nat, l.flatMap (fun i => (bs i).arr.toList) = notesL (l.map bs) := by
    intro l
    induction l with
    | nil => rfl
    | cons x l ih => simp only [List.flatMap_cons, ih, List.map_cons, notesL]
   rw [hfl] at hs
   exact hs
  ·intro q hq
   obtain ⟨i, hi, rfl⟩ := List.mem_map.1 hq
   exact (hbs i (List.mem_range.1 hi)).2
theorem open_boolsS {r : Reach} {b0 : Nat} {t t1 : TypeId} {v : Value} {d : DataW H} {p : List MemPlace} (hts : P.underlying t = some (.slice t1)) (ht : P.underlying t1 = some .bool) (ct : P.cellsOf t1 = 1)
  (hval : Value.okWide P W r b0 t v) (h : DataW.Trod enc P W base spare held t v d p) :
  ∃ A n c, ∃ f : Nat → Bool, v = .slice A n c ∧ SlR W A n c 1 ((List.range n).map fun i => .bool (f i)) := by
 obtain ⟨a0, len0, cap0, rfl⟩ := okWide_slice hts hval
 obtain ⟨fuel, hf⟩ := h
 rcases open_slice hts hf with ⟨hcs, hx⟩ | ⟨a, len, cap, m, k, D, Pl, hcs, hb, hl, hm, hmm, hx, hel⟩
 ·simp only [Value.cells, List.cons.injEq, Value.slice.injEq, and_true] at hcs
  obtain ⟨rfl, rfl, rfl⟩ := hcs
  exact ⟨none, 0, 0, fun _ => false, rfl, SlR.nil_ W 1⟩
 ·simp only [Value.cells, List.cons.injEq, Value.slice.injEq, and_true] at hcs
  obtain ⟨rfl, rfl, rfl⟩ := hcs
  rw [ct] at hel
  have hlm : len0 ≤ m := by rw [hmm]; split <;> omega
  obtain ⟨bs, hbs⟩ := choose_below (α := Bool) (n := len0) (p := fun i b => W.cells? base (a.add (i * 1)) 1 = some [.bool b]) (fun i hi => by
   obtain ⟨cs', k1, k2⟩ := hel i (by omega)
   obtain ⟨b, rfl, _⟩ := DataW.trod_bool ht k2
   exact ⟨b, k1⟩)
  have hs := slr_of (W := W) (base := base) (A := some a) (n := len0) (c := cap0) (s := 1) (by decide) (fun i => [.bool (bs i)]) hl hm (fun _ => ⟨a, rfl, fun i hi => hbs i hi⟩)
  refine ⟨some a, len0, cap0, bs, rfl, ?_⟩
  have hfl : ∀ l : List Nat, l.flatMap (fun i => [Value.bool (bs i)]) = l.map fun i => .bool (bs i) := by
   intro l
   induction l with
   | nil => rfl
   | cons x l ih => simp only [List.flatMap_cons, ih, List.map_cons, List.singleton_append]
  rw [hfl] at hs
  exact hs
end
end Go.Proofs.YtaebeemnipafbaaGreatDoor

set_option maxRecDepth 20000
set_option linter.unusedSimpArgs false
set_option linter.unusedVariables false
namespace Go.Proofs.YtaebeemnipafbaaGreatDoor
open Go.ChangeShapes Go.WideShapes Go.ChangeAt Go.RowKit Go.Deep
section
variable {P : Program} {H : Type} {enc : TypeId × Value → H} {W : World} {base : Nat} {spare : Nat → Bool} {held : Bool}
theorem digs_in_trod {t e e8 : TypeId} {fuel : Nat} {cs : List Value} {x : DataW H × List MemPlace} (ht : P.underlying t = some (.slice e)) (hte : P.underlying e = some (.array 32 e8)) (he : P.underlying e8 = some (.int .u8)) (hce : P.cellsOf e8 = 1) (hct : P.cellsOf e = 32)
  (hf : DataW.trod enc P W base spare held fuel t cs = some x) : ∃ A n c ds, cs = [.slice A n c] ∧ SlR W A n c 32 (digsL ds) := by
 rcases open_slice ht hf with ⟨hcs, hx⟩ | ⟨a, len, cap, m, k, D, Pl, hcs, hb, hl, hm, hmm, hx, hel⟩
 ·exact ⟨none, 0, 0, [], hcs, SlR.nil_ W 32⟩
 ·rw [hct] at hel
  have hlm : len ≤ m := by rw [hmm]; split <;> omega
  have hin : Inhabited Dig := ⟨zeroD⟩
  obtain ⟨bs, hbs⟩ := choose_below (α := Dig) (n := len) (p := fun i b => W.cells? base (a.add (i * 32)) 32 = some (bytesL b.l)) (fun i hi => by
   obtain ⟨cs', h1, h2⟩ := hel i (by omega)
   obtain ⟨q, rfl⟩ := dig_of_trod hte he hce hct h2
   exact ⟨q, h1⟩)
  have hs := slr_of (W := W) (base := base) (A := some a) (n := len) (c := cap) (s := 32) (by decide) (fun i => bytesL (bs i).l) hl hm (fun _ => ⟨a, rfl, hbs⟩)
  refine ⟨some a, len, cap, (List.range len).map bs, hcs, ?_⟩
  have hfl : ∀ l : List Nat, l.flatMap (fun i => bytesL (bs i).l) = digsL (l.map bs) := by
   intro l
   induction l with
   | nil => rfl
   | cons x l ih => simp only [List.flatMap_cons, ih, List.map_cons, digsL]
  rw [hfl] at hs
  exact hs
theorem open_found {r : Reach} {b0 : Nat} {t tn ts te e8 : TypeId} {f0 f1 f2 f3 g0 g1 g2 : Field} {v : Value} {d : DataW H} {p : List MemPlace} (ht : P.underlying t = some (.struct #[f0, f1, f2, f3])) (h0 : f0.type = tn) (hn : P.underlying tn = some (.struct #[g0, g1, g2])) (k0 : P.underlying g0.type = some .string) (k1 : g1.type = te) (k2 : P.underlying g2.type = some (.int .i64))
  (h1 : P.underlying f1.type = some (.int .i64)) (h2 : f2.type = ts) (h3 : f3.type = ts) (hts : P.underlying ts = some (.slice te)) (hte : P.underlying te = some (.array 32 e8)) (he : P.underlying e8 = some (.int .u8)) (hce : P.cellsOf e8 = 1) (hct : P.cellsOf te = 32)
  (o0 : f0.offset = 0) (o1 : f1.offset = 34) (o2 : f2.offset = 35) (o3 : f3.offset = 36) (q0 : g0.offset = 0) (q1 : g1.offset = 1) (q2 : g2.offset = 33) (cn : P.cellsOf tn = 34) (c1 : P.cellsOf f1.type = 1) (cs1 : P.cellsOf ts = 1) (cg0 : P.cellsOf g0.type = 1) (cg2 : P.cellsOf g2.type = 1) (ct : P.cellsOf t = 37)
  (hval : Value.okWide P W r b0 t v) (h : DataW.Trod enc P W base spare held t v d p) :
  ∃ (f : FoundN) (A : Option Addr) (m c : Nat) (B : Option Addr) (p' q' : Nat), v = .agg (fdArr f.note.name f.note.key f.note.turn f.at_ A m c B p' q') ∧ SlR W A m c 32 (digsL f.path) ∧ SlR W B p' q' 32 (digsL f.mpath) ∧ (Lit.int .i64 f.note.turn).wf = true ∧ (Lit.int .i64 f.at_).wf = true := by
 simp only [Value.okWide, ht] at hval
 obtain ⟨cs, rfl, _⟩ := hval
 obtain ⟨fuel, hf⟩ := h
 simp only [Value.cells] at hf
 obtain ⟨y0, y1, y2, y3, m, _, hl, j0, j1, j2, j3⟩ := trod_struct4 ht hf
 rw [h0, o0, cn, List.drop_zero] at j0
 rw [o1, c1] at j1
 rw [h2, o2, cs1] at j2
 rw [h3, o3, cs1] at j3
 rw [ct] at hl
 obtain ⟨nt, e0, w0⟩ := note_of_trod hn k0 k1 k2 hte he hce hct q0 q1 q2 cg0 cg2 cn j0
 obtain ⟨at_, e1, _, w1⟩ := DataW.trod_int h1 j1
 obtain ⟨A, m1, c, ds, e2, s2⟩ := digs_in_trod hts hte he hce hct j2
 obtain ⟨B, m2, c2, ds2, e3, s3⟩ := digs_in_trod hts hte he hce hct j3
 refine ⟨⟨nt, at_, ds, ds2⟩, A, m1, c, B, m2, c2, ?_, s2, s3, w0, w1⟩
 have e : cs.toList = (ntArr nt.name nt.key nt.turn).toList ++ [.int .i64 at_, .slice A m1 c, .slice B m2 c2] := by
  have q : cs.toList = cs.toList.take 34 ++ ((cs.toList.drop 34).take 1 ++ ((cs.toList.drop 35).take 1 ++ (cs.toList.drop 36).take 1)) := by
   have a1 : (cs.toList.drop 36).take 1 = cs.toList.drop 36 := List.take_of_length_le (by rw [List.length_drop]; omega)
   have a2 : (cs.toList.drop 35).take 1 ++ cs.toList.drop 36 = cs.toList.drop 35 := by
    have := List.take_append_drop 1 (cs.toList.drop 35)
    rwa [List.drop_drop] at this
   have a3 : (cs.toList.drop 34).take 1 ++ cs.toList.drop 35 = cs.toList.drop 34 := by
    have := List.take_append_drop 1 (cs.toList.drop 34)
    rwa [List.drop_drop] at this
   rw [a1, a2, a3, List.take_append_drop]
  rw [q, e0, e1, e2, e3]
  rfl
 show Value.agg cs = Value.agg (fdArr nt.name nt.key nt.turn at_ A m1 c B m2 c2)
 congr 1
 exact Array.ext' e
end
end Go.Proofs.YtaebeemnipafbaaGreatDoor

set_option maxRecDepth 20000
set_option linter.unusedSimpArgs false
set_option linter.unusedVariables false
namespace Go.Proofs.YtaebeemnipafbaaGreatDoor
open Go.ChangeShapes Go.WideShapes Go.ChangeAt Go.RowKit Go.Deep
section
variable {P : Program} {H : Type} {enc : TypeId × Value → H} {W : World} {base : Nat} {spare : Nat → Bool} {held : Bool}
theorem note_name_trod {t : TypeId} {f0 f1 f2 : Field} {fuel : Nat} {cs : List Value} {x : DataW H × List MemPlace} (ht : P.underlying t = some (.struct #[f0, f1, f2])) (h0 : P.underlying f0.type = some .string) (o0 : f0.offset = 0) (c0 : P.cellsOf f0.type = 1) (hf : DataW.trod enc P W base spare held fuel t cs = some x) (q : NoteN) (hq : cs = q.arr.toList) : q.name.length ≤ maxLen := by
 obtain ⟨y0, y1, y2, m, _, hl, k0, k1, k2⟩ := trod_struct3 ht hf
 rw [o0, c0, List.drop_zero] at k0
 obtain ⟨s, hs, _, hz⟩ := DataW.trod_string h0 k0
 have e : q.arr.toList.take 1 = [.string (bsOf q.name)] := by
  show (ntArr q.name q.key q.turn).toList.take 1 = _
  rw [ntArr_list]
  rfl
 rw [hq, e] at hs
 simp only [List.cons.injEq, Value.string.injEq, and_true] at hs
 rw [← hs, bsOf_size] at hz
 exact hz
theorem found_name {t tn : TypeId} {f0 f1 f2 f3 g0 g1 g2 : Field} {d : DataW H} {p : List MemPlace} (ht : P.underlying t = some (.struct #[f0, f1, f2, f3])) (h0 : f0.type = tn) (hn : P.underlying tn = some (.struct #[g0, g1, g2])) (k0 : P.underlying g0.type = some .string)
  (o0 : f0.offset = 0) (q0 : g0.offset = 0) (cn : P.cellsOf tn = 34) (cg0 : P.cellsOf g0.type = 1) {f : FoundN} {A : Option Addr} {m c : Nat} {B : Option Addr} {p' q' : Nat}
  (h : DataW.Trod enc P W base spare held t (.agg (fdArr f.note.name f.note.key f.note.turn f.at_ A m c B p' q')) d p) : f.note.name.length ≤ 9223372036854775807 := by
 obtain ⟨fuel, hf⟩ := h
 simp only [Value.cells] at hf
 obtain ⟨y0, y1, y2, y3, m, _, hl, j0, j1, j2, j3⟩ := trod_struct4 ht hf
 rw [h0, o0, cn, List.drop_zero, fdArr_list, List.take_left' (ntArr_len _ _ _)] at j0
 have := note_name_trod hn k0 q0 cg0 j0 f.note rfl
 simp only [maxLen] at this
 omega
theorem open_notesW {r : Reach} {b0 : Nat} {t t1 te e8 : TypeId} {f0 f1 f2 : Field} {v : Value} {d : DataW H} {p : List MemPlace} (hts : P.underlying t = some (.slice t1)) (ht : P.underlying t1 = some (.struct #[f0, f1, f2])) (h0 : P.underlying f0.type = some .string) (h1 : f1.type = te) (h2 : P.underlying f2.type = some (.int .i64)) (hte : P.underlying te = some (.array 32 e8)) (he : P.underlying e8 = some (.int .u8)) (hce : P.cellsOf e8 = 1) (hct : P.cellsOf te = 32)
  (o0 : f0.offset = 0) (o1 : f1.offset = 1) (o2 : f2.offset = 33) (c0 : P.cellsOf f0.type = 1) (c2 : P.cellsOf f2.type = 1) (ct : P.cellsOf t1 = 34)
  (hval : Value.okWide P W r b0 t v) (h : DataW.Trod enc P W base spare held t v d p) :
  ∃ A n c hs, v = .slice A n c ∧ SlR W A n c 34 (notesL hs) ∧ (∀ q ∈ hs, (Lit.int .i64 q.turn).wf = true ∧ q.name.length ≤ 9223372036854775807) ∧ ((d = .nil ∧ n = 0) ∨ ∃ el sp, d = .slice el sp ∧ el.length = n) := by
 obtain ⟨a0, len0, cap0, rfl⟩ := okWide_slice hts hval
 obtain ⟨fuel, hf⟩ := h
 rcases open_slice hts hf with ⟨hcs, hx⟩ | ⟨a, len, cap, m, k, D, Pl, hcs, hb, hl, hm, hmm, hx, hel⟩
 ·simp only [Value.cells, List.cons.injEq, Value.slice.injEq, and_true] at hcs
  obtain ⟨rfl, rfl, rfl⟩ := hcs
  simp only [Prod.mk.injEq] at hx
  exact ⟨none, 0, 0, [], rfl, SlR.nil_ W 34, (fun q hq => by cases hq), .inl ⟨hx.1, rfl⟩⟩
 ·simp only [Value.cells, List.cons.injEq, Value.slice.injEq, and_true] at hcs
  obtain ⟨rfl, rfl, rfl⟩ := hcs
  simp only [Prod.mk.injEq] at hx
  rw [ct] at hel
  have hlm : len0 ≤ m := by rw [hmm]; split <;> omega
  have hin : Inhabited NoteN := ⟨⟨[], zeroD, 0⟩⟩
  obtain ⟨bs, hbs⟩ := choose_below (α := NoteN) (n := len0) (p := fun i b => W.cells? base (a.add (i * 34)) 34 = some b.arr.toList ∧ (Lit.int .i64 b.turn).wf = true ∧ b.name.length ≤ 9223372036854775807) (fun i hi => by
   obtain ⟨cs', k1, k2⟩ := hel i (by omega)
   obtain ⟨q, rfl, hw⟩ := note_of_trod ht h0 h1 h2 hte he hce hct o0 o1 o2 c0 c2 ct k2
   have hz := note_name_trod ht h0 o0 c0 k2 q rfl
   simp only [maxLen] at hz
   exact ⟨q, k1, hw, by omega⟩)
  have hs := slr_of (W := W) (base := base) (A := some a) (n := len0) (c := cap0) (s := 34) (by decide) (fun i => (bs i).arr.toList) hl hm (fun _ => ⟨a, rfl, fun i hi => (hbs i hi).1⟩)
  refine ⟨some a, len0, cap0, (List.range len0).map bs, rfl, ?_, ?_, .inr ⟨_, _, hx.1, by simp⟩⟩
  ·have hfl : ∀ l : List Nat, l.flatMap (fun i => (bs i).arr.toList) = notesL (l.map bs) := by
    intro l
    induction l with
    | nil => rfl
    | cons x l ih => simp only [List.flatMap_cons, ih, List.map_cons, notesL]
   rw [hfl] at hs
   exact hs
  ·intro q hq
   obtain ⟨i, hi, rfl⟩ := List.mem_map.1 hq
   exact (hbs i (List.mem_range.1 hi)).2
end
end Go.Proofs.YtaebeemnipafbaaGreatDoor

namespace Go.Proofs.YtaebeemnipafbaaGreatDoor.logAdds
open Go.ChangeShapes Go.WideShapes Go.ChangeAt Go.RowKit
theorem own : ownKnob Tryz.prog.godebug = none := by kernel_rfl
theorem laidOut : laidOutB Tryz.prog = true := by kernel_rfl
theorem cellsD : Tryz.prog.cellsOf 32 = 32 := by kernel_rfl
theorem cells8 : Tryz.prog.cellsOf 5 = 1 := by kernel_rfl
set_option maxHeartbeats 4000000 in
set_option maxRecDepth 100000 in
theorem contract (H : Type) (enc : TypeId × Value → H) (W : World) (base : Nat) (args : Array Value) (ds gs : List (DataW H)) (before : List MemPlace)
  (hval : ∀ (j : Nat) t v, Tryz.f3.params[j]? = some t → args[j]? = some v → Value.okWide Tryz.prog W .any base t v)
  (hW : DataW.Whole enc Tryz.prog Tryz.f3.params.toList Rows.logAddsSpec.vars false W args.toList ds gs before) (hT : Tb W) (hE : Eb W)
  (hz : (DataW.weightsEach Tryz.prog (Tryz.f3.params.toList ++ (OpenSpec.ofChange Rows.logAddsSpec).bare.plain.varTypes Tryz.prog) (ds ++ gs)).all (· ≤ reachBytes) = true) :
  Calls Tryz.prog 3 args W fun e W' => ∃ v, e = .returned v ∧ Rows.logAddsSpec.post enc Tryz.prog Tryz.f3 false true false false W args v W' := by
 have hW' := hW
 obtain ⟨p, q, hA0, hV, rfl, hfz, hnd⟩ := hW
 have hA : DataW.TrodAll enc Tryz.prog W 0 (fun _ => true) true Tryz.f3.params.toList args.toList ds p := hA0
 rw [Tryz.params3] at hA hval hz
 obtain ⟨v0, vs0, d0, ds0, p0, q0, hargs, rfl, rfl, h0, r0⟩ := trodAll_cons hA
 obtain ⟨v1, vs1, d1, ds1, p1, q1, rfl, rfl, rfl, h1, r1⟩ := trodAll_cons r0
 obtain ⟨v2, vs2, d2, ds2, p2, q2, rfl, rfl, rfl, h2, r2⟩ := trodAll_cons r1
 obtain ⟨v3, vs3, d3, ds3, p3, q3, rfl, rfl, rfl, h3, r3⟩ := trodAll_cons r2
 obtain ⟨rfl, rfl, rfl⟩ := trodAll_nil r3
 obtain rfl : args = #[v0, v1, v2, v3] := by cases args; simp_all
 obtain ⟨rfl, rfl⟩ := trodVars_none hV
 obtain ⟨A0, n0, c0, a0, rfl, hs0, hd0⟩ := open_bytesS Tryz.underlying22 Tryz.underlying5 cells8 (hval 0 _ v0 rfl rfl) h0
 have hn0 : n0 * 1 ≤ 140737488351232 := by
  rcases hd0 with ⟨_, h0⟩ | ⟨el, sp, rfl, hel⟩
  ·rw [h0]; decide
  ·have := sized_slice hz (j := 0) (e := 5) rfl rfl Tryz.underlying22
   rw [show Tryz.prog.bytesOf 5 = 1 from by kernel_rfl] at this
   have := reach_le this
   rw [← hel]
   omega
 obtain ⟨A1, n1, c1, a1, rfl, hs1, hw1, hd1⟩ := open_notesW Tryz.underlying23 Tryz.underlying34 Tryz.underlying9 rfl Tryz.underlying3 Tryz.underlying32 Tryz.underlying5 cells8 cellsD rfl rfl rfl (by kernel_rfl) (by kernel_rfl) (by kernel_rfl) (hval 1 _ v1 rfl rfl) h1
 obtain ⟨b2, rfl, rfl, rfl, ws2⟩ := Go.ChangeMaps.open_string Tryz.underlying9 (hval 2 _ v2 rfl rfl) h2
 obtain ⟨a2, ha2⟩ : ∃ a, b2 = bsOf a := ⟨_, bsOf_eta b2⟩
 subst ha2
 have hn2 : a2.length ≤ 140737488351232 := by
  have h := sized_string hz (j := 2) rfl rfl
  rw [bsOf_list] at h
  have := reach_le (n := a2.length) (b := 1) (by rw [Nat.mul_one]; exact h)
  omega
 obtain ⟨a3, rfl, rfl, rfl, wa3⟩ := open_int Tryz.underlying3 (hval 3 _ v3 rfl rfl) h3
 have lt0 : ∀ x ∈ p0, x.block < W.heap.size := by obtain ⟨m, hm⟩ := h0; exact DataW.trod_lt m _ _ _ hm
 have lt1 : ∀ x ∈ p1, x.block < W.heap.size := by obtain ⟨m, hm⟩ := h1; exact DataW.trod_lt m _ _ _ hm
 clear hA0
 refine (logAdds_any W hT hE a0 A0 n0 c0 hs0 hn0 a1 A1 n1 c1 hs1 (fun q hq => (hw1 q hq).2) a2 hn2 a3 (wf64 wa3).1 (wf64 wa3).2).mono fun e W' ⟨he, hst⟩ => ?_
 have bel := hst.below
 subst he
 exact ⟨_, rfl, _, _, _, [], _, [], hW', trodAll_mk1 (shut_bool Tryz.underlying4 _),
  (trodAll_cons_mk (Below.trod laidOut (by kernel_rfl) (of_decide_eq_true (by kernel_rfl)) h0 bel lt0) (trodAll_cons_mk (Below.trod laidOut (by kernel_rfl) (of_decide_eq_true (by kernel_rfl)) h1 bel lt1) (trodAll_cons_mk (Go.ChangeMaps.shut_string Tryz.underlying9 ws2) (trodAll_cons_mk (shut_int Tryz.underlying3 wa3) trodAll_mk0)))), rfl, bel.frame _, fun h => by cases h⟩
noncomputable def laidWorld0 (os : Os) : World :=
 { World.holding Tryz.prog os ⟨#[], #[], []⟩ with heap := (World.holding Tryz.prog os ⟨#[], #[], []⟩).heap.modify 1 fun
   | .cells _ t frozen => .cells tblArr t frozen
   | o => o }
noncomputable def laidWorld (os : Os) : World :=
 { laidWorld0 os with heap := (laidWorld0 os).heap.modify 0 fun
   | .cells _ t frozen => .cells #[ebCell] t frozen
   | o => o }
theorem laid_met (os : Os) : laidMetH Tryz.prog Rows.logAddsRow.laid ((laidWorld os).forCall (fun _ _ => 0) ⟨#[], #[.slice none 0 0, .slice none 0 0, .string ⟨#[]⟩, .int .i64 0], []⟩).memory :=
 laidMetH_of_parts (laidMet_of_run' 8 (by kernel_rfl) (by kernel_rfl)) (by kernel_rfl)
theorem reads (os : Os) {H : Type} (enc : TypeId × Value → H) : ∃ places, DataW.whole enc Tryz.prog ((laidWorld os).forCall (fun _ _ => 0) ⟨#[], #[.slice none 0 0, .slice none 0 0, .string ⟨#[]⟩, .int .i64 0], []⟩).memory Tryz.f3.params.toList Rows.logAddsSpec.vars false (#[.slice none 0 0, .slice none 0 0, .string ⟨#[]⟩, .int .i64 0] : Array Value).toList 8 = some ([.nil, .nil, .lit (.string []), .lit (.int .i64 0)], [], places) :=
 ⟨[], by kernel_rfl⟩
set_option maxRecDepth 100000 in
theorem lifted (os : Os) (started : os.Started) (H : Type) (enc : TypeId × Value → H) (F : Stop.Interp) :
  ReturnsInHanded {} Tryz.checked os 3 .any ((OpenSpec.ofChange Rows.logAddsSpec).preRow enc Tryz.prog Tryz.f3 Rows.logAddsRow.domain false Rows.logAddsRow.laid) (((OpenSpec.ofChange Rows.logAddsSpec).at F).post enc Tryz.prog Tryz.f3 false true false false) := by
 obtain ⟨places, hx⟩ := reads os enc
 refine returnsInHanded_of_row (C := Tryz.checked) (s := (OpenSpec.ofChange Rows.logAddsSpec)) own started (by kernel_rfl) Tryz.func3
  (witness_row_at (enc := enc) (C := Tryz.checked) false (laidWorld os) #[.slice none 0 0, .slice none 0 0, .string ⟨#[]⟩, .int .i64 0] rfl (by kernel_rfl) (by kernel_rfl) (by kernel_rfl)
   (OpenSpec.preRow_of_cond 8 hx (by kernel_rfl) (fun k hk => by cases hk) (by kernel_rfl) (laid_met os))) ?_
 intro W base args ds gs before hval hW _ _ hz hL _ _
 exact contract H enc W base args ds gs before hval hW (tb_of (show laidMet Tryz.prog [("oathbook/sha.rounds", Rows.laid_oathbook_sha_rounds)] W ∧ handlesMet Tryz.prog [("errors.errorType", Rows.laid_errors_errorType)] W from hL).1) (eb_of (show laidMet Tryz.prog [("oathbook/sha.rounds", Rows.laid_oathbook_sha_rounds)] W ∧ handlesMet Tryz.prog [("errors.errorType", Rows.laid_errors_errorType)] W from hL).2) hz
theorem said : Rows.LogAddsSaid :=
 OpenClaim.holds_of_cond 3 Tryz.f3 rfl rfl rfl rfl rfl rfl rfl ⟨rfl, rfl, rfl, rfl, rfl⟩ rfl rfl rfl rfl rfl (by kernel_rfl) Tryz.func3 (by kernel_rfl)
  (of_decide_eq_true (by kernel_rfl)) (by unfold Func.isWrapper; first | (rw [if_pos (by decide +kernel)]; kernel_rfl) | (rw [if_neg (by decide +kernel)]; exact ⟨rfl, rfl⟩))
  (fun os started H enc _ F => by rw [OpenClaim.pre_eq_preRow]; exact lifted os started H enc F)
theorem plain (f : FuncId) (fn : Func) (hf : Tryz.pinned.checked.prog.funcNamed "oathbook/oathbooklaw3.LogAdds" = some f) (hfn : Tryz.pinned.checked.prog.funcs[f]? = some fn) :
  true = Tryz.pinned.checked.prog.looks [] ∧ ∀ (j : Nat) t, fn.params[j]? = some t → Tryz.pinned.checked.prog.wantsStandIn t = false := by
 obtain rfl : f = 3 := Option.some.inj ((show Tryz.prog.funcNamed "oathbook/oathbooklaw3.LogAdds" = some 3 by kernel_rfl).symm.trans hf) |>.symm
 obtain rfl : fn = Tryz.f3 := (Option.some.inj (Tryz.func3.symm.trans hfn)).symm
 refine ⟨by kernel_rfl, fun j t ht => ?_⟩
 rw [Tryz.params3] at ht
 have hm := Array.mem_of_getElem? ht
 have ha : ∀ t ∈ #[22, 23, 9, 3], Tryz.prog.wantsStandIn t = false := by
  intro t ht
  simp only [List.mem_toArray, List.mem_cons, List.not_mem_nil, or_false] at ht
  rcases ht with rfl | rfl | rfl | rfl <;> kernel_rfl
 exact ha t hm
theorem proved : Rows.LogAddsCardSaid :=
 Claim7.holds_tied_plain_at .later [] _ _ _ _ said (fun _ h => by cases h) (by kernel_rfl) (fun _ h => by cases h) logAdds_row_tie rfl ⟨rfl, rfl⟩ (by kernel_rfl) rfl plain (by kernel_rfl)
#print axioms proved
end Go.Proofs.YtaebeemnipafbaaGreatDoor.logAdds
