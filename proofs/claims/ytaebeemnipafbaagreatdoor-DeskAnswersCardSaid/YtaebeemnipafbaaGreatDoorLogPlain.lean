/-
  Proved here: what a log is, plainly: its notes, the last note of a name, the map, what adding a note answers. No condition on any program.
-/
import Derived.Test.YtaebeemnipafbaaGreatDoorMapPlain
import Derived.Test.YtaebeemnipafbaaGreatDoorLeafs
import Derived.Test.YtaebeemnipafbaaGreatDoorSq
set_option linter.unusedSimpArgs false
set_option linter.unusedVariables false
set_option maxRecDepth 100000
set_option maxHeartbeats 200000000
namespace Go.Proofs.YtaebeemnipafbaaGreatDoor
def okB (b : UInt8) : Bool := decide (97 ≤ b.toNat ∧ b.toNat ≤ 122 ∨ 48 ≤ b.toNat ∧ b.toNat ≤ 57 ∨ b.toNat = 45)
def JM (l : List UInt8) : Bool := decide (0 < l.length ∧ l.length ≤ 30) && l.all okB
def Jf (l : List UInt8) : Nat := natE ((sha (12 :: l)).l.take 4)
structure NoteN where
 name : List UInt8
 key : Dig
 turn : Int
theorem NoteN.ext' {n m : NoteN} (h1 : n.name = m.name) (h2 : n.key = m.key) (h3 : n.turn = m.turn) : n = m := by
 cases n; cases m; simp_all
def KZ (n : NoteN) : List UInt8 := UInt8.ofNat n.name.length :: (n.name ++ (n.key.l ++ Mp 4 n.turn.toNat))
def JN (n : NoteN) : Bool := JM n.name && decide (0 ≤ n.turn ∧ n.turn < 4294967296)
def Jm (n : NoteN) : Dig := leafBN (KZ n)
theorem J0 {l : List UInt8} (h : JM l = true) : 0 < l.length ∧ l.length ≤ 30 := by
 rw [JM, Bool.and_eq_true] at h
 exact of_decide_eq_true h.1
theorem Nh (n : NoteN) : (KZ n).length = n.name.length + 37 := by
 simp [KZ, Mp, n.key.h]
def Ho : List NoteN → List UInt8 → Option Nat
 | [], _ => none
 | n :: ns, s => match Ho ns s with | some j => some (j + 1) | none => if n.name = s then some 0 else none
theorem Ny : ∀ (ns : List NoteN) (n : NoteN) (s : List UInt8), Ho (ns ++ [n]) s = if n.name = s then some ns.length else Ho ns s
 | [], n, s => by simp [Ho]
 | m :: ns, n, s => by
  rw [List.cons_append, Ho, Ny ns n s]
  by_cases h : n.name = s
  ·simp [h]
  ·simp only [h, if_false, Ho]
theorem JO : ∀ {ns : List NoteN} {s : List UInt8} {j : Nat}, Ho ns s = some j → ∃ n, ns[j]? = some n ∧ n.name = s
 | [], s, j, h => by cases h
 | m :: ns, s, j, h => by
  rw [Ho] at h
  cases hl : Ho ns s with
  | some i =>
   rw [hl] at h
   obtain rfl : i + 1 = j := Option.some.inj h
   exact JO (ns := ns) hl
  | none =>
   rw [hl] at h
   simp only at h
   split at h
   ·rename_i hm
    obtain rfl : 0 = j := Option.some.inj h
    exact ⟨m, rfl, hm⟩
   ·cases h
theorem Nz : ∀ {ns : List NoteN} {s : List UInt8}, Ho ns s = none ↔ ∀ n ∈ ns, n.name ≠ s
 | [], s => by simp [Ho]
 | m :: ns, s => by
  rw [Ho]
  cases hl : Ho ns s with
  | some i =>
   obtain ⟨n, h1, h2⟩ := JO hl
   simp only [reduceCtorEq, List.mem_cons, ne_eq, false_iff]
   intro h
   exact h n (.inr (List.mem_of_getElem? h1)) h2
  | none =>
   have := Nz.1 hl
   by_cases h : m.name = s
   ·simp [h]
   ·simp [h]
    exact this
theorem PC {ns : List NoteN} {s : List UInt8} {j : Nat} (h : Ho ns s = some j) : j < ns.length := by
 obtain ⟨n, h1, _⟩ := JO h
 exact (List.getElem?_eq_some_iff.1 h1).1
def lastN? (ns : List NoteN) (s : List UInt8) : Option NoteN := (Ho ns s).bind fun j => ns[j]?
theorem lastN_snoc (ns : List NoteN) (n : NoteN) (s : List UInt8) : lastN? (ns ++ [n]) s = if n.name = s then some n else lastN? ns s := by
 unfold lastN?
 rw [Ny]
 by_cases h : n.name = s
 ·simp [h]
 ·simp only [h, if_false]
  cases hl : Ho ns s with
  | none => rfl
  | some j => simp only [Option.bind_some]; rw [List.getElem?_append_left (PC hl)]
def Kg (ns : List NoteN) : Nat := ((List.range ns.length).filter fun i => decide ((ns[i]?.bind fun n => Ho ns n.name) = some i)).length
def MM (ns : List NoteN) (s : List UInt8) : Bool := ns.any fun n => decide (n.name ≠ s ∧ Jf n.name = Jf s)
def Kk (ns : List NoteN) (s : List UInt8) : Nat :=
 if JM s = true then (if 256 ≤ ns.length ∨ Ho ns s = none ∧ 64 ≤ Kg ns then 4 else if MM ns s = true then 7 else 0) else 1
def Ni (ns : List NoteN) (s : List UInt8) : Int := match lastN? ns s with | some n => n.turn + 1 | none => 0
def M0 (ns : List NoteN) (s : List UInt8) (k : Dig) : NoteN := ⟨s, k, Ni ns s⟩
def addL (ns : List NoteN) (s : List UInt8) (k : Dig) : List NoteN := if Kk ns s = 0 then ns ++ [M0 ns s k] else ns
inductive Logged : List NoteN → Prop
 | nil : Logged []
 | add {ns : List NoteN} {s : List UInt8} {k : Dig} : Logged ns → Kk ns s = 0 → Logged (ns ++ [M0 ns s k])
theorem Logged.addL {ns : List NoteN} (h : Logged ns) (s : List UInt8) (k : Dig) : Logged (addL ns s k) := by
 unfold Go.Proofs.YtaebeemnipafbaaGreatDoor.addL
 split
 ·exact .add h (by assumption)
 ·exact h
theorem KI {ns : List NoteN} {s : List UInt8} (h : Kk ns s = 0) : JM s = true ∧ ns.length < 256 ∧ (Ho ns s = none → Kg ns < 64) ∧ ∀ n ∈ ns, Jf n.name = Jf s → n.name = s := by
 unfold Kk at h
 by_cases h1 : JM s = true
 ·rw [if_pos h1] at h
  by_cases h2 : 256 ≤ ns.length ∨ Ho ns s = none ∧ 64 ≤ Kg ns
  ·rw [if_pos h2] at h; cases h
  rw [if_neg h2] at h
  by_cases h3 : MM ns s = true
  ·rw [if_pos h3] at h; cases h
  refine ⟨h1, by omega, fun e => ?_, fun n hn hi => ?_⟩
  ·by_cases h4 : 64 ≤ Kg ns
   ·exact absurd (.inr ⟨e, h4⟩) h2
   ·omega
  ·by_cases h4 : n.name = s
   ·exact h4
   ·exact absurd (List.any_eq_true.2 ⟨n, hn, decide_eq_true ⟨h4, hi⟩⟩) h3
 ·rw [if_neg h1] at h; cases h
theorem Logged.len {ns : List NoteN} (h : Logged ns) : ns.length ≤ 256 := by
 induction h with
 | nil => simp
 | add h0 he ih => have := (KI he).2.1; simp; omega
theorem Logged.nm {ns : List NoteN} (h : Logged ns) : ∀ n ∈ ns, JM n.name = true := by
 induction h with
 | nil => simp
 | add h0 he ih =>
  intro n hn
  rcases List.mem_append.1 hn with hn | hn
  ·exact ih n hn
  ·rw [List.mem_singleton.1 hn]; exact (KI he).1
theorem Logged.idx {ns : List NoteN} (h : Logged ns) : ∀ n ∈ ns, ∀ m ∈ ns, Jf n.name = Jf m.name → n.name = m.name := by
 induction h with
 | nil => simp
 | @add ns s k h0 he ih =>
  intro n hn m hm hi
  have hs := (KI he).2.2.2
  rcases List.mem_append.1 hn with hn | hn
  ·rcases List.mem_append.1 hm with hm | hm
   ·exact ih n hn m hm hi
   ·rw [List.mem_singleton.1 hm] at hi ⊢; exact hs n hn hi
  ·rcases List.mem_append.1 hm with hm | hm
   ·rw [List.mem_singleton.1 hn] at hi ⊢; exact (hs m hm hi.symm).symm
   ·rw [List.mem_singleton.1 hn, List.mem_singleton.1 hm]
theorem Logged.turnOf {ns : List NoteN} (h : Logged ns) : ∀ s, Ni ns s = ((ns.countP fun n => decide (n.name = s) : Nat) : Int) := by
 induction h with
 | nil => intro s; rfl
 | @add ns s k h0 he ih =>
  intro t
  unfold Ni
  rw [lastN_snoc, List.countP_append, List.countP_singleton]
  by_cases ht : s = t
  ·subst ht
   have := ih s
   simp only [M0, if_true, decide_true]
   rw [this]
   simp
  ·have := ih t
   unfold Ni at this
   simp only [M0, ht, if_false, decide_false, Bool.false_eq_true, Nat.add_zero]
   exact this
theorem Logged.turn_le {ns : List NoteN} (h : Logged ns) (s : List UInt8) : 0 ≤ Ni ns s ∧ Ni ns s ≤ ns.length := by
 rw [h.turnOf]
 have := List.countP_le_length (p := fun n : NoteN => decide (n.name = s)) (l := ns)
 omega
theorem Logged.new_ok {ns : List NoteN} (h : Logged ns) {s : List UInt8} (hs : JM s = true) (k : Dig) : JN (M0 ns s k) = true := by
 have h1 := h.turn_le s
 have h2 := h.len
 unfold JN M0
 rw [Bool.and_eq_true]
 exact ⟨hs, decide_eq_true ⟨h1.1, by show Ni ns s < _; omega⟩⟩
theorem Logged.ok {ns : List NoteN} (h : Logged ns) : ∀ n ∈ ns, JN n = true := by
 induction h with
 | nil => simp
 | @add ns s k h0 he ih =>
  intro n hn
  rcases List.mem_append.1 hn with hn | hn
  ·exact ih n hn
  ·rw [List.mem_singleton.1 hn]; exact h0.new_ok (KI he).1 k
def lgF (ns : List NoteN) (k : Nat) : Dig := match ns.reverse.find? (fun n => Jf n.name == k) with | some n => K2 k (Jm n) | none => GM
theorem lgF_snoc (ns : List NoteN) (n : NoteN) (k : Nat) : lgF (ns ++ [n]) k = if Jf n.name = k then K2 k (Jm n) else lgF ns k := by
 unfold lgF
 rw [List.reverse_append, List.reverse_singleton, List.singleton_append, List.find?_cons]
 by_cases h : Jf n.name = k
 ·simp [h]
 ·rw [beq_eq_false_iff_ne.2 h, if_neg h]
theorem Logged.lgF_at {ns : List NoteN} (h : Logged ns) : ∀ {s n}, lastN? ns s = some n → lgF ns (Jf s) = K2 (Jf s) (Jm n) := by
 induction h with
 | nil => intro s n hn; cases hn
 | @add ns t k h0 he ih =>
  intro s n hn
  rw [lastN_snoc] at hn
  rw [lgF_snoc]
  by_cases ht : t = s
  ·subst ht
   simp only [M0, if_true, Option.some.injEq] at hn
   subst hn
   simp only [M0, if_true]
  ·simp only [M0, ht, if_false] at hn
   have hne : Jf t ≠ Jf s := by
    intro hi
    unfold lastN? at hn
    cases hl : Ho ns s with
    | none => rw [hl] at hn; cases hn
    | some j =>
     obtain ⟨m, hm1, hm2⟩ := JO hl
     have := (KI he).2.2.2 m (List.mem_of_getElem? hm1) (by rw [hm2, hi])
     exact ht (this.symm.trans hm2)
   simp only [M0, hne, if_false]
   exact ih hn
theorem lgF_none {ns : List NoteN} {k : Nat} (h : ∀ n ∈ ns, Jf n.name ≠ k) : lgF ns k = GM := by
 unfold lgF
 rw [List.find?_eq_none.2 (fun n hn => by simpa using h n (List.mem_reverse.1 hn))]
theorem Mo (s : List UInt8) : Jf s < 4294967296 := by
 unfold Jf
 have h := natE_lt ((sha (12 :: s)).l.take 4)
 have hl : ((sha (12 :: s)).l.take 4).length = 4 := by rw [List.length_take, Dig.h]; rfl
 rw [hl] at h
 exact h
def lvN (ns : List NoteN) : List Dig := ns.map Jm
def Jz (ns : List NoteN) : Dig := Jy (lgF ns) 32 0
end Go.Proofs.YtaebeemnipafbaaGreatDoor
