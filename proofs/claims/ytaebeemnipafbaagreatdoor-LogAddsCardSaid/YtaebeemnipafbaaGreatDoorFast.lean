/-
  Proved here: the plain digest, reckoned in numbers alone: for closed texts the kernel can reckon it. No program in sight.
-/
import Derived.Test.YtaebeemnipafbaaGreatDoorShaSpec
set_option linter.unusedSimpArgs false
set_option linter.unusedVariables false
namespace Go.Proofs.YtaebeemnipafbaaGreatDoor

/-- x is reckoned, then handed on -/
def force {α : Type} (x : Nat) (k : Nat → α) : α := Nat.rec (k 0) (fun n _ => k (Nat.succ n)) x
theorem force_eq {α : Type} (x : Nat) (k : Nat → α) : force x k = k x := by
  cases x <;> rfl

def fAdd (x y : Nat) : Nat := Nat.mod (Nat.add x y) 4294967296
def fRot (x s : Nat) (t : Nat) : Nat := Nat.lor (Nat.shiftRight x s) (Nat.mod (Nat.shiftLeft x t) 4294967296)
def fS1 (e : Nat) : Nat := Nat.xor (Nat.xor (fRot e 6 26) (fRot e 11 21)) (fRot e 25 7)
def fS0 (a : Nat) : Nat := Nat.xor (Nat.xor (fRot a 2 30) (fRot a 13 19)) (fRot a 22 10)
def fs0 (x : Nat) : Nat := Nat.xor (Nat.xor (fRot x 7 25) (fRot x 18 14)) (Nat.shiftRight x 3)
def fs1 (y : Nat) : Nat := Nat.xor (Nat.xor (fRot y 17 15) (fRot y 19 13)) (Nat.shiftRight y 10)
def fCh (e f g : Nat) : Nat := Nat.xor (Nat.land e f) (Nat.land (Nat.sub 4294967295 e) g)
def fMaj (a b c : Nat) : Nat := Nat.xor (Nat.xor (Nat.land a b) (Nat.land a c)) (Nat.land b c)
def fP (e f g h k w : Nat) : Nat := fAdd (fAdd (fAdd (fAdd h (fS1 e)) (fCh e f g)) k) w
def fQ (a b c : Nat) : Nat := fAdd (fS0 a) (fMaj a b c)
def fW (w0 w1 w9 w14 : Nat) : Nat := fAdd (fAdd (fAdd (fs1 w14) w9) (fs0 w1)) w0

/-- the rounds -/
def fl {α : Type} : List Nat → Nat → Nat → Nat → Nat → Nat → Nat → Nat → Nat → Nat → Nat → Nat → Nat → Nat → Nat → Nat → Nat → Nat → Nat → Nat → Nat → Nat → Nat → Nat → Nat → (Nat → Nat → Nat → Nat → Nat → Nat → Nat → Nat → α) → α
  | [], _, _, _, _, _, _, _, _, _, _, _, _, _, _, _, _, a, b, c, d, e, f, g, h, K => K a b c d e f g h
  | k :: ks, w0, w1, w2, w3, w4, w5, w6, w7, w8, w9, w10, w11, w12, w13, w14, w15, a, b, c, d, e, f, g, h, K => force (fP e f g h k w0) fun p => force (fW w0 w1 w9 w14) fun w16 => force (fAdd p (fQ a b c)) fun a' => force (fAdd d p) fun e' => fl ks w1 w2 w3 w4 w5 w6 w7 w8 w9 w10 w11 w12 w13 w14 w15 w16 a' a b c e' e f g K

theorem n_add (x y : Wd) : (x.add y).n = fAdd x.n y.n := rfl
theorem n_xor (x y : Wd) : (x.xor y).n = Nat.xor x.n y.n := rfl
theorem n_and (x y : Wd) : (x.and y).n = Nat.land x.n y.n := rfl
theorem n_or (x y : Wd) : (x.or y).n = Nat.lor x.n y.n := rfl
theorem n_not (x : Wd) : (x.not).n = Nat.sub 4294967295 x.n := rfl
theorem n_shr (x : Wd) (c : Nat) : (x.shr c).n = Nat.shiftRight x.n c := rfl
theorem n_rot (x : Wd) (c : Nat) : (x.rot c).n = fRot x.n c (32 - c) := rfl
theorem n_sig0 (x : Wd) : (sig0 x).n = fs0 x.n := by simp only [sig0, n_xor, n_rot, n_shr, Nat.reduceSub, fs0]
theorem n_sig1 (x : Wd) : (sig1 x).n = fs1 x.n := by simp only [sig1, n_xor, n_rot, n_shr, Nat.reduceSub, fs1]
theorem n_S1 (x : Wd) : (x.turned 6 11 25).n = fS1 x.n := by simp only [Wd.turned, n_xor, n_rot, Nat.reduceSub, fS1]
theorem n_S0 (x : Wd) : (x.turned 2 13 22).n = fS0 x.n := by simp only [Wd.turned, n_xor, n_rot, Nat.reduceSub, fS0]
theorem rnd_p (v : S8) (k w : Wd) : ((((v.h.add (v.e.turned 6 11 25)).add ((v.e.and v.f).xor (v.e.not.and v.g))).add k).add w).n = fP v.e.n v.f.n v.g.n v.h.n k.n w.n := by
  simp only [n_add, n_xor, n_and, n_not, n_S1, fP, fCh]
theorem rnd_q (v : S8) : ((v.a.turned 2 13 22).add (((v.a.and v.b).xor (v.a.and v.c)).xor (v.b.and v.c))).n = fQ v.a.n v.b.n v.c.n := by
  simp only [n_add, n_xor, n_and, n_S0, fQ, fMaj]
theorem rnd_a (v : S8) (k w : Wd) : (rnd v k w).a.n = fAdd (fP v.e.n v.f.n v.g.n v.h.n k.n w.n) (fQ v.a.n v.b.n v.c.n) := by
  simp only [rnd, n_add, ← rnd_p, ← rnd_q]
theorem rnd_e (v : S8) (k w : Wd) : (rnd v k w).e.n = fAdd v.d.n (fP v.e.n v.f.n v.g.n v.h.n k.n w.n) := by
  simp only [rnd, n_add, ← rnd_p]
theorem getD_app1 {l r : List Wd} {t : Nat} (h : t < l.length) (z : Wd) : (l ++ r).getD t z = l.getD t z := by
  simp only [List.getD_eq_getElem?_getD, List.getElem?_append, h, if_true]
theorem getD_app2 {l : List Wd} {x : Wd} (z : Wd) : (l ++ [x]).getD l.length z = x := by
  simp [List.getD_eq_getElem?_getD]
theorem Wd.tbl_n (t : Nat) (ht : t < 64) : (tbl t).n = tableN.getD t 0 := by
  have hl : tableN.length = 64 := by decide
  have hlt : ∀ n ∈ tableN, n < 4294967296 := by decide
  have hk : t < tableN.length := by omega
  have := hlt _ (List.getElem_mem hk)
  simp only [tbl, Wd.mk', List.getD_eq_getElem?_getD, List.getElem?_eq_getElem hk, Option.getD_some, Nat.mod_eq_of_lt this]

/-- the t-th word of all that a block gives -/
def wAt (b : List UInt8) (t : Nat) : Wd := (sched b (t + 1)).getD t zW
theorem sched_getD (b : List UInt8) (t : Nat) : ∀ m, t < m → (sched b m).getD t zW = wAt b t
  | 0, h => by omega
  | m + 1, h => by
    by_cases hm : t = m
    · subst hm; rfl
    · have ih := sched_getD b t m (by omega)
      have hl := length_sched b m
      unfold sched
      split
      · rw [← ih, getD_app1 (by omega)]
      · rw [← ih, getD_app1 (by omega)]
theorem wAt_next (b : List UInt8) (t : Nat) : (wAt b (t + 16)).n = fW (wAt b t).n (wAt b (t + 1)).n (wAt b (t + 9)).n (wAt b (t + 14)).n := by
  have hl := length_sched b (t + 16)
  have h : wAt b (t + 16) = nextW (sched b (t + 16)) := by
    unfold wAt
    rw [sched, if_neg (by omega)]
    have := getD_app2 (l := sched b (t + 16)) (x := nextW (sched b (t + 16))) zW
    rwa [hl] at this
  rw [h, nextW, hl]
  rw [show t + 16 - 2 = t + 14 by omega, show t + 16 - 7 = t + 9 by omega, show t + 16 - 15 = t + 1 by omega, show t + 16 - 16 = t by omega]
  rw [sched_getD b (t + 14) _ (by omega), sched_getD b (t + 9) _ (by omega), sched_getD b (t + 1) _ (by omega), sched_getD b t _ (by omega)]
  simp only [n_add, n_sig0, n_sig1, fW]
theorem fl_eq {α : Type} (b : List UInt8) (s : S8) (K : Nat → Nat → Nat → Nat → Nat → Nat → Nat → Nat → α) : ∀ (m t : Nat), t + m = 64 →
    fl (tableN.drop t) (wAt b (t + 0)).n (wAt b (t + 1)).n (wAt b (t + 2)).n (wAt b (t + 3)).n (wAt b (t + 4)).n (wAt b (t + 5)).n (wAt b (t + 6)).n (wAt b (t + 7)).n (wAt b (t + 8)).n (wAt b (t + 9)).n (wAt b (t + 10)).n (wAt b (t + 11)).n (wAt b (t + 12)).n (wAt b (t + 13)).n (wAt b (t + 14)).n (wAt b (t + 15)).n (rounds b s t).a.n (rounds b s t).b.n (rounds b s t).c.n (rounds b s t).d.n (rounds b s t).e.n (rounds b s t).f.n (rounds b s t).g.n (rounds b s t).h.n K = K (rounds b s 64).a.n (rounds b s 64).b.n (rounds b s 64).c.n (rounds b s 64).d.n (rounds b s 64).e.n (rounds b s 64).f.n (rounds b s 64).g.n (rounds b s 64).h.n
  | 0, t, h => by
    obtain rfl : t = 64 := by omega
    rw [show tableN.drop 64 = [] from by decide]
    rw [fl]
  | m + 1, t, h => by
    have ht : t < 64 := by omega
    have hl : tableN.length = 64 := by decide
    have hd : tableN.drop t = (tbl t).n :: tableN.drop (t + 1) := by
      rw [List.drop_eq_getElem_cons (by omega), Wd.tbl_n t ht]
      congr 1
      simp only [List.getD_eq_getElem?_getD, List.getElem?_eq_getElem (show t < tableN.length by omega), Option.getD_some]
    have ih := fl_eq b s K m (t + 1) (by omega)
    rw [hd]
    unfold fl
    simp only [force_eq]
    rw [← ih]
    clear ih hd
    have hw : (sched b 64).getD t zW = wAt b t := sched_getD b t 64 ht
    have hn : fW (wAt b (t + 0)).n (wAt b (t + 1)).n (wAt b (t + 9)).n (wAt b (t + 14)).n = (wAt b (t + 16)).n := (wAt_next b t).symm
    have hr : rounds b s (t + 1) = rnd (rounds b s t) (tbl t) (wAt b t) := by rw [rounds, hw]
    rw [hn, hr]
    simp only [show t + 1 + 0 = t + 1 by omega, show t + 1 + 1 = t + 2 by omega, show t + 1 + 2 = t + 3 by omega, show t + 1 + 3 = t + 4 by omega, show t + 1 + 4 = t + 5 by omega, show t + 1 + 5 = t + 6 by omega, show t + 1 + 6 = t + 7 by omega, show t + 1 + 7 = t + 8 by omega, show t + 1 + 8 = t + 9 by omega, show t + 1 + 9 = t + 10 by omega, show t + 1 + 10 = t + 11 by omega, show t + 1 + 11 = t + 12 by omega, show t + 1 + 12 = t + 13 by omega, show t + 1 + 13 = t + 14 by omega, show t + 1 + 14 = t + 15 by omega, show t + 1 + 15 = t + 16 by omega, rnd_a, rnd_e, Nat.add_zero]
    rfl

/-- one block, its sums reckoned -/
def fBlock {α : Type} (w0 w1 w2 w3 w4 w5 w6 w7 w8 w9 w10 w11 w12 w13 w14 w15 a b c d e f g h : Nat) (K : Nat → Nat → Nat → Nat → Nat → Nat → Nat → Nat → α) : α :=
  fl tableN w0 w1 w2 w3 w4 w5 w6 w7 w8 w9 w10 w11 w12 w13 w14 w15 a b c d e f g h fun a1 b1 c1 d1 e1 f1 g1 h1 => force (fAdd a1 a) fun a2 => force (fAdd b1 b) fun b2 => force (fAdd c1 c) fun c2 => force (fAdd d1 d) fun d2 => force (fAdd e1 e) fun e2 => force (fAdd f1 f) fun f2 => force (fAdd g1 g) fun g2 => force (fAdd h1 h) fun h2 => K a2 b2 c2 d2 e2 f2 g2 h2
theorem fBlock_eq {α : Type} (b : List UInt8) (s : S8) (K : Nat → Nat → Nat → Nat → Nat → Nat → Nat → Nat → α) :
    fBlock (wAt b 0).n (wAt b 1).n (wAt b 2).n (wAt b 3).n (wAt b 4).n (wAt b 5).n (wAt b 6).n (wAt b 7).n (wAt b 8).n (wAt b 9).n (wAt b 10).n (wAt b 11).n (wAt b 12).n (wAt b 13).n (wAt b 14).n (wAt b 15).n s.a.n s.b.n s.c.n s.d.n s.e.n s.f.n s.g.n s.h.n K = K (blockS s b).a.n (blockS s b).b.n (blockS s b).c.n (blockS s b).d.n (blockS s b).e.n (blockS s b).f.n (blockS s b).g.n (blockS s b).h.n := by
  have h := fl_eq b s (fun a1 b1 c1 d1 e1 f1 g1 h1 => K (fAdd a1 s.a.n) (fAdd b1 s.b.n) (fAdd c1 s.c.n) (fAdd d1 s.d.n) (fAdd e1 s.e.n) (fAdd f1 s.f.n) (fAdd g1 s.g.n) (fAdd h1 s.h.n)) 64 0 (by omega)
  simp only [List.drop_zero, Nat.zero_add] at h
  unfold fBlock
  simp only [force_eq]
  exact h

/-! ## bytes as numbers -/
def ofNs (l : List Nat) : List UInt8 := l.map UInt8.ofNat
def fPack : List Nat → List Nat
  | b0 :: b1 :: b2 :: b3 :: r => force (Nat.lor (Nat.lor (Nat.lor (Nat.mod (Nat.shiftLeft b0 24) 4294967296) (Nat.mod (Nat.shiftLeft b1 16) 4294967296)) (Nat.mod (Nat.shiftLeft b2 8) 4294967296)) b3) fun w => w :: fPack r
  | _ => []
def fBlocks : Nat → List Nat → Nat → Nat → Nat → Nat → Nat → Nat → Nat → Nat → List Nat
  | 0, _, a, b, c, d, e, f, g, h => [a, b, c, d, e, f, g, h]
  | n + 1, ws, a, b, c, d, e, f, g, h => match ws with
    | w0 :: w1 :: w2 :: w3 :: w4 :: w5 :: w6 :: w7 :: w8 :: w9 :: w10 :: w11 :: w12 :: w13 :: w14 :: w15 :: r => fBlock w0 w1 w2 w3 w4 w5 w6 w7 w8 w9 w10 w11 w12 w13 w14 w15 a b c d e f g h fun a1 b1 c1 d1 e1 f1 g1 h1 => fBlocks n r a1 b1 c1 d1 e1 f1 g1 h1
    | _ => []
def fBytes (w : Nat) : List Nat := [Nat.mod (Nat.shiftRight w 24) 256, Nat.mod (Nat.shiftRight w 16) 256, Nat.mod (Nat.shiftRight w 8) 256, Nat.mod w 256]
def fEight (n : Nat) : List Nat := [Nat.mod (Nat.shiftRight n 56) 256, Nat.mod (Nat.shiftRight n 48) 256, Nat.mod (Nat.shiftRight n 40) 256, Nat.mod (Nat.shiftRight n 32) 256, Nat.mod (Nat.shiftRight n 24) 256, Nat.mod (Nat.shiftRight n 16) 256, Nat.mod (Nat.shiftRight n 8) 256, Nat.mod n 256]
def fForceL {α : Type} : List Nat → (List Nat → α) → α
  | [], k => k []
  | x :: l, k => force x fun y => fForceL l fun r => k (y :: r)
theorem fForceL_eq {α : Type} : ∀ (l : List Nat) (k : List Nat → α), fForceL l k = k l
  | [], _ => rfl
  | x :: l, k => by unfold fForceL; rw [force_eq, fForceL_eq l]
def fPad (l : List Nat) : List Nat := l ++ (128 :: (List.replicate (zerosFor l.length) 0 ++ fEight (l.length * 8 % 18446744073709551616)))
/-- the digest of bytes below 256, as numbers -/
def fSha (l : List Nat) : List Nat :=
  fForceL ((fBlocks ((fPad l).length / 64) (fPack (fPad l)) 1779033703 3144134277 1013904242 2773480762 1359893119 2600822924 528734635 1541459225).flatMap fBytes) id

/-! ## that it is the digest -/
def small (l : List Nat) : Prop := ∀ x ∈ l, x < 256
theorem ofNs_get (ns : List Nat) (h : small ns) (i : Nat) (hi : i < ns.length) : ((ofNs ns).getD i 0).toNat = ns[i] := by
  have := h _ (List.getElem_mem hi)
  simp only [ofNs, List.getD_eq_getElem?_getD, List.getElem?_map, List.getElem?_eq_getElem hi, Option.map_some, Option.getD_some]
  rw [UInt8.toNat_ofNat']
  omega
theorem fPack_step (ns : List Nat) (h : small ns) (t : Nat) (ht : 4 * t + 4 ≤ ns.length) : fPack (ns.drop (4 * t)) = (word (ofNs ns) t).n :: fPack (ns.drop (4 * (t + 1))) := by
  rw [List.drop_eq_getElem_cons (by omega), List.drop_eq_getElem_cons (by omega), List.drop_eq_getElem_cons (by omega), List.drop_eq_getElem_cons (by omega)]
  rw [fPack, force_eq, show 4 * t + 1 + 1 + 1 + 1 = 4 * (t + 1) by omega]
  refine congrArg (fun x => x :: fPack (ns.drop (4 * (t + 1)))) ?_
  have hs : ∀ (x : Wd) (c : Nat), (x.shl c).n = Nat.mod (Nat.shiftLeft x.n c) 4294967296 := fun _ _ => rfl
  have hb : ∀ x : UInt8, (Wd.ofByte x).n = x.toNat := fun _ => rfl
  simp only [word, n_or, hs, hb]
  rw [← ofNs_get ns h (4 * t) (by omega), ← ofNs_get ns h (4 * t + 1) (by omega), ← ofNs_get ns h (4 * t + 1 + 1) (by omega), ← ofNs_get ns h (4 * t + 1 + 1 + 1) (by omega)]
theorem wAt_word (b : List UInt8) (t : Nat) (ht : t < 16) : wAt b t = word b t := by
  have hl := length_sched b t
  unfold wAt
  rw [sched, if_pos ht]
  have := getD_app2 (l := sched b t) (x := word b t) zW
  rwa [hl] at this
theorem fPack_16 (ns : List Nat) (h : small ns) (hl : 64 ≤ ns.length) :
    fPack ns = (wAt (ofNs ns) 0).n :: (wAt (ofNs ns) 1).n :: (wAt (ofNs ns) 2).n :: (wAt (ofNs ns) 3).n :: (wAt (ofNs ns) 4).n :: (wAt (ofNs ns) 5).n :: (wAt (ofNs ns) 6).n :: (wAt (ofNs ns) 7).n :: (wAt (ofNs ns) 8).n :: (wAt (ofNs ns) 9).n :: (wAt (ofNs ns) 10).n :: (wAt (ofNs ns) 11).n :: (wAt (ofNs ns) 12).n :: (wAt (ofNs ns) 13).n :: (wAt (ofNs ns) 14).n :: (wAt (ofNs ns) 15).n :: fPack (ns.drop 64) := by
  have h0 : fPack (ns.drop 0) = (wAt (ofNs ns) 0).n :: fPack (ns.drop 4) := by
    rw [wAt_word (ofNs ns) 0 (by decide)]
    exact fPack_step ns h 0 (by omega)
  have h1 : fPack (ns.drop 4) = (wAt (ofNs ns) 1).n :: fPack (ns.drop 8) := by
    rw [wAt_word (ofNs ns) 1 (by decide)]
    exact fPack_step ns h 1 (by omega)
  have h2 : fPack (ns.drop 8) = (wAt (ofNs ns) 2).n :: fPack (ns.drop 12) := by
    rw [wAt_word (ofNs ns) 2 (by decide)]
    exact fPack_step ns h 2 (by omega)
  have h3 : fPack (ns.drop 12) = (wAt (ofNs ns) 3).n :: fPack (ns.drop 16) := by
    rw [wAt_word (ofNs ns) 3 (by decide)]
    exact fPack_step ns h 3 (by omega)
  have h4 : fPack (ns.drop 16) = (wAt (ofNs ns) 4).n :: fPack (ns.drop 20) := by
    rw [wAt_word (ofNs ns) 4 (by decide)]
    exact fPack_step ns h 4 (by omega)
  have h5 : fPack (ns.drop 20) = (wAt (ofNs ns) 5).n :: fPack (ns.drop 24) := by
    rw [wAt_word (ofNs ns) 5 (by decide)]
    exact fPack_step ns h 5 (by omega)
  have h6 : fPack (ns.drop 24) = (wAt (ofNs ns) 6).n :: fPack (ns.drop 28) := by
    rw [wAt_word (ofNs ns) 6 (by decide)]
    exact fPack_step ns h 6 (by omega)
  have h7 : fPack (ns.drop 28) = (wAt (ofNs ns) 7).n :: fPack (ns.drop 32) := by
    rw [wAt_word (ofNs ns) 7 (by decide)]
    exact fPack_step ns h 7 (by omega)
  have h8 : fPack (ns.drop 32) = (wAt (ofNs ns) 8).n :: fPack (ns.drop 36) := by
    rw [wAt_word (ofNs ns) 8 (by decide)]
    exact fPack_step ns h 8 (by omega)
  have h9 : fPack (ns.drop 36) = (wAt (ofNs ns) 9).n :: fPack (ns.drop 40) := by
    rw [wAt_word (ofNs ns) 9 (by decide)]
    exact fPack_step ns h 9 (by omega)
  have h10 : fPack (ns.drop 40) = (wAt (ofNs ns) 10).n :: fPack (ns.drop 44) := by
    rw [wAt_word (ofNs ns) 10 (by decide)]
    exact fPack_step ns h 10 (by omega)
  have h11 : fPack (ns.drop 44) = (wAt (ofNs ns) 11).n :: fPack (ns.drop 48) := by
    rw [wAt_word (ofNs ns) 11 (by decide)]
    exact fPack_step ns h 11 (by omega)
  have h12 : fPack (ns.drop 48) = (wAt (ofNs ns) 12).n :: fPack (ns.drop 52) := by
    rw [wAt_word (ofNs ns) 12 (by decide)]
    exact fPack_step ns h 12 (by omega)
  have h13 : fPack (ns.drop 52) = (wAt (ofNs ns) 13).n :: fPack (ns.drop 56) := by
    rw [wAt_word (ofNs ns) 13 (by decide)]
    exact fPack_step ns h 13 (by omega)
  have h14 : fPack (ns.drop 56) = (wAt (ofNs ns) 14).n :: fPack (ns.drop 60) := by
    rw [wAt_word (ofNs ns) 14 (by decide)]
    exact fPack_step ns h 14 (by omega)
  have h15 : fPack (ns.drop 60) = (wAt (ofNs ns) 15).n :: fPack (ns.drop 64) := by
    rw [wAt_word (ofNs ns) 15 (by decide)]
    exact fPack_step ns h 15 (by omega)
  have e : fPack ns = fPack (ns.drop 0) := by rw [List.drop_zero]
  rw [e, h0, h1, h2, h3, h4, h5, h6, h7, h8, h9, h10, h11, h12, h13, h14, h15]
theorem blocksS_front (s : S8) (b : List UInt8) : ∀ n, blocksS s b (n + 1) = blocksS (blockS s b) (b.drop 64) n
  | 0 => rfl
  | n + 1 => by
    rw [blocksS, blocksS_front s b n, blocksS, List.drop_drop]
    congr 2
    omega
theorem fBlocks_eq : ∀ (n : Nat) (ns : List Nat) (s : S8), small ns → 64 * n ≤ ns.length →
    fBlocks n (fPack ns) s.a.n s.b.n s.c.n s.d.n s.e.n s.f.n s.g.n s.h.n = [(blocksS s (ofNs ns) n).a.n, (blocksS s (ofNs ns) n).b.n, (blocksS s (ofNs ns) n).c.n, (blocksS s (ofNs ns) n).d.n, (blocksS s (ofNs ns) n).e.n, (blocksS s (ofNs ns) n).f.n, (blocksS s (ofNs ns) n).g.n, (blocksS s (ofNs ns) n).h.n]
  | 0, _, _, _, _ => rfl
  | n + 1, ns, s, h, hl => by
    have ih := fBlocks_eq n (ns.drop 64) (blockS s (ofNs ns)) (fun x hx => h x (List.mem_of_mem_drop hx)) (by rw [List.length_drop]; omega)
    have hd : ofNs (ns.drop 64) = (ofNs ns).drop 64 := by simp [ofNs, List.map_drop]
    rw [hd, ← blocksS_front] at ih
    rw [fPack_16 ns h (by omega)]
    unfold fBlocks
    simp only
    rw [fBlock_eq]
    exact ih
theorem ofNat_mod (n : Nat) : UInt8.ofNat (Nat.mod n 256) = UInt8.ofNat n := by
  apply UInt8.toNat_inj.1
  rw [UInt8.toNat_ofNat', UInt8.toNat_ofNat']
  show n % 256 % 256 = n % 256
  omega
theorem eight_of (n : Nat) : eight n = ofNs (fEight n) := by
  simp only [ofNs, fEight, List.map_cons, List.map_nil, ofNat_mod]
  rfl
theorem bytes_of (w : Wd) : wordBytes w = ofNs (fBytes w.n) := by
  simp only [ofNs, fBytes, List.map_cons, List.map_nil, ofNat_mod]
  rfl
theorem padded_of (ns : List Nat) : padded (ofNs ns) = ofNs (fPad ns) := by
  have hl : (ofNs ns).length = ns.length := by simp [ofNs]
  unfold padded fPad
  rw [hl, eight_of]
  simp [ofNs, List.map_append, List.map_replicate]
theorem small_pad (ns : List Nat) (h : small ns) : small (fPad ns) := by
  intro x hx
  simp only [fPad, List.mem_append, List.mem_cons, List.mem_replicate] at hx
  rcases hx with hx | rfl | ⟨_, rfl⟩ | hx
  · exact h x hx
  · omega
  · omega
  · simp only [fEight, List.mem_cons, List.not_mem_nil, or_false] at hx
    rcases hx with rfl | rfl | rfl | rfl | rfl | rfl | rfl | rfl <;> exact Nat.mod_lt _ (by omega)
theorem fSha_eq (ns : List Nat) (h : small ns) : (sha (ofNs ns)).l = ofNs (fSha ns) := by
  have hl : (padded (ofNs ns)).length = (fPad ns).length := by rw [padded_of]; simp [ofNs]
  show (blocksS begS (padded (ofNs ns)) ((padded (ofNs ns)).length / 64)).bytes = _
  rw [hl, padded_of]
  have := fBlocks_eq ((fPad ns).length / 64) (fPad ns) begS (small_pad ns h) (by omega)
  unfold fSha
  rw [fForceL_eq]
  have hb : ∀ x, x = fBlocks ((fPad ns).length / 64) (fPack (fPad ns)) 1779033703 3144134277 1013904242 2773480762 1359893119 2600822924 528734635 1541459225 → _ := fun x hx => hx.trans this
  rw [hb _ rfl]
  generalize blocksS begS (ofNs (fPad ns)) ((fPad ns).length / 64) = s
  simp only [S8.bytes, bytes_of, List.flatMap_cons, List.flatMap_nil, id, List.append_nil, ofNs, List.map_append, List.append_assoc]
theorem small_dec {l : List Nat} (h : l.all (fun x => Nat.blt x 256) = true) : small l := by
  intro x hx
  have := List.all_eq_true.1 h x hx
  simpa [Nat.blt_eq] using this
example : fSha [97, 98, 99] = [186, 120, 22, 191, 143, 1, 207, 234, 65, 65, 64, 222, 93, 174, 34, 35, 176, 3, 97, 163, 150, 23, 122, 156, 180, 16, 255, 97, 242, 0, 21, 173] := by decide +kernel
end Go.Proofs.YtaebeemnipafbaaGreatDoor
