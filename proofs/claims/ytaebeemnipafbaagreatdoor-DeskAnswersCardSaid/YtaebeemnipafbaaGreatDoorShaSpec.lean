/-
  Proved here: nothing but the plain function of the digest: its words, its rounds, its blocks, its bytes. No program in sight.
-/
import Derived.Test.YtaebeemnipafbaaGreatDoorWord
import Derived.Test.YtaebeemnipafbaaGreatDoorSq
set_option linter.unusedSimpArgs false
set_option linter.unusedVariables false
set_option maxRecDepth 100000
set_option maxHeartbeats 200000000
namespace Go.Proofs.YtaebeemnipafbaaGreatDoor
def Wd.ofByte (b : UInt8) : Wd := ⟨b.toNat, by have := UInt8.toNat_lt b; omega⟩
def wd (n : Nat) (h : n < 4294967296) : Wd := ⟨n, h⟩
structure S8 where
 a : Wd
 b : Wd
 c : Wd
 d : Wd
 e : Wd
 f : Wd
 g : Wd
 h : Wd
def S8.arr (s : S8) : Array Value := #[wV s.a, wV s.b, wV s.c, wV s.d, wV s.e, wV s.f, wV s.g, wV s.h]
def S8.get (s : S8) : Nat → Wd
 | 0 => s.a
 | 1 => s.b
 | 2 => s.c
 | 3 => s.d
 | 4 => s.e
 | 5 => s.f
 | 6 => s.g
 | _ => s.h
def S8.add (v s : S8) : S8 := ⟨v.a.add s.a, v.b.add s.b, v.c.add s.c, v.d.add s.d, v.e.add s.e, v.f.add s.f, v.g.add s.g, v.h.add s.h⟩
def word (b : List UInt8) (t : Nat) : Wd :=
 ((((Wd.ofByte (b.getD (4 * t) 0)).shl 24).or ((Wd.ofByte (b.getD (4 * t + 1) 0)).shl 16)).or ((Wd.ofByte (b.getD (4 * t + 2) 0)).shl 8)).or (Wd.ofByte (b.getD (4 * t + 3) 0))
def zW : Wd := ⟨0, by omega⟩
def sig0 (x : Wd) : Wd := ((x.rot 7).xor (x.rot 18)).xor (x.shr 3)
def sig1 (y : Wd) : Wd := ((y.rot 17).xor (y.rot 19)).xor (y.shr 10)
def nextW (l : List Wd) : Wd := (((sig1 (l.getD (l.length - 2) zW)).add (l.getD (l.length - 7) zW)).add (sig0 (l.getD (l.length - 15) zW))).add (l.getD (l.length - 16) zW)
def JD (b : List UInt8) : Nat → List Wd
 | 0 => []
 | n + 1 => if n < 16 then JD b n ++ [word b n] else JD b n ++ [nextW (JD b n)]
theorem Ks (b : List UInt8) : ∀ n, (JD b n).length = n
 | 0 => rfl
 | n + 1 => by
  unfold JD
  split <;> simp [Ks b n]
def rnd (v : S8) (k w : Wd) : S8 :=
 let p := ((((v.h.add (v.e.turned 6 11 25)).add ((v.e.and v.f).xor (v.e.not.and v.g))).add k).add w)
 let q := (v.a.turned 2 13 22).add (((v.a.and v.b).xor (v.a.and v.c)).xor (v.b.and v.c))
 ⟨p.add q, v.a, v.b, v.c, v.d.add p, v.e, v.f, v.g⟩
def Pw : List Nat := [
  0x428a2f98, 0x71374491, 0xb5c0fbcf, 0xe9b5dba5, 0x3956c25b, 0x59f111f1, 0x923f82a4, 0xab1c5ed5,
  0xd807aa98, 0x12835b01, 0x243185be, 0x550c7dc3, 0x72be5d74, 0x80deb1fe, 0x9bdc06a7, 0xc19bf174,
  0xe49b69c1, 0xefbe4786, 0x0fc19dc6, 0x240ca1cc, 0x2de92c6f, 0x4a7484aa, 0x5cb0a9dc, 0x76f988da,
  0x983e5152, 0xa831c66d, 0xb00327c8, 0xbf597fc7, 0xc6e00bf3, 0xd5a79147, 0x06ca6351, 0x14292967,
  0x27b70a85, 0x2e1b2138, 0x4d2c6dfc, 0x53380d13, 0x650a7354, 0x766a0abb, 0x81c2c92e, 0x92722c85,
  0xa2bfe8a1, 0xa81a664b, 0xc24b8b70, 0xc76c51a3, 0xd192e819, 0xd6990624, 0xf40e3585, 0x106aa070,
  0x19a4c116, 0x1e376c08, 0x2748774c, 0x34b0bcb5, 0x391c0cb3, 0x4ed8aa4a, 0x5b9cca4f, 0x682e6ff3,
  0x748f82ee, 0x78a5636f, 0x84c87814, 0x8cc70208, 0x90befffa, 0xa4506ceb, 0xbef9a3f7, 0xc67178f2]
def tbl (t : Nat) : Wd := Wd.mk' (Pw.getD t 0)
def tblArr : Array Value := (Pw.map fun (n : Nat) => Value.int .u32 (n : Int)).toArray
def rounds (b : List UInt8) (s : S8) : Nat → S8
 | 0 => s
 | n + 1 => rnd (rounds b s n) (tbl n) ((JD b 64).getD n zW)
def Nc (s : S8) (b : List UInt8) : S8 := (rounds b s 64).add s
def begS : S8 := ⟨wd 0x6a09e667 (by omega), wd 0xbb67ae85 (by omega), wd 0x3c6ef372 (by omega), wd 0xa54ff53a (by omega), wd 0x510e527f (by omega), wd 0x9b05688c (by omega), wd 0x1f83d9ab (by omega), wd 0x5be0cd19 (by omega)⟩
def KW (s : S8) (b : List UInt8) : Nat → S8
 | 0 => s
 | n + 1 => Nc (KW s b n) (b.drop (64 * n))
def eight (n : Nat) : List UInt8 := (List.range 8).map fun i => UInt8.ofNat (n >>> (8 * (7 - i)))
def K9 (n : Nat) : Nat := (119 - n % 64) % 64
def Ms (b : List UInt8) : List UInt8 := b ++ [128] ++ List.replicate (K9 b.length) 0 ++ eight (b.length * 8 % 18446744073709551616)
def MC (w : Wd) : List UInt8 := [UInt8.ofNat (w.n >>> 24), UInt8.ofNat (w.n >>> 16), UInt8.ofNat (w.n >>> 8), UInt8.ofNat w.n]
def S8.bytes (s : S8) : List UInt8 := MC s.a ++ MC s.b ++ MC s.c ++ MC s.d ++ MC s.e ++ MC s.f ++ MC s.g ++ MC s.h
def sha (b : List UInt8) : Dig := ⟨(KW begS (Ms b) ((Ms b).length / 64)).bytes, by simp [S8.bytes, MC]⟩
end Go.Proofs.YtaebeemnipafbaaGreatDoor
