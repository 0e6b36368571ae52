/-
  Proved here: the contracts of a tree's functions: Half, Node, Root. Condition: at most 256 leaves, where it matters.
-/
import Derived.Test.YtaebeemnipafbaaGreatDoorChain
import Derived.Test.YtaebeemnipafbaaGreatDoorShelf
import Derived.Test.YtaebeemnipafbaaGreatDoorSq
set_option linter.unusedSimpArgs false
set_option linter.unusedVariables false
set_option maxRecDepth 100000
set_option maxHeartbeats 200000000
namespace Go.Proofs.YtaebeemnipafbaaGreatDoor
open Go.RowKit
def Mm (l r : Dig) : Dig := ofN 1 [l, r]
def GH (n : Nat) : Nat := 2 ^ Nat.log2 (n - 1)
theorem Jl (n : Nat) : 0 < GH n := Nat.two_pow_pos _
theorem Ju (n : Nat) (h : 2 ≤ n) : GH n < n := by
 have := Nat.log2_self_le (n := n - 1) (by omega)
 unfold GH
 omega
theorem halfN_of {k n : Nat} (j : Nat) (hj : k = 2 ^ j) (h1 : k < n) (h2 : n ≤ 2 * k) : GH n = k := by
 subst hj
 unfold GH
 have : Nat.log2 (n - 1) = j := by
  have h3 : n - 1 ≠ 0 := by have := Nat.two_pow_pos j; omega
  rw [Nat.log2_eq_iff h3, Nat.pow_succ]
  omega
 rw [this]
def G4 (ls : List Dig) : Dig :=
 if _h : ls.length < 2 then
  match ls with
  | [] => sha []
  | d :: _ => d
 else Mm (G4 (ls.take (GH ls.length))) (G4 (ls.drop (GH ls.length)))
termination_by ls.length
decreasing_by
 ·have := Ju ls.length (by omega)
  rw [List.length_take]
  omega
 ·have := Jl ls.length
  rw [List.length_drop]
  omega
theorem rootN_nil : G4 [] = sha [] := by rw [G4]; rfl
theorem rootN_one (d : Dig) : G4 [d] = d := by rw [G4]; rfl
theorem Py (ls : List Dig) (h : 2 ≤ ls.length) : G4 ls = Mm (G4 (ls.take (GH ls.length))) (G4 (ls.drop (GH ls.length))) := by
 rw [G4, dif_neg (by omega)]
theorem J5 (ls : List Dig) (lo n : Nat) : ((GP ls).drop (lo * 32)).take (n * 32) = GP ((ls.drop lo).take n) := by
 have hd : ∀ (l : List Dig) (k : Nat), (GP l).drop (k * 32) = GP (l.drop k) := fun l k => by
  induction k generalizing l with
  | zero => simp
  | succ k ih =>
   cases l with
   | nil => simp [GP]
   | cons d l =>
    have h : GP (d :: l) = GK d.l ++ GP l := by simp [GP]
    have e : (k + 1) * 32 = (GK d.l).length + k * 32 := by rw [G7, d.h]; omega
    rw [h, e, ← List.drop_drop, List.drop_left, ih]
    rfl
 have ht : ∀ (l : List Dig) (k : Nat), (GP l).take (k * 32) = GP (l.take k) := fun l k => by
  induction k generalizing l with
  | zero => simp [GP]
  | succ k ih =>
   cases l with
   | nil => simp [GP]
   | cons d l =>
    have h : ∀ l, GP (d :: l) = GK d.l ++ GP l := fun l => by simp [GP]
    have e : (k + 1) * 32 = (GK d.l).length + k * 32 := by rw [G7, d.h]; omega
    rw [h, e, List.take_length_add_append, ih, List.take_succ_cons, h]
 rw [hd, ht]
theorem P5 (l r : Dig) (w : World) (hT : Tb w) : Calls Tryz.prog 99 #[l.v, r.v] w fun e w' => e = .returned (Mm l r).v ∧ St w w' [] := by
 have Ga := St.refl w
 have HT := Gg hT
 have hd : GP [l, r] = l.arr.toList ++ r.arr.toList := by simp [GP, Dig.toList]
 have HD := Gg hd
 clear hT hd
 go_enter Tryz.func99, Tryz.ntmps99
 go_wp2_with (first | (go_at_call 126; (try clear Gb); refine (of_any 1 [l, r] _ _ _ _ (HT.out.of Ga) (by rw [HD.out]; exact Ga.sl 0 rfl) (by decide)).mono ?_; rintro e W8 ⟨rfl, Gb⟩; replace Ga := Ga.keep Gb) | (refine Gm 2 rfl (Gw rfl) ?_; (try clear Gb); intro g2 W2 Gb; replace Ga := Ga.tr1 Gb) | (refine Gm 3 rfl (Gw rfl) ?_; (try clear Gb); intro g3 W3 Gb; replace Ga := Ga.tr1 Gb) | (refine Gk 4 rfl Gv ?_; (try clear Gb); intro g4 W4 Gb; replace Ga := Ga.tr1 Gb) | (refine Gl 5 rfl (by rfl) uz32 rfl Gv (Ga.get 2 rfl) (Dig.size _) ?_) | (refine Gl 6 rfl (by rfl) uz32 rfl Gv (Ga.get 1 rfl) (Dig.size _) ?_) | (refine Gq 7 rfl [_, _] (bs_2 (Gw rfl) (Gw rfl)) rfl uz44 Gv rfl (by (simp [Value.cells, Dig.size]; done)) (by decide) (by decide) ?_; (try clear Gb); intro g7 W7 Gb; replace Ga := Ga.tr1 Gb; simp only [List.flatMap_cons, List.flatMap_nil, List.append_nil, Value.cells, List.toList_toArray] at Ga) | ((refine Gr 4 8 Ga rfl (by rfl) (Gw rfl) (Dig.one _) Gv (by rfl) 1 rfl (by rfl) ?_; clear Ga; intro WS4 Ga; simp only [Ge, Gf] at Ga)))
 refine Hw rfl rfl rfl (Ga.get 1 rfl) uz32 rfl Gv (by rfl) ?_
 exact ⟨rfl, Ga.forget⟩
theorem half_shl : ∀ n : Fin 257, 2 ≤ n.val → 1 ≤ Lib.bitLen (n.val - 1) ∧ Lib.bitLen (n.val - 1) ≤ 8 ∧ wrap64 ((2 : Int) ^ (Lib.bitLen (n.val - 1) - 1)) = (GH n.val : Int) := by decide +kernel
theorem P6 (n : Nat) (h2 : 2 ≤ n) (hn : n ≤ 256) (w : World) : Calls Tryz.prog 91 #[.int .i64 (n : Int)] w fun e w' => e = .returned (.int .i64 (GH n : Int)) ∧ St w w' [] := by
 have Ga := St.refl w
 obtain ⟨hb1, hb8, hh⟩ := half_shl ⟨n, by omega⟩ h2
 have Hh := Gg hh
 have hx : ((n : Int) - 1).toNat = n - 1 := by omega
 simp only at hb1 hb8 hx
 clear hh
 go_enter Tryz.func91, Tryz.ntmps91
 go_wp2_with ((go_at_call 125; refine (Tryz.bits_Len _ _ (by omega) (by omega)).mono ?_; rintro e W6 ⟨rfl, rfl⟩; rw [hx]))
 rw [Hh.out]
 go_ret
 exact ⟨rfl, Ga⟩
theorem root_any : ∀ (n : Nat) (ls : List Dig) (A : Option Addr) (c : Nat) (w : World), Tb w → SlR w A n c 32 (GP ls) → n ≤ 256 →
  Calls Tryz.prog 83 #[.slice A n c] w fun e w' => e = .returned (G4 ls).v ∧ St w w' [] := by
 intro n
 induction n using Nat.strongRecOn with
 | ind n ih =>
 intro ls A c w hT hx hn
 have Ga := St.refl w
 have HT := Gg hT
 have hl : ls.length = n := by have := hx.1; rw [G8] at this; omega
 have hcap := hx.2.1
 clear hT
 by_cases h0 : n = 0
 ·subst h0
  obtain rfl : ls = [] := List.eq_nil_of_length_eq_zero hl
  go_enter Tryz.func83, Tryz.ntmps83
  go_wp2_with (first | (go_at_call 80; (try clear Gb); refine (NS [] none 0 0 _ (HT.out.of Ga) (SlR.nil_ _ 1) (by decide)).mono ?_; rintro e W8 ⟨rfl, Gb⟩; replace Ga := Ga.keep Gb) | (refine Gk 2 rfl Gv ?_; (try clear Gb); intro g2 W2 Gb; replace Ga := Ga.tr1 Gb) | ((refine Gr 2 8 Ga rfl (by rfl) (Gw rfl) (Dig.one _) Gv (by rfl) 0 rfl (by rfl) ?_; clear Ga; intro WS1 Ga; simp only [Ge, Gf] at Ga)))
  rw [rootN_nil]
  refine Hw rfl rfl rfl (Ga.get 0 rfl) uz32 rfl Gv (by rfl) ?_
  exact ⟨rfl, Ga.forget⟩
 ·by_cases h1 : n = 1
  ·subst h1
   obtain ⟨d, rfl⟩ : ∃ d, ls = [d] := by
    match ls, hl with
    | [d], _ => exact ⟨d, rfl⟩
   have HL := Gg (show ((GP [d]).drop ((0 : Int).toNat * 32)).take 32 = d.arr.toList by rw [JH]; exact List.take_of_length_le (by simp [Dig.size]))
   go_enter Tryz.func83, Tryz.ntmps83
   go_wp2_with (first | (refine Gn 13 rfl (by rfl) uz32 rfl Gv (cs := d.arr) (by rw [← HL.out]; exact hr12) (Dig.size _) ?_) | (refine Gk 2 rfl Gv ?_; (try clear Gb); intro g2 W2 Gb; replace Ga := Ga.tr1 Gb) | (refine Gp 12 rfl (by rfl) (by rfl) uz44 Gv (Ga.old (by decide) (by assumption)) (by omega) (by omega) ?_; intro o12 p12 ha12 hr12; ((subst ha12))) | ((refine Gr 2 13 Ga rfl (by rfl) (Gw rfl) (Dig.one _) Gv (Dig.size _) 0 rfl (by rfl) ?_; clear Ga; intro WS3 Ga; simp only [Ge, Gf] at Ga)))
   rw [rootN_one]
   refine Hw rfl rfl rfl (Ga.get 0 rfl) uz32 rfl Gv (Dig.size _) ?_
   exact ⟨rfl, Ga.forget⟩
  ·have hlt := Ju n (by omega)
   have hps := Jl n
   have HN := Gg (show Mm (G4 (ls.take (GH n))) (G4 (ls.drop (GH n))) = G4 ls by rw [Py ls (by omega), hl])
   have H1 := Gg (show ((GP ls).drop (0 * 32)).take ((GH n - 0) * 32) = GP (ls.take (GH n)) by rw [J5]; rfl)
   have H2 := Gg (show ((GP ls).drop (GH n * 32)).take ((n - GH n) * 32) = GP (ls.drop (GH n)) by rw [J5, List.take_of_length_le (by rw [List.length_drop]; omega)])
   have h0' : ¬ (n : Int) = 0 := by omega
   have h1' : ¬ (n : Int) = 1 := by omega
   have HF := Gg (fun w => P6 n (by omega) (by omega) w)
   generalize GH n = k at *
   go_enter Tryz.func83, Tryz.ntmps83
   go_wp2_with (first | (go_at_call 91; refine (HF.out _).mono ?_; rintro e W16 ⟨rfl, Gb⟩; replace Ga := Ga.keep Gb; clear Gb) | (refine Gk 2 rfl Gv ?_; (try clear Gb); intro g2 W2 Gb; replace Ga := Ga.tr1 Gb))
   clear Gb h0' h1'
   refine GO [(0, 0), (1, 0), (2, 0), (4, 0), (5, 0), (6, 0), (3, 2), (7, 2), (8, 2), (9, 1)] (by kernel_rfl) (by kernel_rfl) ?_
   replace Ga := Ga.drew
   refine GG rfl rfl ?_; go_wp2_with fail
   refine GG rfl rfl ?_; go_wp2_with fail
   refine GG rfl rfl ?_; go_wp2_with ((refine L_cutS (d := some 19) rfl rfl rfl (by rfl) uz44 Gv (by decide) (Ga.old (by decide) hx) 0 k _ (Or.inl ⟨rfl, rfl⟩) (Or.inr ⟨_, _, rfl, by (exact Gw rfl)⟩) (Or.inl ⟨rfl, rfl⟩) (by omega) (by omega) (by omega) (by omega) ?_; intro A19 c19 hs19))
   refine GG rfl rfl ?_; go_wp2_with fail
   refine GG rfl rfl ?_; go_wp2_with fail
   refine GG rfl rfl ?_; go_wp2_with ((refine L_cutS (d := some 23) rfl rfl rfl (by rfl) uz44 Gv (by decide) (Ga.old (by decide) hx) k n _ (Or.inr ⟨_, _, rfl, by (exact Gw rfl)⟩) (Or.inl ⟨rfl, rfl, rfl⟩) (Or.inl ⟨rfl, rfl⟩) (by omega) (by omega) (by omega) (by omega) ?_; intro A23 c23 hs23))
   refine GA rfl ?_; go_wp2_with ((go_at_call_of 83 (Value.slice A19 k c19); (try clear Gb); refine (ih k hlt (ls.take k) A19 c19 _ (HT.out.of Ga) (by rw [← H1.out]; exact hs19) (by omega)).mono ?_; rintro e W20 ⟨rfl, Gb⟩; replace Ga := Ga.keep Gb)); refine Gi Gb ?_
   refine GA rfl ?_; go_wp2_with ((go_at_call_of 83 (Value.slice A23 (n - k) c23); refine (ih (n - k) (by omega) (ls.drop k) A23 c23 _ (HT.out.of Ga) (by rw [← H2.out]; exact Gb.old (by decide) hs23) (by omega)).mono ?_; clear Gb; rintro e W24 ⟨rfl, Gb⟩; replace Ga := Ga.keep Gb)); refine Gi Gb ?_
   refine GA rfl ?_; go_wp2_with ((go_at_call 99; (try clear Gb); with_reducible refine (P5 _ _ _ (HT.out.of Ga)).mono ?_; rintro e W25 ⟨rfl, Gb⟩; replace Ga := Ga.keep Gb)); refine Gi Gb ?_
   refine J6 rfl ?_; go_wp2_with ((refine Gr 2 25 Ga rfl (by rfl) (Gw rfl) (Dig.one _) Gv (by rfl) 0 rfl (by rfl) ?_; clear Ga; intro WS9 Ga; simp only [Ge, Gf] at Ga))
   refine G5 ?_
   rw [HN.out] at Ga
   go_wp2_with fail
   refine Hw rfl rfl rfl (Ga.get 0 rfl) uz32 rfl Gv (Dig.size _) ?_
   exact ⟨rfl, Ga.forget⟩
theorem tRoot_any (ls : List Dig) (A : Option Addr) (n c : Nat) (w : World) (hT : Tb w) (hx : SlR w A n c 32 (GP ls)) (hn : n ≤ 256) :
  Calls Tryz.prog 38 #[.slice A n c] w fun e w' => e = .returned (.tuple #[(G4 ls).v, .nilIface]) ∧ St w w' [] := by
 have Ga := St.refl w
 have HT := Gg hT
 have h1 : ¬ (256 : Int) < (n : Int) := by omega
 clear hT
 go_enter Tryz.func38, Tryz.ntmps38
 go_wp2_with (first | (go_at_call 83; (try clear Gb); with_reducible refine (root_any _ ls _ _ _ (HT.out.of Ga) (Ga.old (by decide) hx) hn).mono ?_; rintro e W10 ⟨rfl, Gb⟩; replace Ga := Ga.keep Gb) | (refine Gk 2 rfl Gv ?_; (try clear Gb); intro g2 W2 Gb; replace Ga := Ga.tr1 Gb) | ((refine Gr 2 10 Ga rfl (by rfl) (Gw rfl) (Dig.one _) Gv (Dig.size _) 0 rfl (by rfl) ?_; clear Ga; intro WS2 Ga; simp only [Ge, Gf] at Ga)))
 refine He rfl rfl rfl rfl (Ga.get 0 rfl) uz32 rfl Gv (Dig.size _) ?_
 exact ⟨rfl, Ga.forget⟩
end Go.Proofs.YtaebeemnipafbaaGreatDoor
