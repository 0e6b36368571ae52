/-
  Proved here: TopDiary: the law returns true for every input, and leaves its arguments as they were.
-/
import Derived.Test.YtaebeemnipafbaaDoorLaw
import Derived.Test.YtaebeemnipafbaaDoorPkPinHonestA
import Derived.Laws.CopyOwn
import Derived.Laws.IdiomStrings
import Derived.Test.YtaebeemnipafbaaDoorRefPlain
import Derived.Test.YtaebeemnipafbaaDoorPkPinHonestB
import Derived.Test.YtaebeemnipafbaaDoorOctet
import Derived.Test.YtaebeemnipafbaaDoorSkip
import Derived.Test.YtaebeemnipafbaaDoorShaSpec
import Derived.Test.YtaebeemnipafbaaDoorPkLookX
import Derived.Test.YtaebeemnipafbaaDoorSha
import Derived.Test.YtaebeemnipafbaaDoorShelf
import Derived.Test.YtaebeemnipafbaaDoorRefWord
import Derived.Test.YtaebeemnipafbaaDoorLawC
import Derived.Test.YtaebeemnipafbaaDoorLawF
import Derived.Test.YtaebeemnipafbaaDoorForkP
import Derived.Test.YtaebeemnipafbaaDoorEl
import Derived.Test.YtaebeemnipafbaaDoorClone
import Derived.Test.YtaebeemnipafbaaDoorErr
import Derived.Test.YtaebeemnipafbaaDoorLawB
import Derived.Deep.DeepCutAuto
import Derived.Deep.RegionWith
import Derived.Test.YtaebeemnipafbaaDoorLawD
import Derived.Deep.LoopGhost
import Derived.Test.YtaebeemnipafbaaDoorDrawT
import Derived.Test.YtaebeemnipafbaaDoorOpenB
import Derived.Test.YtaebeemnipafbaaDoorCards
import Derived.Test.YtaebeemnipafbaaDoorTie
import Derived.Deep.DeepHandedRow
import Derived.ProofKit
import Derived.OpenShut
set_option maxRecDepth 20000
set_option linter.unusedSimpArgs false
set_option linter.unusedVariables false
namespace Go.Proofs.YtaebeemnipafbaaDoor
open Go.RowKit
section
variable {P : Program} {w0 W : World} {L : List Res} {ops : Array Oper} {rest : List Oper} {o : Oper} {a : Act} {Q : Exit → Act → World → Prop} {dd : Option Tmp}
theorem L_copyB (hgd : o.guard = none) (hst : St w0 W L) {d s : Operand} {dT sT : TypeId} (ho : o.op = .call { callee := .builtin .copy, args := #[d, s], argTypes := #[dT, sT] }) {elem : TypeId} (hu : P.underlying dT = some (.slice elem)) (hsz : (P.info? elem).map (·.size) = some 1)
  {g off m mc : Nat} (hd : a.eval d = .slice (some ⟨g, off, none⟩) m mc) {A : Option Addr} {n c : Nat} (hs : a.eval s = .slice A n c) {xs : List Value} (hx : SlR W A n c 1 xs) (hm : m ≤ n) (h0 : 0 < m) (k : Nat) {t : TypeId} {cur : Array Value} (hk : L[k]? = some (.blk g t cur)) (hfit : off + m ≤ cur.size) (h1 : ∀ v ∈ xs, v.oneCell' = true)
  (h : ∀ W' : World, St w0 W' (L.set k (.blk g t (putAt cur off (xs.take m)))) → wpList P ops Q rest (a.put o.dst (goInt m)) W') : wpList P ops Q (o :: rest) a W := by
 obtain ⟨hl, _, _, hx'⟩ := hx
 obtain ⟨sb, so, rfl, hr⟩ := hx' (by omega)
 have hlen : (xs.take m).length = m := by rw [List.length_take]; omega
 have hr' := rangeAt_take (k := m) hr
 have hW := h _ (hst.setRow k hk (putAt cur off (xs.take m)))
 refine wpList_copy_own hgd d s dT sT ho elem hu hsz g off m mc ⟨sb, so, none⟩ n c hd hs cur t (hst.get k hk) (xs.take m) (by rw [hlen]; exact (Nat.min_eq_right hm).symm) (fun j v hv => by rw [Addr.add_mid]; exact hr' j v hv) (by rw [hlen]; exact hfit) (fun v hv => h1 v (List.mem_of_mem_take hv)) ?_
 rw [hlen]
 have e : (cur.toList.take off ++ (xs.take m ++ cur.toList.drop (off + m))).toArray = putAt cur off (xs.take m) := by unfold putAt; rw [hlen]; simp
 rw [e]
 exact hW
theorem L_convBS {d : Option Tmp} (hd : o.dst = d) (hw : Region.wanted o (yielded ops a.tmps) = true) {t u e : TypeId} {x : Operand} (ho : o.op = .convert t u x) {A : Option Addr} {n c : Nat} (hx : a.eval x = .slice A n c) {l : List UInt8} (hs : SlR W A n c 1 (bytesL l)) (h0 : 0 < n)
  (ht : P.underlying t = some (.slice e)) (hu : P.underlying u = some .string) (he : P.underlying e = some (.int .u8))
  (h : wpList P ops Q rest (a.put d (.string (bsOf l))) W) : wpList P ops Q (o :: rest) a W := by
 obtain ⟨hl, _, _, hx'⟩ := hs
 obtain ⟨b, off, rfl, hr⟩ := hx' h0
 rw [length_bytesL, Nat.mul_one] at hl
 subst hl
 refine L_val hd hw ?_ h
 unfold execOp
 simp only [ho, hx]
 have hrun := run_convert_bytes_back (P := P) W t u e ⟨b, off, none⟩ c l ht he hu (fun j hj => by
  rw [Addr.add_mid]
  exact hr j _ (by simp [bytesL, hj, byteV]))
 simp [hrun, bsOf]
end
end Go.Proofs.YtaebeemnipafbaaDoor

set_option linter.unusedSimpArgs false
set_option linter.unusedVariables false
namespace Go.Proofs.YtaebeemnipafbaaDoor
theorem bigE_succ (size n : Nat) : bigE (size + 1) n = bigE size (n / 256) ++ [UInt8.ofNat n] := by
 unfold bigE
 rw [List.range_succ, List.map_append]
 congr 1
 ·refine List.map_congr_left fun i hi => ?_
  have hi : i < size := List.mem_range.1 hi
  congr 1
  rw [show 8 * (size + 1 - 1 - i) = 8 + 8 * (size - 1 - i) by omega, Nat.shiftRight_add, Nat.shiftRight_eq_div_pow _ 8]
 ·simp
theorem natE_bigE : ∀ (size n : Nat), n < 256 ^ size → natE (bigE size n) = n
 | 0, n, h => by
  have : n = 0 := by simpa using h
  subst this
  rfl
 | size + 1, n, h => by
  rw [Nat.pow_succ] at h
  rw [bigE_succ, natE_snoc, natE_bigE size (n / 256) (by omega), UInt8.toNat_ofNat']
  omega
theorem bigE_natE (b : List UInt8) : bigE b.length (natE b) = b := by
 induction h : b.length generalizing b with
 | zero =>
  rw [List.length_eq_zero_iff.1 h]
  rfl
 | succ n ih =>
  obtain ⟨l, x, rfl⟩ : ∃ l x, b = l ++ [x] := ⟨b.dropLast, b.getLast (by intro e; rw [e] at h; cases h), (List.dropLast_concat_getLast _).symm⟩
  have hl : l.length = n := by simpa using h
  have hx := UInt8.toNat_lt x
  rw [bigE_succ, natE_snoc, show (natE l * 256 + x.toNat) / 256 = natE l by omega, ih l hl]
  congr 2
  apply UInt8.toNat_inj.1
  rw [UInt8.toNat_ofNat']
  omega
theorem pow8 (k : Nat) : 2 ^ (8 * k) = 256 ^ k := by rw [Nat.pow_mul]
theorem shr_zero (n k : Nat) (h : n < 256 ^ k) : n >>> (8 * k) = 0 := by
 rw [Nat.shiftRight_eq_div_pow, pow8]
 exact Nat.div_eq_of_lt h
theorem lt_of_shr (n k : Nat) (h : n >>> (8 * k) = 0) : n < 256 ^ k := by
 rw [Nat.shiftRight_eq_div_pow, pow8] at h
 have hp : 0 < 256 ^ k := Nat.pow_pos (by decide)
 exact (Nat.div_eq_zero_iff_lt hp).1 h
theorem bigE_head (n : Nat) (h : n ≤ 9223372036854775807) : ((bigE 8 n).getD 0 0).toNat ≤ 127 := by
 have : (bigE 8 n).getD 0 0 = UInt8.ofNat (n >>> 56) := rfl
 rw [this, UInt8.toNat_ofNat', Nat.shiftRight_eq_div_pow]
 omega
end Go.Proofs.YtaebeemnipafbaaDoor

set_option maxRecDepth 20000
set_option linter.unusedSimpArgs false
set_option linter.unusedVariables false
namespace Go.Proofs.YtaebeemnipafbaaDoor
open Go.RowKit
attribute [local simp] ntArr_size
theorem L_buildN0 {ops : Array Oper} {rest : List Oper} {o : Oper} {a : Act} {W : World} {Q : Exit → Act → World → Prop} {d : Option Tmp} (hd : o.dst = d) (hw : Region.wanted o (yielded ops a.tmps) = true) {x : Operand} (ho : o.op = .build 35 #[(0, x)]) {s : List UInt8} (hx : a.eval x = .string (bsOf s))
  (h : wpList Tryd.prog ops Q rest (a.put d (.agg (ntArr s zeroD 0))) W) : wpList Tryd.prog ops Q (o :: rest) a W :=
 L_buildT hd hw ho Tryd.underlying35 el_api_Note [(0, 1), (1, 32), (33, 1)] (by kernel_rfl) (ps := [(0, .string (bsOf s))]) (by simp [hx]) (qs := [(0, [.string (bsOf s)])])
  ⟨rfl, rfl, by simp [ntArr_size], trivial⟩ (by unfold putAll putAll; rw [ntArr_name]) h
theorem ev_int8 {a : Act} {t : Nat} {x : Int} {n : Nat} (h : a.tmps.toList[t]? = some (.int .u8 x)) (hx : x = (n : Int)) : a.eval (.tmp t) = .int .u8 (n : Int) := by rw [ev_tmp h, hx]
set_option maxHeartbeats 4000000 in
set_option maxRecDepth 100000 in
theorem nread_any (nt : NoteN) (A : Option Addr) (n c : Nat) (w : World) (hok : noteOk nt = true) (hx : SlR w A n c 1 (bytesL (noteB nt))) :
  Calls Tryd.prog 40 #[.slice A n c] w fun e w' => e = .returned (.tuple #[.agg (ntArr nt.name nt.key nt.turn), .nilIface]) ∧ St w w' [] := by
 have hst := St.refl w
 have h' := hok
 unfold noteOk at h'
 rw [Bool.and_eq_true] at h'
 obtain ⟨h1, h3⟩ := h'
 have h2 := of_decide_eq_true h3
 clear h3 hok
 have hl := isNm_len h1
 have HN := Lib.hid (fun w => by have := named_any nt.name w; rw [h1] at this; exact this)
 obtain ⟨t, ht⟩ := Int.eq_ofNat_of_zero_le h2.1
 obtain ⟨s, k, m⟩ := nt
 simp only at *
 have hlen : n = s.length + 37 := by have := hx.1; rw [length_bytesL, length_noteB] at this; simp only at this; omega
 have hbl : bytesL (noteB ⟨s, k, m⟩) = .int .u8 (s.length : Int) :: (bytesL s ++ (bytesL k.l ++ bytesL (bigE 4 t))) := by
  have e8 : (UInt8.ofNat s.length).toNat = s.length := by simp; omega
  rw [noteB, ht]
  simp [bytesL, byteV]
  omega
 have hk := length_bytesL k.l
 rw [k.h] at hk
 have hq := length_bytesL (bigE 4 t)
 have hsl := length_bytesL s
 rw [hbl] at hx
 have HC0 := Lib.hid (show (((Value.int .u8 (s.length : Int) :: (bytesL s ++ (bytesL k.l ++ bytesL (bigE 4 t)))).drop (Int.toNat 0 * 1)).take 1)[0]? = some (.int .u8 (s.length : Int)) from rfl)
 have HL1 := Lib.hid (show ((Value.int .u8 (s.length : Int) :: (bytesL s ++ (bytesL k.l ++ bytesL (bigE 4 t)))).drop (1 * 1)).take ((1 + s.length - 1) * 1) = bytesL s by
  rw [show (1 + s.length - 1) * 1 = s.length by omega]
  simp only [Nat.mul_one, List.drop_succ_cons, List.drop_zero]
  rw [List.take_left' (by omega)])
 have HL2 := Lib.hid (show ((Value.int .u8 (s.length : Int) :: (bytesL s ++ (bytesL k.l ++ bytesL (bigE 4 t)))).drop ((1 + s.length) * 1)).take ((n - (1 + s.length)) * 1) = bytesL k.l ++ bytesL (bigE 4 t) by
  rw [Nat.mul_one, Nat.mul_one, Nat.add_comm 1, List.drop_succ_cons, List.drop_left' (by omega), List.take_of_length_le (by rw [List.length_append]; rw [length_bigE] at hq; omega)])
 have hq4 : (bytesL (bigE 4 t)).length = 4 := by rw [hq, length_bigE]
 have HL3 := Lib.hid (show ((bytesL k.l ++ bytesL (bigE 4 t)).drop (32 * 1)).take ((n - (1 + s.length) - 32) * 1) = bytesL (bigE 4 t) by
  rw [Nat.mul_one, List.drop_left' (by omega), List.take_of_length_le (by omega)])
 have HL4 := Lib.hid (show putAt (ntArr s zeroD 0) 1 ((bytesL k.l ++ bytesL (bigE 4 t)).take 32) = ntArr s k 0 by
  rw [List.take_left' (by omega), ← Dig.toList]
  exact ntArr_putKey s zeroD k 0)
 have HO1 := Lib.hid (show ∀ v ∈ bytesL k.l ++ bytesL (bigE 4 t), v.oneCell' = true from fun v hv => (List.mem_append.1 hv).elim (oneCell_bytes v) (oneCell_bytes v))
 have hnum : natE (bigE 4 t) = t := natE_bigE 4 t (by simp; omega)
 have hnu : ∀ (A : Option Addr) (m c : Nat) (w : World), m = 4 → SlR w A m c 1 (bytesL (bigE 4 t)) → Calls Tryd.prog 80 #[.slice A m c] w fun e w' => e = .returned (.tuple #[.int .i64 (t : Int), .nilIface]) ∧ St w w' [] := fun A m c w hm h => by
  subst hm
  have := onum_any (bigE 4 t) A 4 c w h (by decide) (by decide) (fun h => by cases h)
  rw [hnum] at this
  exact this
 have HNu := Lib.hid hnu
 clear hnu
 obtain ⟨L, hL⟩ : ∃ L, L = s.length := ⟨_, rfl⟩
 rw [← hL] at hl hlen HC0 HL1 HL2 HL3 hbl hx
 generalize hb2 : Value.int .u8 (L : Int) :: (bytesL s ++ (bytesL k.l ++ bytesL (bigE 4 t))) = bl at *
 subst ht
 have hx1 : ((n : Int) != 1 + (L : Int) + 36) = false := by simp; omega
 have hn1 : ¬ (n : Int) < 1 := by omega
 have hcap : n ≤ c := hx.2.1
 have hle1 : n ≤ L + 37 := by omega
 have hle2 : L + 37 ≤ n := by omega
 clear hlen
 clear hb2 hbl hk hq hq4 hsl hnum h1 h2 hL
 generalize bytesL (bigE 4 t) = qb at *
 generalize hkb : bytesL k.l = kb at *
 clear hkb
 go_enter Tryd.func40, Tryd.ntmps40
 go_upto_region 1 with (go_big_may; (refine L_allocA (d := some 2) rfl rfl rfl el_api_Note ?_; (try clear hnew); intro g2 W2 hnew; replace hst := hst.trans hnew; simp only [List.cons_append, List.nil_append] at hst))
 go_upto_region 3 with (go_big_may; first | (refine L_load1 (d := some 16) rfl rfl rfl (by rfl) Tryd.underlying5 rfl (hr15 0 _ HC0.out) ?_) | (refine L_idxS (d := some 15) rfl rfl rfl (by rfl) (by rfl) Tryd.underlying22 el_uint8 (by (exact hst.old (by decide) hx)) (by omega) (by omega) ?_; intro o15 p15 ha15 hr15; ((subst ha15))))
 (try clear hnew)
 go_upto_region 4 with (go_big_may; first | (refine L_cutV (d := some 29) rfl rfl rfl (by rfl) Tryd.underlying22 el_uint8 (by decide) hx 1 (1 + L) _ (Or.inr ⟨_, _, rfl, rfl⟩) (Or.inr ⟨_, _, rfl, ev_int8 rfl (by omega)⟩) (Or.inl ⟨rfl, rfl⟩) (by omega) (by omega) (by omega) (by omega) ?_; intro A29 c29 hs29; rw [HL1.out] at hs29) | (refine L_convBS (d := some 30) rfl rfl rfl (ev_tmp rfl) (hst.old (by decide) hs29) (by omega) Tryd.underlying22 Tryd.underlying9 Tryd.underlying5 ?_) | (refine L_buildN0 (d := some 31) rfl rfl rfl (ev_tmp rfl) ?_) | (refine L_load1 (d := some 27) rfl rfl rfl (by rfl) Tryd.underlying5 rfl (hr26 0 _ HC0.out) ?_) | (refine L_idxS (d := some 26) rfl rfl rfl (by rfl) (by rfl) Tryd.underlying22 el_uint8 (by (exact hst.old (by decide) hx)) (by omega) (by omega) ?_; intro o26 p26 ha26 hr26; ((obtain ⟨h1, h2⟩ := some_addr ha26; subst h1; subst h2; clear ha26))) | (refine L_allocA (d := some 4) rfl rfl rfl el_api_Note ?_; (try clear hnew); intro g4 W4 hnew; replace hst := hst.trans hnew; simp only [List.cons_append, List.nil_append] at hst) | (refine wpl_at (.store 35 (.tmp 4) (.tmp 31)) rfl ?_; (refine L_storeA rfl rfl hst rfl (by rfl) (ev_tmp rfl) (by (exact ntArr_all _ _ _)) el_api_Note (by (rfl)) 0 rfl (by (rfl)) ?_; clear hst; intro WS9 hst; simp only [List.set_cons_zero, List.set_cons_succ] at hst)))
 go_upto_region 5 with (go_big_may; first | (refine L_load1 (d := some 35) rfl rfl rfl (by rfl) Tryd.underlying5 rfl (hr34 0 _ HC0.out) ?_) | (refine L_idxS (d := some 34) rfl rfl rfl (by rfl) (by rfl) Tryd.underlying22 el_uint8 (by (exact hst.old (by decide) hx)) (by omega) (by omega) ?_; intro o34 p34 ha34 hr34; ((obtain ⟨h1, h2⟩ := some_addr ha34; subst h1; subst h2; clear ha34))) | ((refine L_cutV (d := some 38) rfl rfl rfl (by rfl) Tryd.underlying22 el_uint8 (by decide) hx (1 + L) _ _ (Or.inr ⟨_, _, rfl, by (exact ev_tmp rfl)⟩) (Or.inl ⟨rfl, rfl, rfl⟩) (Or.inl ⟨rfl, rfl⟩) (by omega) (by omega) (by omega) (by omega) ?_; intro A38 c38 hs38)))
 rw [HL2.out] at hs38
 have hc38 := hs38.2.1
 go_upto_region 6 with (go_big_may; first | (refine L_sliceMid (d := some 40) rfl rfl rfl (by rfl) Tryd.underlying30 el_uint8 (ntArr_key (hst.get 0 rfl)) (Dig.size _) (by decide) ?_; intro hs40) | (refine L_copyB rfl hst rfl Tryd.underlying22 (by kernel_rfl) (ev_tmp rfl) (ev_tmp rfl) (hst.old (by decide) hs38) (by omega) (by decide) 0 rfl (by rw [ntArr_size]; decide) HO1.out ?_; clear hst; intro Wc hst; simp only [List.set_cons_zero, HL4.out] at hst))
 go_upto_region 7 with (go_big_may; first | (go_at_call 80; refine (HNu.out _ _ _ _ (by omega) (by rw [← HL3.out]; exact hst.old (by decide) hs45)).mono ?_; rintro e Wn ⟨rfl, hnew⟩; replace hst := hst.keep hnew; clear hnew) | ((refine L_cutV (d := some 45) rfl rfl rfl (by rfl) Tryd.underlying22 el_uint8 (by decide) hs38 32 _ _ (Or.inr ⟨_, _, rfl, rfl⟩) (Or.inl ⟨rfl, rfl, rfl⟩) (Or.inl ⟨rfl, rfl⟩) (by omega) (by omega) (by omega) (by omega) ?_; intro A45 c45 hs45)))
 go_upto_region 9 with (go_big_may; first | (go_at_call 52; refine (HN.out _).mono ?_; rintro e Wn ⟨rfl, hnew⟩; replace hst := hst.keep hnew; clear hnew) | (refine L_load1 (d := some 53) rfl rfl rfl (by rfl) Tryd.underlying9 rfl (by (exact cell_of (hst.get 0 rfl) ntArr_0)) ?_))
 go_upto_region 10 with (go_big_may; (refine wpl_at (.store 3 (.tmp 60) (.tmp 59)) rfl ?_; (refine L_store1 rfl rfl hst rfl (by rfl) (ev_tmp rfl) rfl el_int 0 rfl (by (rw [ntArr_size _ _ _]; decide)) ?_; clear hst; intro WS2 hst; simp only [List.set_cons_zero, List.set_cons_succ, HL4.out, ntArr_turn _ _ _ _] at hst)))
 go_wp2_with (first | ((refine L_loadA (d := some 61) rfl rfl rfl (by rfl) Tryd.underlying35 rfl el_api_Note (by (exact hst.get 0 rfl)) (by (exact ntArr_size _ _ _)) ?_)) | (refine wpl_at (.store 35 (.tmp 2) (.tmp 61)) rfl ?_; (refine L_storeA rfl rfl hst rfl (by rfl) (ev_tmp rfl) (by (exact ntArr_all _ _ _)) el_api_Note (by (exact ntArr_size _ _ _)) 1 rfl (by (rfl)) ?_; clear hst; intro WS1 hst; simp only [List.set_cons_zero, List.set_cons_succ, HL4.out, ntArr_turn _ _ _ _] at hst)))
 refine bp_cell_tmp rfl rfl rfl rfl (hst.get 1 rfl) Tryd.underlying35 rfl el_api_Note (by (simp; done)) ?_
 exact ⟨rfl, hst.forget⟩
end Go.Proofs.YtaebeemnipafbaaDoor

set_option maxRecDepth 20000
set_option linter.unusedSimpArgs false
set_option linter.unusedVariables false
namespace Go.Proofs.YtaebeemnipafbaaDoor
def dmark (last r : List UInt8) : List UInt8 := (sha (14 :: (last ++ r))).l.take 8
theorem length_dmark (last r : List UInt8) : (dmark last r).length = 8 := by
 unfold dmark
 rw [List.length_take, (sha _).h]
 rfl
def frameD (last r : List UInt8) : List UInt8 := UInt8.ofNat (r.length / 256) :: UInt8.ofNat r.length :: (r ++ dmark last r)
theorem length_frameD (last r : List UInt8) : (frameD last r).length = r.length + 10 := by
 simp [frameD, length_dmark]
def diaryN : List UInt8 → List (List UInt8) → List UInt8
 | _, [] => []
 | last, r :: rs => frameD last r ++ diaryN (dmark last r) rs
def lastN : List UInt8 → List (List UInt8) → List UInt8
 | last, [] => last
 | last, r :: rs => lastN (dmark last r) rs
theorem diaryN_append : ∀ (rs ss : List (List UInt8)) (last), diaryN last (rs ++ ss) = diaryN last rs ++ diaryN (lastN last rs) ss := by
 intro rs
 induction rs with
 | nil => intro ss last; rfl
 | cons r rs ih => intro ss last; simp only [List.cons_append, diaryN, lastN, ih, List.append_assoc]
theorem lastN_append : ∀ (rs ss : List (List UInt8)) (last), lastN last (rs ++ ss) = lastN (lastN last rs) ss := by
 intro rs
 induction rs with
 | nil => intro ss last; rfl
 | cons r rs ih => intro ss last; simp only [List.cons_append, lastN, ih]
def nextD (last : List UInt8) : List UInt8 → Option (List UInt8 × List UInt8)
 | a :: b :: d => if 1000 < a.toNat * 256 + b.toNat ∨ d.length < a.toNat * 256 + b.toNat + 8 then none else
   if (d.drop (a.toNat * 256 + b.toNat)).take 8 = dmark last (d.take (a.toNat * 256 + b.toNat)) then some (d.take (a.toNat * 256 + b.toNat), d.drop (a.toNat * 256 + b.toNat + 8)) else none
 | _ => none
theorem nextD_frame (last r rest : List UInt8) (h : r.length ≤ 1000) : nextD last (frameD last r ++ rest) = some (r, rest) := by
 have e : (UInt8.ofNat (r.length / 256)).toNat * 256 + (UInt8.ofNat r.length).toNat = r.length := by
  rw [UInt8.toNat_ofNat', UInt8.toNat_ofNat']
  omega
 have hm := length_dmark last r
 simp only [frameD, List.cons_append, nextD, e]
 rw [if_neg (by simp only [List.length_append, hm]; omega), if_pos]
 ·rw [List.append_assoc, List.take_left' rfl, ← List.append_assoc, List.drop_left' (by rw [List.length_append, hm])]
 ·rw [List.append_assoc, List.drop_left' rfl, List.take_left' rfl, List.take_left' hm]
theorem nextD_some {last d r rest : List UInt8} (h : nextD last d = some (r, rest)) : r.length ≤ 1000 ∧ d = frameD last r ++ rest := by
 match d, h with
 | a :: b :: d, h =>
  simp only [nextD] at h
  by_cases h1 : 1000 < a.toNat * 256 + b.toNat ∨ d.length < a.toNat * 256 + b.toNat + 8
  ·rw [if_pos h1] at h; cases h
  ·rw [if_neg h1] at h
   by_cases h2 : (d.drop (a.toNat * 256 + b.toNat)).take 8 = dmark last (d.take (a.toNat * 256 + b.toNat))
   ·rw [if_pos h2] at h
    simp only [Option.some.injEq, Prod.mk.injEq] at h
    obtain ⟨h3, h4⟩ := h
    have ha := a.toNat_lt
    have hb := b.toNat_lt
    have hl : r.length = a.toNat * 256 + b.toNat := by rw [← h3, List.length_take]; omega
    refine ⟨by omega, ?_⟩
    have ea : UInt8.ofNat (r.length / 256) = a := by
     apply UInt8.toNat.inj
     rw [UInt8.toNat_ofNat']
     omega
    have eb : UInt8.ofNat r.length = b := by
     apply UInt8.toNat.inj
     rw [UInt8.toNat_ofNat']
     omega
    have ed : d = r ++ (dmark last r ++ rest) := by
     rw [h3] at h2
     rw [← h2, ← h4, ← List.drop_drop (i := 8) (j := a.toNat * 256 + b.toNat), List.take_append_drop, ← h3, List.take_append_drop]
    simp only [frameD, ea, eb, List.cons_append, List.append_assoc]
    rw [← ed]
   ·rw [if_neg h2] at h; cases h
def readD (last d : List UInt8) : List (List UInt8) × List UInt8 :=
 match _h : nextD last d with
 | none => ([], d)
 | some (r, rest) => (r :: (readD (dmark last r) rest).1, (readD (dmark last r) rest).2)
termination_by d.length
decreasing_by
 all_goals
  have := (nextD_some _h).2
  rw [this, List.length_append, length_frameD]
  omega
theorem readD_none {last d : List UInt8} (h : nextD last d = none) : readD last d = ([], d) := by
 rw [readD]
 split
 ·rfl
 ·rename_i h'; rw [h] at h'; cases h'
theorem readD_some {last d r rest : List UInt8} (h : nextD last d = some (r, rest)) : readD last d = (r :: (readD (dmark last r) rest).1, (readD (dmark last r) rest).2) := by
 rw [readD]
 split
 ·rename_i h'; rw [h] at h'; cases h'
 ·rename_i r' rest' h'
  rw [h] at h'
  simp only [Option.some.injEq, Prod.mk.injEq] at h'
  obtain ⟨rfl, rfl⟩ := h'
  rfl
theorem readD_split : ∀ (n : Nat) (last d : List UInt8), d.length ≤ n → d = diaryN last (readD last d).1 ++ (readD last d).2 ∧ (∀ r ∈ (readD last d).1, r.length ≤ 1000) ∧ nextD (lastN last (readD last d).1) (readD last d).2 = none := by
 intro n
 induction n with
 | zero =>
  intro last d hd
  have : d = [] := List.eq_nil_of_length_eq_zero (by omega)
  subst this
  rw [readD_none rfl]
  exact ⟨rfl, by simp, rfl⟩
 | succ n ih =>
  intro last d hd
  cases h : nextD last d with
  | none =>
   rw [readD_none h]
   exact ⟨rfl, by simp, h⟩
  | some x =>
   obtain ⟨r, rest⟩ := x
   obtain ⟨h1, h2⟩ := nextD_some h
   have hl := congrArg List.length h2
   rw [List.length_append, length_frameD] at hl
   obtain ⟨i1, i2, i3⟩ := ih (dmark last r) rest (by omega)
   rw [readD_some h]
   refine ⟨?_, ?_, ?_⟩
   ·simp only [diaryN]
    rw [List.append_assoc, ← i1]
    exact h2
   ·intro q hq
    rcases List.mem_cons.1 hq with rfl | hq
    ·exact h1
    ·exact i2 q hq
   ·simp only [lastN]; exact i3
theorem readD_diary : ∀ (rs : List (List UInt8)) (last x : List UInt8), (∀ r ∈ rs, r.length ≤ 1000) → readD last (diaryN last rs ++ x) = (rs ++ (readD (lastN last rs) x).1, (readD (lastN last rs) x).2) := by
 intro rs
 induction rs with
 | nil => intro last x _; rfl
 | cons r rs ih =>
  intro last x h
  have e : diaryN last (r :: rs) ++ x = frameD last r ++ (diaryN (dmark last r) rs ++ x) := by simp only [diaryN, List.append_assoc]
  rw [e, readD_some (nextD_frame last r _ (h r (List.mem_cons_self ..))), ih (dmark last r) x (fun q hq => h q (List.mem_cons_of_mem _ hq))]
  rfl
theorem nextD_torn {last r y z : List UInt8} (hr : r.length ≤ 1000) (h : y ++ z = frameD last r) (hz : z ≠ []) : nextD last y = none := by
 have hl := congrArg List.length h
 rw [List.length_append, length_frameD] at hl
 have hp : 0 < z.length := List.length_pos_iff.2 hz
 match y, h with
 | [], _ => rfl
 | [_], _ => rfl
 | a :: b :: d, h =>
  simp only [frameD, List.cons_append, List.cons.injEq] at h
  obtain ⟨rfl, rfl, h⟩ := h
  have e : (UInt8.ofNat (r.length / 256)).toNat * 256 + (UInt8.ofNat r.length).toNat = r.length := by
   rw [UInt8.toNat_ofNat', UInt8.toNat_ofNat']
   omega
  simp only [nextD, e]
  rw [if_pos]
  simp only [List.length_cons] at hl
  omega
def endD (rs : List (List UInt8)) : Nat := (rs.map fun r => 2 + r.length + 8).foldl (· + ·) 0
theorem foldl_add (l : List Nat) : ∀ a : Nat, l.foldl (· + ·) a = a + l.foldl (· + ·) 0 := by
 induction l with
 | nil => intro a; rfl
 | cons x l ih => intro a; rw [List.foldl_cons, List.foldl_cons, ih (a + x), ih (0 + x)]; omega
theorem endD_cons (r : List UInt8) (rs : List (List UInt8)) : endD (r :: rs) = 2 + r.length + 8 + endD rs := by
 unfold endD
 rw [List.map_cons, List.foldl_cons, foldl_add]
 omega
theorem length_diaryN : ∀ (rs : List (List UInt8)) (last : List UInt8), (diaryN last rs).length = endD rs := by
 intro rs
 induction rs with
 | nil => intro last; rfl
 | cons r rs ih => intro last; rw [diaryN, List.length_append, length_frameD, ih, endD_cons]; omega
def wholeN : List (List UInt8) → Nat → Nat
 | [], _ => 0
 | r :: rs, n => if n < 2 + r.length + 8 then 0 else wholeN rs (n - (2 + r.length + 8)) + 1
theorem wholeN_le : ∀ (rs : List (List UInt8)) (n : Nat), wholeN rs n ≤ rs.length ∧ endD (rs.take (wholeN rs n)) ≤ n := by
 intro rs
 induction rs with
 | nil => intro n; exact ⟨Nat.le_refl _, by simp [wholeN, endD]⟩
 | cons r rs ih =>
  intro n
  simp only [wholeN]
  by_cases h : n < 2 + r.length + 8
  ·rw [if_pos h]; exact ⟨Nat.zero_le _, by simp [endD]⟩
  ·rw [if_neg h, List.take_succ_cons, endD_cons, List.length_cons]
   have := ih (n - (2 + r.length + 8))
   omega
theorem take_diary : ∀ (rs : List (List UInt8)) (last : List UInt8) (n : Nat), n ≤ (diaryN last rs).length → (∀ r ∈ rs, r.length ≤ 1000) →
  ∃ y, (diaryN last rs).take n = diaryN last (rs.take (wholeN rs n)) ++ y ∧ nextD (lastN last (rs.take (wholeN rs n))) y = none := by
 intro rs
 induction rs with
 | nil => intro last n _ _; exact ⟨[], by simp [diaryN, wholeN], rfl⟩
 | cons r rs ih =>
  intro last n hn hr
  simp only [wholeN]
  have hf := length_frameD last r
  by_cases h : n < 2 + r.length + 8
  ·rw [if_pos h]
   refine ⟨(frameD last r).take n, ?_, ?_⟩
   ·simp only [List.take_zero, diaryN, List.nil_append]
    rw [List.take_append_of_le_length (by omega)]
   ·simp only [List.take_zero, lastN]
    refine nextD_torn (z := (frameD last r).drop n) (hr r (List.mem_cons_self ..)) (List.take_append_drop _ _) (fun h0 => ?_)
    have := congrArg List.length h0
    rw [List.length_drop, List.length_nil] at this
    omega
  ·rw [if_neg h]
   have hl : (diaryN last (r :: rs)).length = r.length + 10 + (diaryN (dmark last r) rs).length := by rw [diaryN, List.length_append, hf]
   obtain ⟨y, h1, h2⟩ := ih (dmark last r) (n - (2 + r.length + 8)) (by omega) (fun q hq => hr q (List.mem_cons_of_mem _ hq))
   refine ⟨y, ?_, ?_⟩
   ·simp only [List.take_succ_cons, diaryN]
    rw [List.take_append, List.take_of_length_le (by omega), hf, show n - (r.length + 10) = n - (2 + r.length + 8) by omega, h1, List.append_assoc]
   ·simp only [List.take_succ_cons, lastN]; exact h2
theorem readD_torn (rs : List (List UInt8)) (last : List UInt8) (n : Nat) (hn : n ≤ (diaryN last rs).length) (hr : ∀ r ∈ rs, r.length ≤ 1000) :
  (readD last ((diaryN last rs).take n)).1 = rs.take (wholeN rs n) ∧ (diaryN last rs).take n = diaryN last (rs.take (wholeN rs n)) ++ (readD last ((diaryN last rs).take n)).2 := by
 obtain ⟨y, h1, h2⟩ := take_diary rs last n hn hr
 rw [h1, readD_diary _ _ _ (fun r h => hr r (List.mem_of_mem_take h)), readD_none h2]
 exact ⟨List.append_nil _, rfl⟩
theorem readD_spoilt (rs : List (List UInt8)) (last tail : List UInt8) (n : Nat) (hn : n ≤ (diaryN last rs).length) (hr : ∀ r ∈ rs, r.length ≤ 1000) :
  ∃ ss, (readD last ((diaryN last rs).take n ++ tail)).1 = rs.take (wholeN rs n) ++ ss := by
 obtain ⟨y, h1, _⟩ := take_diary rs last n hn hr
 rw [h1, List.append_assoc, readD_diary _ _ _ (fun r h => hr r (List.mem_of_mem_take h))]
 exact ⟨_, rfl⟩
theorem readD_more (rs : List (List UInt8)) (last r : List UInt8) (hr : ∀ r ∈ rs, r.length ≤ 1000) (h : r.length ≤ 1000) : readD last (diaryN last rs ++ frameD (lastN last rs) r) = (rs ++ [r], []) := by
 rw [readD_diary rs last _ hr, readD_some (last := lastN last rs) (d := frameD (lastN last rs) r) (r := r) (rest := []) (by simpa using nextD_frame (lastN last rs) r [] h), readD_none rfl]
end Go.Proofs.YtaebeemnipafbaaDoor

set_option maxRecDepth 20000
set_option linter.unusedSimpArgs false
set_option linter.unusedVariables false
namespace Go.Proofs.YtaebeemnipafbaaDoor
theorem Logged.pre {ns : List NoteN} (h : Logged ns) : ∀ i, i ≤ ns.length → Logged (ns.take i) := by
 induction h with
 | nil => intro i _; simpa using Logged.nil
 | @add ns s k h0 he ih =>
  intro i hi
  rw [List.length_append, List.length_singleton] at hi
  by_cases c : i ≤ ns.length
  ·rw [List.take_append_of_le_length c]; exact ih i c
  ·rw [List.take_of_length_le (by simp; omega)]; exact .add h0 he
theorem Logged.step {ns : List NoteN} (h : Logged ns) : ∀ (i : Nat) (n : NoteN), ns[i]? = some n → addE (ns.take i) n.name = 0 ∧ newN (ns.take i) n.name n.key = n := by
 induction h with
 | nil => intro i n hn; cases hn
 | @add ns s k h0 he ih =>
  intro i n hn
  by_cases c : i < ns.length
  ·rw [List.getElem?_append_left c] at hn
   rw [List.take_append_of_le_length (by omega)]
   exact ih i n hn
  ·rw [List.getElem?_append_right (by omega)] at hn
   have hi : i - ns.length = 0 := by
    have := (List.getElem?_eq_some_iff.1 hn).1
    simp at this
    omega
   rw [hi] at hn
   obtain rfl := Option.some.inj hn
   rw [List.take_left' (by omega)]
   exact ⟨he, rfl⟩
theorem Logged.adds {ns : List NoteN} (h : Logged ns) {i : Nat} {n : NoteN} (hn : ns[i]? = some n) : addE (ns.take i) n.name = 0 ∧ Go.Proofs.YtaebeemnipafbaaDoor.addL (ns.take i) n.name n.key = ns.take (i + 1) := by
 obtain ⟨h1, h2⟩ := h.step i n hn
 refine ⟨h1, ?_⟩
 have hi := (List.getElem?_eq_some_iff.1 hn)
 unfold Go.Proofs.YtaebeemnipafbaaDoor.addL
 rw [if_pos h1, h2, List.take_add_one, hn]
 rfl
def recN (ns : List NoteN) : List (List UInt8) := ns.map noteB
theorem recN_snoc (ns : List NoteN) (n : NoteN) : recN (ns ++ [n]) = recN ns ++ [noteB n] := by simp [recN]
theorem recN_take (ns : List NoteN) (i : Nat) : recN (ns.take i) = (recN ns).take i := by simp [recN, List.map_take]
theorem recN_len {ns : List NoteN} (h : Logged ns) : ∀ r ∈ recN ns, r.length ≤ 67 := by
 intro r hr
 obtain ⟨n, hn, rfl⟩ := List.mem_map.1 hr
 rw [length_noteB]
 have := (isNm_len (h.nm n hn)).2
 omega
theorem endD_bound (rs : List (List UInt8)) (h : ∀ r ∈ rs, r.length ≤ 67) : endD rs ≤ 77 * rs.length := by
 induction rs with
 | nil => simp [endD]
 | cons r rs ih =>
  rw [endD_cons, List.length_cons]
  have := h r (by simp)
  have := ih (fun q hq => h q (List.mem_cons_of_mem _ hq))
  omega
theorem find_new {ns : List NoteN} {s : List UInt8} {k : Dig} (hs : isNm s = true) : (findN (ns ++ [newN ns s k]) s).note = newN ns s k ∧ lastI (ns ++ [newN ns s k]) s = some ns.length := by
 have hl : lastI (ns ++ [newN ns s k]) s = some ns.length := by rw [lastI_snoc]; exact if_pos rfl
 refine ⟨?_, hl⟩
 unfold findN
 rw [if_pos hs, hl]
 simp
end Go.Proofs.YtaebeemnipafbaaDoor

set_option maxRecDepth 20000
set_option linter.unusedSimpArgs false
set_option linter.unusedVariables false
namespace Go.Proofs.YtaebeemnipafbaaDoor
open Go.RowKit
theorem mark_slr {W : World} {g t : Nat} {fr : Nat × Nat} {last r : List UInt8} (h : W.heap[g]? = some (.cells (sha (List.cons 14 (last ++ r))).arr t fr)) : SlR W (some ⟨g, 0, none⟩) 8 32 1 (bytesL (dmark last r)) :=
 ⟨by rw [length_bytesL, length_dmark], by decide, by decide, fun _ => ⟨g, 0, rfl, rangeAt_of_cells h (fun j v hv => by
  rw [← Array.getElem?_toList, Dig.toList, Nat.zero_add]
  have hj : j < 8 := by have := (List.getElem?_eq_some_iff.1 hv).1; rwa [length_bytesL, length_dmark] at this
  rw [getElem?_bytesL] at hv ⊢
  rwa [dmark, List.getElem?_take, if_pos hj] at hv)⟩⟩
set_option maxHeartbeats 1000000 in
theorem dmark_any (last r : List UInt8) (L A : Option Addr) (m lc n c : Nat) (w : World) (hT : Tb w) (hl : SlR w L m lc 1 (bytesL last)) (hr : SlR w A n c 1 (bytesL r)) (hm : m ≤ 8) (hn : n ≤ 140737488354000) :
  Calls Tryd.prog 79 #[.slice L m lc, .slice A n c] w fun e w' => ∃ g, e = .returned (.slice (some ⟨g, 0, none⟩) 8 32) ∧ St w w' [.blk g 30 (sha (List.cons 14 (last ++ r))).arr] := by
 have hst := St.refl w
 have HT := Lib.hid hT
 clear hT
 go_enter Tryd.func79, Tryd.ntmps79
 go_wp2_with (first | (go_at_call 68; have h1 := hst.old (by decide) hl; have h2 := hst.old (by decide) hr; clear hnew; refine (concat3_any [14] last r _ _ _ _ _ _ _ _ _ _ _ _ (hst.sl 0 rfl) (hst.sl 1 rfl) h1 h2 (by omega)).mono ?_; rintro e W10 ⟨O10, c10, rfl, hnew⟩; replace hst := hst.trans hnew; simp only [List.cons_append, List.nil_append] at hst) | (go_at_call 64; (try clear hnew); refine (ssum_any (List.cons 14 (last ++ r)) _ _ _ _ (HT.out.of hst) (hst.sl 0 rfl) (by omega)).mono ?_; rintro e Wk1 ⟨rfl, hnew⟩; replace hst := hst.keep hnew) | (refine L_buildS (d := some 6) rfl rfl rfl [_] (bs_1 ev_const) rfl Tryd.underlying22 el_uint8 rfl (by (simp [Value.cells]; done)) (by decide) (by decide) ?_; (try clear hnew); intro g6 W6 hnew; replace hst := hst.trans hnew; simp only [List.cons_append, List.nil_append] at hst; simp only [List.flatMap_cons, List.flatMap_nil, List.append_nil, Value.cells, List.toList_toArray] at hst) | (refine L_buildS (d := some 9) rfl rfl rfl [_, _, _] (bs_3 (ev_tmp rfl) (ev_tmp rfl) (ev_tmp rfl)) rfl Tryd.underlying83 el_S_uint8 rfl (by (simp [Value.cells]; done)) (by decide) (by decide) ?_; (try clear hnew); intro g9 W9 hnew; replace hst := hst.trans hnew; simp only [List.cons_append, List.nil_append] at hst; simp only [List.flatMap_cons, List.flatMap_nil, List.append_nil, Value.cells, List.toList_toArray] at hst) | (refine L_allocA (d := some 5) rfl rfl rfl el_api_Digest ?_; (try clear hnew); intro g5 W5 hnew; replace hst := hst.trans hnew; simp only [List.cons_append, List.nil_append] at hst) | (refine wpl_at (.store 30 (.tmp 5) (.tmp 11)) rfl ?_; (refine L_storeA rfl rfl hst rfl (by rfl) (ev_tmp rfl) (by (exact Dig.one _)) el_api_Digest (by (rfl)) 0 rfl (by (rfl)) ?_; clear hst; intro WS7 hst; simp only [List.set_cons_zero, List.set_cons_succ] at hst)))
 go_ret
 exact ⟨_, rfl, hst.pick [0] (by decide)⟩
def numsZ (l : List UInt8) : List Int := l.map fun b => (b.toNat : Int)
theorem bytesOf_numsZ (l : List UInt8) : Lib.bytesOf (numsZ l) = l := by
 unfold Lib.bytesOf numsZ
 rw [List.map_map]
 conv => rhs; rw [← List.map_id l]
 refine List.map_congr_left (fun b _ => ?_)
 simp
theorem bytesIn_of {w : World} {A : Option Addr} {n c : Nat} {l : List UInt8} (h : SlR w A n c 1 (bytesL l)) : (numsZ l).length = n ∧ Lib.BytesIn w A n (numsZ l) := by
 have hl := h.1
 rw [length_bytesL, Nat.mul_one] at hl
 refine ⟨by rw [numsZ, List.length_map]; exact hl, ?_⟩
 intro h0
 obtain ⟨b, o, rfl, hr⟩ := h.2.2.2 h0
 refine ⟨b, o, rfl, fun i hi => ?_⟩
 have hi' : i < l.length := by omega
 rw [hr i (byteV l[i]) (by rw [getElem?_bytesL, List.getElem?_eq_getElem hi']; rfl)]
 simp [byteV, numsZ, hi']
theorem equalB_any (x y : List UInt8) (A B : Option Addr) (n c m d : Nat) (w : World) (hx : SlR w A n c 1 (bytesL x)) (hy : SlR w B m d 1 (bytesL y)) :
  Calls Tryd.prog 109 #[.slice A n c, .slice B m d] w fun e w' => e = .returned (.bool (x == y)) ∧ St w w' [] := by
 have h1 := bytesIn_of hx
 have h2 := bytesIn_of hy
 refine (Tryd.bytes_Equal_all A B n c m d (numsZ x) (numsZ y) w h1.1 h2.1 h1.2 h2.2).mono ?_
 rintro e w' ⟨rfl, rfl⟩
 rw [bytesOf_numsZ, bytesOf_numsZ]
 exact ⟨rfl, St.refl _⟩
end Go.Proofs.YtaebeemnipafbaaDoor

set_option maxRecDepth 20000
set_option linter.unusedSimpArgs false
set_option linter.unusedVariables false
namespace Go.Proofs.YtaebeemnipafbaaDoor
open Go.RowKit
def cuArr (R : Option Addr) (r rc : Nat) (L : Option Addr) (lc : Nat) : Array Value := #[.slice R r rc, .slice L 8 lc]
theorem cuArr_0 {R : Option Addr} {r rc : Nat} {L : Option Addr} {lc : Nat} : (cuArr R r rc L lc)[0]? = some (.slice R r rc) := rfl
theorem cuArr_1 {R : Option Addr} {r rc : Nat} {L : Option Addr} {lc : Nat} : (cuArr R r rc L lc)[1]? = some (.slice L 8 lc) := rfl
theorem cuArr_s0 (R R' : Option Addr) (r rc r' rc' : Nat) (L : Option Addr) (lc : Nat) : (cuArr R r rc L lc).setIfInBounds 0 (.slice R' r' rc') = cuArr R' r' rc' L lc := rfl
theorem cuArr_s1 (R : Option Addr) (r rc : Nat) (L L' : Option Addr) (lc lc' : Nat) : (cuArr R r rc L lc).setIfInBounds 1 (.slice L' 8 lc') = cuArr R r rc L' lc' := rfl
def zero8 : List UInt8 := [0, 0, 0, 0, 0, 0, 0, 0]
theorem el_diary_cutter : ElemIs Tryd.prog 145 (.agg #[.slice none 0 0, .slice none 0 0]) 2 48 := by unfold ElemIs; kernel_rfl
set_option maxHeartbeats 1000000 in
theorem begun_any (R : Option Addr) (r rc : Nat) (w : World) :
  Calls Tryd.prog 77 #[.slice R r rc] w fun e w' => ∃ (g : Nat) (Z : Option Addr), e = .returned (.pointer (some ⟨g, 0, none⟩)) ∧ St w w' [.blk g 145 (cuArr R r rc Z 8), .row Z 8 8 5 1 (bytesL zero8)] := by
 have hst := St.refl w
 go_enter Tryd.func77, Tryd.ntmps77
 go_wp2_with (first | (refine L_makeS (d := some 4) (n := 8) rfl rfl rfl (by rfl) (by rfl) Tryd.underlying22 el_uint8 rfl (by omega) (by (decide)) ?_; (try clear hnew); intro g4 W4 hnew; replace hst := hst.trans hnew; simp only [List.cons_append, List.nil_append] at hst) | (refine L_boxA (d := some 6) rfl rfl rfl (ev_tmp rfl) ?_; (try clear hnew); intro g6 W6 hnew; replace hst := hst.trans hnew; simp only [List.cons_append, List.nil_append] at hst))
 go_ret
 exact ⟨_, _, rfl, hst⟩
theorem len_cons2 (a b : UInt8) (t : List UInt8) : (a :: b :: t).length = t.length + 2 := rfl
theorem or_bytes (a b : UInt8) : bits .or .i64 ((a.toNat : Int) * 256) (b.toNat : Int) = (a.toNat : Int) * 256 + (b.toNat : Int) := by
 have hx := UInt8.toNat_lt b
 have hy := UInt8.toNat_lt a
 have h1 := i64_or_nat (a.toNat * 256) b.toNat (by omega) (by omega)
 have h2 : a.toNat * 256 ||| b.toNat = a.toNat * 256 + b.toNat := by
  have := Nat.shiftLeft_add_eq_or_of_lt (i := 8) (b := b.toNat) (by omega) a.toNat
  rw [Nat.shiftLeft_eq] at this
  exact this.symm
 rw [h2] at h1
 have e : ((a.toNat * 256 : Nat) : Int) = (a.toNat : Int) * 256 := by omega
 rw [← e, h1]
 omega
set_option maxHeartbeats 4000000 in
set_option maxRecDepth 100000 in
theorem next_none (last d : List UInt8) (g : Nat) (R Lp : Option Addr) (r rc lc : Nat) (w0 w : World) (L : List Res) (hT : Tb w0) (hd : SlR w0 R r rc 1 (bytesL d)) (hl : ∀ W, St w0 W (.blk g 145 (cuArr R r rc Lp lc) :: L) → SlR W Lp 8 lc 1 (bytesL last)) (hll : last.length = 8) (hst : St w0 w (.blk g 145 (cuArr R r rc Lp lc) :: L)) (hn : nextD last d = none) :
  Calls Tryd.prog 78 #[.pointer (some ⟨g, 0, none⟩)] w fun e w' => e = .returned (.tuple #[.slice none 0 0, .bool false]) ∧ St w0 w' (.blk g 145 (cuArr R r rc Lp lc) :: L) := by
 have HT := Lib.hid hT
 have hdl := hd.1
 have hrc := hd.2.1
 have hrm := hd.2.2.1
 simp only [maxLen] at hrm
 rw [length_bytesL, Nat.mul_one] at hdl
 clear hT
 by_cases h2 : r < 2
 ·have t1 : (r : Int) < 2 := by omega
  clear hn hdl
  go_enter Tryd.func78, Tryd.ntmps78
  go_wp2_with ((refine L_load1 (d := some 10) rfl rfl rfl (by rfl) Tryd.underlying22 rfl (by (exact cell_of (hst.get 0 rfl) cuArr_0)) ?_))
  go_ret2
  exact ⟨rfl, hst⟩
 ·obtain ⟨a, b, t, rfl⟩ : ∃ a b t, d = a :: b :: t := by
   match d, hdl with
   | [], h => simp at h; omega
   | [_], h => simp at h; omega
   | a :: b :: t, _ => exact ⟨a, b, t, rfl⟩
  have t1 : ¬ (r : Int) < 2 := by omega
  have htl : t.length + 2 = r := by simpa using hdl
  have ha : a.toNat ≤ 255 := by have := UInt8.toNat_lt a; omega
  have hb : b.toNat ≤ 255 := by have := UInt8.toNat_lt b; omega
  obtain ⟨N, hN⟩ : ∃ N : Nat, N = a.toNat * 256 + b.toNat := ⟨_, rfl⟩
  have hor : bits .or .i64 ((a.toNat : Int) * 256) (b.toNat : Int) = (N : Int) := by rw [or_bytes a b, hN]; omega
  have HC0 := Lib.hid (show (((bytesL (a :: b :: t)).drop (Int.toNat 0 * 1)).take 1)[0]? = some (.int .u8 (a.toNat : Int)) from rfl)
  have HC1 := Lib.hid (show (((bytesL (a :: b :: t)).drop (Int.toNat 1 * 1)).take 1)[0]? = some (.int .u8 (b.toNat : Int)) from rfl)
  have HL1 := Lib.hid (show ((bytesL (a :: b :: t)).drop (2 * 1)).take ((2 + N - 2) * 1) = bytesL (t.take N) by
   rw [show (2 + N - 2) * 1 = N by omega]; simp [bytesL, List.map_take])
  have HL2 := Lib.hid (show ((bytesL (a :: b :: t)).drop ((2 + N) * 1)).take ((2 + N + 8 - (2 + N)) * 1) = bytesL ((t.drop N).take 8) by
   rw [show (2 + N + 8 - (2 + N)) * 1 = 8 by omega, show (2 + N) * 1 = N + 1 + 1 by omega]; simp [bytesL, List.map_take, List.map_drop])
  simp only [nextD, ← hN] at hn
  have hN2 : N ≤ 65535 := by omega
  clear hN
  generalize hbl : bytesL (a :: b :: t) = bl at hd HC0 HC1 HL1 HL2
  clear hbl hdl
  go_enter Tryd.func78, Tryd.ntmps78
  go_wp2_with ((refine L_load1 (d := some 10) rfl rfl rfl (by rfl) Tryd.underlying22 rfl (by (exact cell_of (hst.get 0 rfl) cuArr_0)) ?_))
  refine wp_region_idx [(0, 0), (1, 0), (2, 0), (3, 0), (4, 0), (5, 0), (6, 0), (7, 0), (8, 2), (9, 2), (10, 2), (11, 2), (12, 2), (13, 2), (14, 2), (15, 2), (16, 2)] (by kernel_rfl) (by kernel_rfl) ?_
  replace hst := hst.drew
  refine idx_q rfl rfl ?_; go_wp2_with fail
  refine idx_q rfl rfl ?_; go_wp2_with fail
  refine idx_qf rfl rfl (by kernel_rfl) ?_; go_wp2_with fail
  refine idx_q rfl rfl ?_; go_wp2_with ((refine L_load1 (d := some 16) rfl rfl rfl (by rfl) Tryd.underlying22 rfl (by (exact cell_of (hst.get 0 rfl) cuArr_0)) ?_))
  refine idx_q rfl rfl ?_; go_wp2_with ((refine L_idxS (d := some 17) rfl rfl rfl (by rfl) (by rfl) Tryd.underlying22 el_uint8 (by (exact hst.old (by decide) hd)) (by omega) (by omega) ?_; intro o17 p17 ha17 hr17; ((subst ha17))))
  refine idx_q rfl rfl ?_; go_wp2_with ((refine L_load1 (d := some 18) rfl rfl rfl (by rfl) Tryd.underlying5 rfl (hr17 0 _ HC0.out) ?_))
  refine idx_qc rfl rfl (by rfl) Tryd.underlying3 ?_; go_wp2_with fail
  refine idx_q rfl rfl ?_; go_wp2_with fail
  refine idx_g rfl ?_; go_wp2_with fail; refine ⟨by (exact Below.refl _ _), ?_⟩
  refine idx_g rfl ?_; go_wp2_with fail; refine ⟨by (exact Below.refl _ _), ?_⟩
  refine idx_g rfl ?_; go_wp2_with fail; refine ⟨by (exact Below.refl _ _), ?_⟩
  refine idx_g rfl ?_; go_wp2_with ((refine L_load1 (d := some 24) rfl rfl rfl (by rfl) Tryd.underlying22 rfl (by (exact cell_of (hst.get 0 rfl) cuArr_0)) ?_)); refine ⟨by (exact Below.refl _ _), ?_⟩
  refine idx_g rfl ?_; go_wp2_with ((refine L_idxS (d := some 25) rfl rfl rfl (by rfl) (by rfl) Tryd.underlying22 el_uint8 (by (exact hst.old (by decide) hd)) (by omega) (by omega) ?_; intro o25 p25 ha25 hr25; ((obtain ⟨h1, h2⟩ := some_addr ha25; subst h1; subst h2; clear ha25)))); refine ⟨by (exact Below.refl _ _), ?_⟩
  refine idx_g rfl ?_; go_wp2_with ((refine L_load1 (d := some 26) rfl rfl rfl (by rfl) Tryd.underlying5 rfl (hr25 0 _ HC1.out) ?_)); refine ⟨by (exact Below.refl _ _), ?_⟩
  refine idx_g rfl ?_; go_wp2_with fail; refine ⟨by (exact Below.refl _ _), ?_⟩
  refine idx_g rfl ?_; go_wp2_with fail; refine ⟨by (exact Below.refl _ _), ?_⟩
  refine idx_g rfl ?_; go_wp2_with fail; refine ⟨by (exact Below.refl _ _), ?_⟩
  refine idx_nil ?_
  clear hr17 hr25 hor ha hb
  by_cases hbig : 1000 < N ∨ t.length < N + 8
  ·have hb : (1000 : Int) < (N : Int) ∨ ¬ (1000 : Int) < (N : Int) ∧ (r : Int) < 2 + (N : Int) + 8 := by omega
   clear hn hbig
   rcases hb with k1 | ⟨k1, k2⟩
   all_goals
    go_wp2_with ((refine L_load1 (d := some 35) rfl rfl rfl (by rfl) Tryd.underlying22 rfl (by (exact cell_of (hst.get 0 rfl) cuArr_0)) ?_))
    go_ret2
    exact ⟨rfl, hst⟩
  ·rw [if_neg hbig] at hn
   have hne : ¬ ((t.drop N).take 8 = dmark last (t.take N)) := fun h => by rw [if_pos h] at hn; cases hn
   have HNE := Lib.hid (show ((t.drop N).take 8 == dmark last (t.take N)) = false by rw [beq_eq_false_iff_ne]; exact hne)
   have k1 : ¬ (1000 : Int) < (N : Int) := by omega
   have k2 : ¬ (r : Int) < 2 + (N : Int) + 8 := by omega
   have k3 : 2 + N + 8 ≤ r := by omega
   clear hn hbig hne
   go_wp2_with ((refine L_load1 (d := some 35) rfl rfl rfl (by rfl) Tryd.underlying22 rfl (by (exact cell_of (hst.get 0 rfl) cuArr_0)) ?_))
   refine wp_region_idx [(0, 0), (1, 0), (2, 0), (3, 0), (4, 0), (5, 0), (6, 0), (7, 0), (8, 0), (9, 0), (10, 0), (11, 0), (12, 0), (13, 0), (14, 0), (15, 0), (16, 0), (17, 2), (18, 2)] (by kernel_rfl) (by kernel_rfl) ?_
   replace hst := hst.drew
   refine idx_q rfl rfl ?_; go_wp2_with fail
   refine idx_q rfl rfl ?_; go_wp2_with fail
   refine idx_qf rfl rfl (by kernel_rfl) ?_; go_wp2_with fail
   refine idx_q rfl rfl ?_; go_wp2_with ((refine L_load1 (d := some 45) rfl rfl rfl (by rfl) Tryd.underlying22 rfl (by (exact cell_of (hst.get 0 rfl) cuArr_0)) ?_))
   refine idx_q rfl rfl ?_; go_wp2_with fail
   refine idx_q rfl rfl ?_; go_wp2_with fail
   refine idx_q rfl rfl ?_; go_wp2_with (((refine L_cutV (d := some 48) rfl rfl rfl (by rfl) Tryd.underlying22 el_uint8 (by decide) hd 2 (2 + N) _ (Or.inr ⟨_, _, rfl, rfl⟩) (Or.inr ⟨_, _, rfl, by (exact ev_tmp rfl)⟩) (Or.inl ⟨rfl, rfl⟩) (by omega) (by omega) (by omega) (by omega) ?_; intro A48 c48 hs48)))
   refine idx_q rfl rfl ?_; go_wp2_with fail
   refine idx_q rfl rfl ?_; go_wp2_with fail
   refine idx_qf rfl rfl (by kernel_rfl) ?_; go_wp2_with fail
   refine idx_q rfl rfl ?_; go_wp2_with ((refine L_load1 (d := some 52) rfl rfl rfl (by rfl) Tryd.underlying22 rfl (by (exact cell_of (hst.get 0 rfl) cuArr_0)) ?_))
   refine idx_q rfl rfl ?_; go_wp2_with fail
   refine idx_q rfl rfl ?_; go_wp2_with fail
   refine idx_q rfl rfl ?_; go_wp2_with fail
   refine idx_q rfl rfl ?_; go_wp2_with fail
   refine idx_q rfl rfl ?_; go_wp2_with fail
   refine idx_q rfl rfl ?_; go_wp2_with (((refine L_cutV (d := some 58) rfl rfl rfl (by rfl) Tryd.underlying22 el_uint8 (by decide) hd (2 + N) (2 + N + 8) _ (Or.inr ⟨_, _, rfl, by (exact ev_tmp rfl)⟩) (Or.inr ⟨_, _, rfl, by (exact ev_tmp rfl)⟩) (Or.inl ⟨rfl, rfl⟩) (by omega) (by omega) (by omega) (by omega) ?_; intro A58 c58 hs58)))
   refine idx_g rfl ?_; go_wp2_with fail; refine ⟨by (exact Below.refl _ _), ?_⟩
   refine idx_g rfl ?_; go_wp2_with fail; refine ⟨by (exact Below.refl _ _), ?_⟩
   refine idx_nil ?_
   rw [HL1.out, show 2 + N - 2 = N by omega] at hs48
   rw [HL2.out, show 2 + N + 8 - (2 + N) = 8 by omega] at hs58
   clear hd HL1 HL2 HC0 HC1
   go_upto_region 8 with (first | (go_at_call 79; (try clear hnew); refine (dmark_any last (t.take N) Lp A48 8 lc N c48 _ (HT.out.of hst) (hl _ hst) (hst.old (by decide) hs48) (by decide) (by omega)).mono ?_; rintro e Wm ⟨gm, rfl, hnew⟩; replace hst := hst.trans hnew; simp only [List.cons_append, List.nil_append] at hst) | (go_at_call 109; (try clear hnew); refine (equalB_any _ _ _ _ _ _ _ _ _ (hst.old (by decide) hs58) (mark_slr (hst.get 0 rfl))).mono ?_; rw [HNE.out]; rintro e We ⟨rfl, hnew⟩; replace hst := hst.keep hnew) | (refine L_load1 (d := some 63) rfl rfl rfl (by rfl) Tryd.underlying22 rfl (by (exact cell_of (hst.get 0 rfl) cuArr_1)) ?_))
   go_wp2_with (fail)
   go_ret2
   exact ⟨rfl, hst.tail⟩
set_option maxHeartbeats 4000000 in
set_option maxRecDepth 100000 in
theorem next_some (last d rec rest : List UInt8) (g : Nat) (R Lp : Option Addr) (r rc lc : Nat) (w0 w : World) (L : List Res) (hT : Tb w0) (hd : SlR w0 R r rc 1 (bytesL d)) (hl : ∀ W, St w0 W (.blk g 145 (cuArr R r rc Lp lc) :: L) → SlR W Lp 8 lc 1 (bytesL last)) (hll : last.length = 8) (hst : St w0 w (.blk g 145 (cuArr R r rc Lp lc) :: L)) (hn : nextD last d = some (rec, rest)) :
  Calls Tryd.prog 78 #[.pointer (some ⟨g, 0, none⟩)] w fun e w' => ∃ (A : Option Addr) (n c : Nat) (R' : Option Addr) (r' rc' : Nat) (L' : Option Addr) (lc' : Nat), e = .returned (.tuple #[.slice A n c, .bool true]) ∧ SlR w0 A n c 1 (bytesL rec) ∧ n ≤ 1000 ∧ SlR w0 R' r' rc' 1 (bytesL rest) ∧ SlR w0 L' 8 lc' 1 (bytesL (dmark last rec)) ∧
   St w0 w' (.blk g 145 (cuArr R' r' rc' L' lc') :: L) := by
 have HT := Lib.hid hT
 have hdl := hd.1
 have hrc := hd.2.1
 have hrm := hd.2.2.1
 simp only [maxLen] at hrm
 rw [length_bytesL, Nat.mul_one] at hdl
 clear hT
 obtain ⟨a, b, t, rfl⟩ : ∃ a b t, d = a :: b :: t := by
  match d, hn with
  | [], h => cases h
  | [_], h => cases h
  | a :: b :: t, _ => exact ⟨a, b, t, rfl⟩
 have htl : t.length + 2 = r := by simpa using hdl
 have ha : a.toNat ≤ 255 := by have := UInt8.toNat_lt a; omega
 have hb : b.toNat ≤ 255 := by have := UInt8.toNat_lt b; omega
 obtain ⟨N, hN⟩ : ∃ N : Nat, N = a.toNat * 256 + b.toNat := ⟨_, rfl⟩
 have hor : bits .or .i64 ((a.toNat : Int) * 256) (b.toNat : Int) = (N : Int) := by rw [or_bytes a b, hN]; omega
 have HC0 := Lib.hid (show (((bytesL (a :: b :: t)).drop (Int.toNat 0 * 1)).take 1)[0]? = some (.int .u8 (a.toNat : Int)) from rfl)
 have HC1 := Lib.hid (show (((bytesL (a :: b :: t)).drop (Int.toNat 1 * 1)).take 1)[0]? = some (.int .u8 (b.toNat : Int)) from rfl)
 have HL1 := Lib.hid (show ((bytesL (a :: b :: t)).drop (2 * 1)).take ((2 + N - 2) * 1) = bytesL (t.take N) by
  rw [show (2 + N - 2) * 1 = N by omega]; simp [bytesL, List.map_take])
 have HL2 := Lib.hid (show ((bytesL (a :: b :: t)).drop ((2 + N) * 1)).take ((2 + N + 8 - (2 + N)) * 1) = bytesL ((t.drop N).take 8) by
  rw [show (2 + N + 8 - (2 + N)) * 1 = 8 by omega, show (2 + N) * 1 = N + 1 + 1 by omega]; simp [bytesL, List.map_take, List.map_drop])
 have HL3 := Lib.hid (show ((bytesL (a :: b :: t)).drop ((2 + N + 8) * 1)).take ((r - (2 + N + 8)) * 1) = bytesL (t.drop (N + 8)) by
  rw [List.take_of_length_le (by rw [List.length_drop, length_bytesL, hdl]; omega), show (2 + N + 8) * 1 = (N + 8) + 1 + 1 by omega]
  simp [bytesL, List.map_drop])
 simp only [nextD, ← hN] at hn
 have hN2 : N ≤ 65535 := by omega
 by_cases hbig : 1000 < N ∨ t.length < N + 8
 ·rw [if_pos hbig] at hn; cases hn
 rw [if_neg hbig] at hn
 by_cases he : (t.drop N).take 8 = dmark last (t.take N)
 case neg => rw [if_neg he] at hn; cases hn
 rw [if_pos he] at hn
 simp only [Option.some.injEq, Prod.mk.injEq] at hn
 obtain ⟨rfl, rfl⟩ := hn
 rw [he] at HL2
 have HNE := Lib.hid (show (dmark last (t.take N) == dmark last (t.take N)) = true by simp)
 have k0 : ¬ (r : Int) < 2 := by omega
 have k1 : ¬ (1000 : Int) < (N : Int) := by omega
 have k2 : ¬ (r : Int) < 2 + (N : Int) + 8 := by omega
 have k3 : 2 + N + 8 ≤ r := by omega
 clear hN hbig he
 generalize hbl : bytesL (a :: b :: t) = bl at hd HC0 HC1 HL1 HL2 HL3
 clear hbl hdl
 go_enter Tryd.func78, Tryd.ntmps78
 go_wp2_with ((refine L_load1 (d := some 10) rfl rfl rfl (by rfl) Tryd.underlying22 rfl (by (exact cell_of (hst.get 0 rfl) cuArr_0)) ?_))
 refine wp_region_idx [(0, 0), (1, 0), (2, 0), (3, 0), (4, 0), (5, 0), (6, 0), (7, 0), (8, 2), (9, 2), (10, 2), (11, 2), (12, 2), (13, 2), (14, 2), (15, 2), (16, 2)] (by kernel_rfl) (by kernel_rfl) ?_
 replace hst := hst.drew
 refine idx_q rfl rfl ?_; go_wp2_with fail
 refine idx_q rfl rfl ?_; go_wp2_with fail
 refine idx_qf rfl rfl (by kernel_rfl) ?_; go_wp2_with fail
 refine idx_q rfl rfl ?_; go_wp2_with ((refine L_load1 (d := some 16) rfl rfl rfl (by rfl) Tryd.underlying22 rfl (by (exact cell_of (hst.get 0 rfl) cuArr_0)) ?_))
 refine idx_q rfl rfl ?_; go_wp2_with ((refine L_idxS (d := some 17) rfl rfl rfl (by rfl) (by rfl) Tryd.underlying22 el_uint8 (by (exact hst.old (by decide) hd)) (by omega) (by omega) ?_; intro o17 p17 ha17 hr17; ((subst ha17))))
 refine idx_q rfl rfl ?_; go_wp2_with ((refine L_load1 (d := some 18) rfl rfl rfl (by rfl) Tryd.underlying5 rfl (hr17 0 _ HC0.out) ?_))
 refine idx_qc rfl rfl (by rfl) Tryd.underlying3 ?_; go_wp2_with fail
 refine idx_q rfl rfl ?_; go_wp2_with fail
 refine idx_g rfl ?_; go_wp2_with fail; refine ⟨by (exact Below.refl _ _), ?_⟩
 refine idx_g rfl ?_; go_wp2_with fail; refine ⟨by (exact Below.refl _ _), ?_⟩
 refine idx_g rfl ?_; go_wp2_with fail; refine ⟨by (exact Below.refl _ _), ?_⟩
 refine idx_g rfl ?_; go_wp2_with ((refine L_load1 (d := some 24) rfl rfl rfl (by rfl) Tryd.underlying22 rfl (by (exact cell_of (hst.get 0 rfl) cuArr_0)) ?_)); refine ⟨by (exact Below.refl _ _), ?_⟩
 refine idx_g rfl ?_; go_wp2_with ((refine L_idxS (d := some 25) rfl rfl rfl (by rfl) (by rfl) Tryd.underlying22 el_uint8 (by (exact hst.old (by decide) hd)) (by omega) (by omega) ?_; intro o25 p25 ha25 hr25; ((obtain ⟨h1, h2⟩ := some_addr ha25; subst h1; subst h2; clear ha25)))); refine ⟨by (exact Below.refl _ _), ?_⟩
 refine idx_g rfl ?_; go_wp2_with ((refine L_load1 (d := some 26) rfl rfl rfl (by rfl) Tryd.underlying5 rfl (hr25 0 _ HC1.out) ?_)); refine ⟨by (exact Below.refl _ _), ?_⟩
 refine idx_g rfl ?_; go_wp2_with fail; refine ⟨by (exact Below.refl _ _), ?_⟩
 refine idx_g rfl ?_; go_wp2_with fail; refine ⟨by (exact Below.refl _ _), ?_⟩
 refine idx_g rfl ?_; go_wp2_with fail; refine ⟨by (exact Below.refl _ _), ?_⟩
 refine idx_nil ?_
 clear hr17 hr25 hor ha hb
 replace k1 : ¬ (1000 : Int) < (N : Int) := by omega
 replace k2 : ¬ (r : Int) < 2 + (N : Int) + 8 := by omega
 go_wp2_with ((refine L_load1 (d := some 35) rfl rfl rfl (by rfl) Tryd.underlying22 rfl (by (exact cell_of (hst.get 0 rfl) cuArr_0)) ?_))
 refine wp_region_idx [(0, 0), (1, 0), (2, 0), (3, 0), (4, 0), (5, 0), (6, 0), (7, 0), (8, 0), (9, 0), (10, 0), (11, 0), (12, 0), (13, 0), (14, 0), (15, 0), (16, 0), (17, 2), (18, 2)] (by kernel_rfl) (by kernel_rfl) ?_
 replace hst := hst.drew
 refine idx_q rfl rfl ?_; go_wp2_with fail
 refine idx_q rfl rfl ?_; go_wp2_with fail
 refine idx_qf rfl rfl (by kernel_rfl) ?_; go_wp2_with fail
 refine idx_q rfl rfl ?_; go_wp2_with ((refine L_load1 (d := some 45) rfl rfl rfl (by rfl) Tryd.underlying22 rfl (by (exact cell_of (hst.get 0 rfl) cuArr_0)) ?_))
 refine idx_q rfl rfl ?_; go_wp2_with fail
 refine idx_q rfl rfl ?_; go_wp2_with fail
 refine idx_q rfl rfl ?_; go_wp2_with (((refine L_cutV (d := some 48) rfl rfl rfl (by rfl) Tryd.underlying22 el_uint8 (by decide) hd 2 (2 + N) _ (Or.inr ⟨_, _, rfl, rfl⟩) (Or.inr ⟨_, _, rfl, by (exact ev_tmp rfl)⟩) (Or.inl ⟨rfl, rfl⟩) (by omega) (by omega) (by omega) (by omega) ?_; intro A48 c48 hs48)))
 refine idx_q rfl rfl ?_; go_wp2_with fail
 refine idx_q rfl rfl ?_; go_wp2_with fail
 refine idx_qf rfl rfl (by kernel_rfl) ?_; go_wp2_with fail
 refine idx_q rfl rfl ?_; go_wp2_with ((refine L_load1 (d := some 52) rfl rfl rfl (by rfl) Tryd.underlying22 rfl (by (exact cell_of (hst.get 0 rfl) cuArr_0)) ?_))
 refine idx_q rfl rfl ?_; go_wp2_with fail
 refine idx_q rfl rfl ?_; go_wp2_with fail
 refine idx_q rfl rfl ?_; go_wp2_with fail
 refine idx_q rfl rfl ?_; go_wp2_with fail
 refine idx_q rfl rfl ?_; go_wp2_with fail
 refine idx_q rfl rfl ?_; go_wp2_with (((refine L_cutV (d := some 58) rfl rfl rfl (by rfl) Tryd.underlying22 el_uint8 (by decide) hd (2 + N) (2 + N + 8) _ (Or.inr ⟨_, _, rfl, by (exact ev_tmp rfl)⟩) (Or.inr ⟨_, _, rfl, by (exact ev_tmp rfl)⟩) (Or.inl ⟨rfl, rfl⟩) (by omega) (by omega) (by omega) (by omega) ?_; intro A58 c58 hs58)))
 refine idx_g rfl ?_; go_wp2_with fail; refine ⟨by (exact Below.refl _ _), ?_⟩
 refine idx_g rfl ?_; go_wp2_with fail; refine ⟨by (exact Below.refl _ _), ?_⟩
 refine idx_nil ?_
 rw [HL1.out, show 2 + N - 2 = N by omega] at hs48
 rw [HL2.out, show 2 + N + 8 - (2 + N) = 8 by omega] at hs58
 clear HL1 HL2 HC0 HC1
 go_upto_region 9 with (first | (go_at_call 79; (try clear hnew); refine (dmark_any last (t.take N) Lp A48 8 lc N c48 _ (HT.out.of hst) (hl _ hst) (hst.old (by decide) hs48) (by decide) (by omega)).mono ?_; rintro e Wm ⟨gm, rfl, hnew⟩; replace hst := hst.trans hnew; simp only [List.cons_append, List.nil_append] at hst) | (go_at_call 109; (try clear hnew); refine (equalB_any _ _ _ _ _ _ _ _ _ (hst.old (by decide) hs58) (mark_slr (hst.get 0 rfl))).mono ?_; rw [HNE.out]; rintro e We ⟨rfl, hnew⟩; replace hst := hst.keep hnew) | (refine L_load1 (d := some 63) rfl rfl rfl (by rfl) Tryd.underlying22 rfl (by (exact cell_of (hst.get 0 rfl) cuArr_1)) ?_))
 (try clear hnew)
 replace hst := hst.tail
 refine wp_region_pm (.one 0 3 (.one 1 3 (.one 2 3 (.one 3 3 (.one 7 3 (.one 8 3 (.one 9 3 (.one 4 2 (.one 5 2 (.one 6 2 (.one 10 3 (.one 11 2 (.one 12 2 (.one 13 1 (.one 14 2 (.one 15 2 (.one 16 1 .nil))))))))))))))))) (by kernel_rfl) (by kernel_rfl) ?_
 replace hst := hst.drew
 refine pm_p rfl rfl ?_; go_wp2_with fail
 refine pm_p rfl rfl ?_; go_wp2_with fail
 refine pm_p rfl rfl ?_; go_wp2_with fail
 refine pm_p rfl rfl ?_; go_wp2_with fail
 refine pm_p rfl rfl ?_; go_wp2_with fail
 refine pm_pv rfl (pureV_add rfl (by rfl) (by rfl)) ?_; go_wp2_with fail
 refine pm_pv rfl (pureV_add rfl (by rfl) (by rfl)) ?_; go_wp2_with fail
 refine pm_g rfl ?_; go_wp2_with fail; refine ⟨by (exact Below.refl _ _), ?_⟩
 refine pm_g rfl ?_; go_wp2_with fail; refine ⟨by (exact Below.refl _ _), ?_⟩
 refine pm_g rfl ?_; go_wp2_with ((refine L_load1 (d := some 74) rfl rfl rfl (by rfl) Tryd.underlying22 rfl (by (exact cell_of (hst.get 0 rfl) cuArr_0)) ?_)); refine ⟨by (exact Below.refl _ _), ?_⟩
 refine pm_pv rfl (pureV_cut rfl (by rfl) Tryd.underlying22 el_uint8 (2 + N + 8) _ _ (Or.inr ⟨_, _, rfl, by (exact ev_tmp rfl)⟩) (Or.inl ⟨rfl, rfl, rfl⟩) (Or.inl ⟨rfl, rfl⟩) (by omega) (by omega) (by omega) (by omega)) ?_; go_wp2_with (((refine L_cutV (d := some 78) rfl rfl rfl (by rfl) Tryd.underlying22 el_uint8 (by decide) hd (2 + N + 8) _ _ (Or.inr ⟨_, _, rfl, by (exact ev_tmp rfl)⟩) (Or.inl ⟨rfl, rfl, rfl⟩) (Or.inl ⟨rfl, rfl⟩) (by omega) (by omega) (by omega) (by omega) ?_; intro A78 c78 hs78)))
 refine pm_g rfl ?_; go_wp2_with fail; refine ⟨by (exact Below.refl _ _), ?_⟩
 refine pm_g rfl ?_; go_wp2_with fail; refine ⟨by (exact Below.refl _ _), ?_⟩
 refine pm_e rfl ?_; go_wp2_with ((refine wpl_at (.store 22 (.tmp 80) (.tmp 70)) rfl ?_; (refine L_store1 rfl rfl hst rfl (by rfl) (ev_tmp rfl) rfl el_S_uint8 0 rfl (by (exact of_decide_eq_true rfl)) ?_; clear hst; intro WS13 hst; simp only [List.set_cons_zero, List.set_cons_succ, cuArr_s0, cuArr_s1] at hst)))
 refine pm_g rfl ?_; go_wp2_with fail; refine ⟨by (exact Below.refl _ _), ?_⟩
 refine pm_g rfl ?_; go_wp2_with fail; refine ⟨by (exact Below.refl _ _), ?_⟩
 refine pm_e rfl ?_; go_wp2_with ((refine wpl_at (.store 22 (.tmp 82) (.tmp 78)) rfl ?_; (refine L_store1 rfl rfl hst rfl (by rfl) (ev_tmp rfl) rfl el_S_uint8 0 rfl (by (exact of_decide_eq_true rfl)) ?_; clear hst; intro WS16 hst; simp only [List.set_cons_zero, List.set_cons_succ, cuArr_s0, cuArr_s1] at hst)))
 refine pm_nil ?_
 go_wp2_with (fail)
 go_ret2
 rw [HL3.out] at hs78
 exact ⟨A48, N, c48, A78, _, c78, A58, c58, rfl, hs48, by omega, hs78, hs58, hst⟩
end Go.Proofs.YtaebeemnipafbaaDoor

set_option maxRecDepth 20000
set_option linter.unusedSimpArgs false
set_option linter.unusedVariables false
namespace Go.Proofs.YtaebeemnipafbaaDoor
open Go.RowKit
theorem el_S_S_uint8 : ElemIs Tryd.prog 83 (.slice none 0 0) 1 24 := by unfold ElemIs; kernel_rfl
def clonesR (ps : List Piece) : List Res := ps.map fun p => .row p.1 p.2.1 p.2.2.1 5 1 (bytesL p.2.2.2)
theorem clonesR_cons (p : Piece) (ps : List Piece) : clonesR (p :: ps) = .row p.1 p.2.1 p.2.2.1 5 1 (bytesL p.2.2.2) :: clonesR ps := rfl
def recsP (ps : List Piece) : List (List UInt8) := ps.map fun p => p.2.2.2
theorem piecesL_ones (ps : List Piece) : ∀ u ∈ piecesL ps, u.oneCell' = true := by
 intro u hu
 obtain ⟨p, _, rfl⟩ := List.mem_map.1 hu
 rfl
theorem slr_len {W : World} {A : Option Addr} {n c : Nat} {l : List UInt8} (h : SlR W A n c 1 (bytesL l)) : n = l.length := by
 have := h.1
 rw [length_bytesL, Nat.mul_one] at this
 exact this.symm
set_option maxHeartbeats 4000000 in
set_option maxRecDepth 100000 in
theorem read_any (d : List UInt8) (A : Option Addr) (n c : Nat) (w : World) (hT : Tb w) (hd : SlR w A n c 1 (bytesL d)) (hn : n ≤ 16777216) :
  Calls Tryd.prog 39 #[.slice A n c] w fun e w' => ∃ (ps : List Piece) (O : Option Addr) (oc : Nat), e = .returned (.tuple #[.slice O ps.length oc, .int .i64 ((n : Int) - ((readD zero8 d).2.length : Int))]) ∧ recsP ps = (readD zero8 d).1 ∧
   St w w' (.row O ps.length oc 22 1 (piecesL ps) :: clonesR ps.reverse) := by
 have hst := St.refl w
 have HT := Lib.hid hT
 have hdl := Lib.hid (slr_len hd)
 have hnc := hd.2.1
 have hcm := hd.2.2.1
 simp only [maxLen] at hcm
 clear hT
 generalize htot : readD zero8 d = tot
 replace htot := Lib.hid htot
 go_enter Tryd.func39, Tryd.ntmps39
 go_wp2_with ((go_at_call 77; (try clear hnew); refine (begun_any A n c _).mono ?_; rintro e W9 ⟨g, Z, rfl, hnew⟩; replace hst := hst.trans hnew; simp only [List.cons_append, List.nil_append] at hst))
 clear hnew
 have hst : St w W9 (.blk g 145 (cuArr A n c Z 8) :: .row Z 8 8 5 1 (bytesL zero8) :: .row none 0 0 22 1 (piecesL []) :: clonesR []) := (hst.nilRow 22 1).pick [1, 2, 0] (by decide)
 go_loopg [4] (n + 1) (fun gk s4 wr => ∃ (ps : List Piece) (last rest : List UInt8) (R Lp O : Option Addr) (r rc lc k oc : Nat), Hid (rest.length < gk ∧ rest.length = r ∧ r + 10 * k ≤ n ∧ last.length = 8 ∧ ps.length = k) ∧ Hid (tot = (recsP ps ++ (readD last rest).1, (readD last rest).2)) ∧ Hid (SlR w R r rc 1 (bytesL rest)) ∧
  Hid (∀ W X, St w W (.blk g 145 (cuArr R r rc Lp lc) :: .row Z 8 8 5 1 (bytesL zero8) :: X) → SlR W Lp 8 lc 1 (bytesL last)) ∧ s4 = .slice O k oc ∧
  St w wr (.blk g 145 (cuArr R r rc Lp lc) :: .row Z 8 8 5 1 (bytesL zero8) :: .row O k oc 22 1 (piecesL ps) :: clonesR ps.reverse))
 case atStart => exact ⟨[], zero8, d, A, Z, none, n, c, 8, 0, 0, Lib.hid ⟨by have := hdl.out; omega, hdl.out.symm, by omega, rfl, rfl⟩, Lib.hid (by rw [← htot.out]; rfl), Lib.hid hd, Lib.hid (fun W X h => h.sl 1 rfl), rfl, hst⟩
 case round =>
  clear hst
  obtain ⟨ps, last, rest, R, Lp, O, r, rc, lc, k, oc, HG, HR, HS, HL, rfl, hst⟩ := hrel
  have hrn : r ≤ n := by have := HG.out; omega
  have hk10 : 10 * k ≤ n := by have := HG.out; omega
  cases hx : nextD last rest with
  | none =>
   have HN := Lib.hid (fun W L h => next_none last rest g R Lp r rc lc w W (.row Z 8 8 5 1 (bytesL zero8) :: L) HT.out HS.out (fun W' h' => HL.out W' _ h') HG.out.2.2.2.1 h hx)
   have hr2 := HR.out
   rw [readD_none hx, List.append_nil] at hr2
   go_wp2_with ((go_at_call 78; (try clear hnew); refine (HN.out _ _ hst).mono ?_; rintro e W12 ⟨rfl, hst'⟩; clear hst; have hst := hst'; clear hst'))
   refine wp_region_idx [(0, 0), (1, 0), (2, 0), (3, 0), (4, 0), (5, 0), (6, 0), (7, 0), (8, 0), (9, 2), (10, 2)] (by kernel_rfl) (by kernel_rfl) ?_
   replace hst := hst.drew
   refine idx_q rfl rfl ?_; go_wp2_with fail
   refine idx_q rfl rfl ?_; go_wp2_with fail
   refine idx_q rfl rfl ?_; go_wp2_with fail
   refine idx_q rfl rfl ?_; go_wp2_with fail
   refine idx_q rfl rfl ?_; go_wp2_with fail
   refine idx_qf rfl rfl (by kernel_rfl) ?_; go_wp2_with fail
   refine idx_q rfl rfl ?_; go_wp2_with ((refine L_load1 (d := some 23) rfl rfl rfl (by rfl) Tryd.underlying22 rfl (by (exact cell_of (hst.get 0 rfl) cuArr_0)) ?_))
   refine idx_q rfl rfl ?_; go_wp2_with fail
   refine idx_q rfl rfl ?_; go_wp2_with fail
   refine idx_g rfl ?_; go_wp2_with fail; refine ⟨by (exact Below.refl _ _), ?_⟩
   refine idx_g rfl ?_; go_wp2_with fail; refine ⟨by (exact Below.refl _ _), ?_⟩
   refine idx_nil ?_
   go_wp2_with fail
   go_ret2
   obtain ⟨_, g2, _, _, g5⟩ := HG.out
   subst g5
   refine ⟨ps, O, oc, ?_, by rw [hr2], (hst.drop ((List.sublist_cons_self _ _).trans (List.sublist_cons_self _ _)))⟩
   rw [hr2, g2]
   rfl
  | some q =>
   obtain ⟨rec, rest'⟩ := q
   have HN := Lib.hid (fun W L h => next_some last rest rec rest' g R Lp r rc lc w W (.row Z 8 8 5 1 (bytesL zero8) :: L) HT.out HS.out (fun W' h' => HL.out W' _ h') HG.out.2.2.2.1 h hx)
   have hr2 := HR.out
   rw [readD_some hx] at hr2
   have hle := (nextD_some hx).2
   go_wp2_with (first | (go_at_call 78; (try clear hnew); refine (HN.out _ _ hst).mono ?_; rintro e W12 ⟨A', n', c', R', r', rc', L', lc', rfl, hrec, hn', hrest, hlast, hst'⟩; clear hst; have hst := hst'; clear hst') | (go_at_call 63; (try clear hnew); refine (cloneB_any rec _ _ _ _ (hst.old (by decide) hrec) (by omega)).mono ?_; rintro e Wk1 ⟨A28, c28, rfl, hnew⟩; replace hst := hst.trans hnew; simp only [List.cons_append, List.nil_append] at hst) | (refine L_buildS (d := some 29) rfl rfl rfl [_] (bs_1 (ev_tmp rfl)) rfl Tryd.underlying83 el_S_uint8 rfl (by (simp [Value.cells]; done)) (by decide) (by decide) ?_; (try clear hnew); intro g29 W29 hnew; replace hst := hst.trans hnew; simp only [List.cons_append, List.nil_append] at hst; simp only [List.flatMap_cons, List.flatMap_nil, List.append_nil, Value.cells, List.toList_toArray] at hst) | (refine L_appendO (d := some 30) rfl rfl hst rfl (by rfl) (by rfl) Tryd.underlying83 el_S_uint8 rfl (by decide) (by decide) 4 rfl (by (rfl)) (by (exact hst.sl 0 rfl)) (by (simp [Value.oneCell']; done)) (by omega) ?_; clear hst; intro A30 c30 W30 hst; simp only [List.set_cons_zero, List.set_cons_succ, List.nil_append, Nat.zero_add] at hst))
   clear hnew
   go_roundg (gk - 1)
   case measure => have := HG.out; omega
   case rel =>
    obtain ⟨g1, g2, g3, g4, g5⟩ := HG.out
    have hl := congrArg List.length hle
    rw [List.length_append, length_frameD] at hl
    have hrl := slr_len hrest
    refine ⟨ps ++ [(A28, n', c28, rec)], dmark last rec, rest', R', L', _, r', rc', lc', k + 1, _, Lib.hid ⟨by omega, hrl.symm, by omega, length_dmark _ _, by rw [List.length_append, g5]; rfl⟩, Lib.hid ?_, Lib.hid hrest, Lib.hid (fun W X h => h.old (by decide) hlast), rfl, ?_⟩
    ·rw [hr2]
     simp [recsP]
    ·have h1 := hst.tail
     rw [List.reverse_append, List.reverse_singleton, List.singleton_append, clonesR_cons]
     have e : piecesL (ps ++ [(A28, n', c28, rec)]) = piecesL ps ++ [.slice A28 n' c28] := by simp [piecesL, Piece.v]
     rw [e]
     exact h1.perm (List.perm_middle (l₁ := [_, _, _])).symm
theorem add_full (d r : List UInt8) (A B : Option Addr) (n c m k : Nat) (w : World) (hm : 1000 < m) :
  Calls Tryd.prog 38 #[.slice A n c, .slice B m k] w fun e w' => e = .returned (.tuple #[.slice none 0 0, errV 4]) ∧ St w w' [] := by
 have hst := St.refl w
 have h1 : (1000 : Int) < (m : Int) := by omega
 go_enter Tryd.func38, Tryd.ntmps38
 go_wp2_with (fail)
 go_ret2
 exact ⟨rfl, hst⟩
set_option maxHeartbeats 4000000 in
set_option maxRecDepth 100000 in
theorem dadd_any (d r : List UInt8) (A B : Option Addr) (n c m k : Nat) (w : World) (hT : Tb w) (hd : SlR w A n c 1 (bytesL d)) (hr : SlR w B m k 1 (bytesL r)) (hn : n ≤ 16777216) (hm : m ≤ 1000) :
  Calls Tryd.prog 38 #[.slice A n c, .slice B m k] w fun e w' => ((readD zero8 d).2 ≠ [] ∧ e = .returned (.tuple #[.slice none 0 0, errV 1]) ∧ St w w' []) ∨
   ((readD zero8 d).2 = [] ∧ ∃ O oc, e = .returned (.tuple #[.slice O (n + m + 10) oc, .nilIface]) ∧ St w w' [.row O (n + m + 10) oc 5 1 (bytesL (d ++ frameD (lastN zero8 (readD zero8 d).1) r))]) := by
 have hst := St.refl w
 have HT := Lib.hid hT
 have hdl := Lib.hid (slr_len hd)
 have hml := Lib.hid (slr_len hr)
 have hnc := hd.2.1
 have hcm := hd.2.2.1
 simp only [maxLen] at hcm
 have t1 : ¬ (1000 : Int) < (m : Int) := by omega
 clear hT
 have hls := Lib.hid (readD_split d.length zero8 d (Nat.le_refl _))
 generalize htot : readD zero8 d = tot at hls ⊢
 replace htot := Lib.hid htot
 go_enter Tryd.func38, Tryd.ntmps38
 go_wp2_with ((go_at_call 77; (try clear hnew); refine (begun_any A n c _).mono ?_; rintro e W9 ⟨g, Z, rfl, hnew⟩; replace hst := hst.trans hnew; simp only [List.cons_append, List.nil_append] at hst))
 clear hnew
 go_loopg [7] (n + 2) (fun gk s7 wr => ∃ (is : Bool) (rs : List (List UInt8)) (last rest : List UInt8) (R Lp : Option Addr) (r rc lc : Nat), Hid (rest.length + (if is then 1 else 0) < gk ∧ rest.length = r ∧ r ≤ n ∧ last.length = 8 ∧ last = lastN zero8 rs ∧ (is = false → nextD last rest = none)) ∧ Hid (tot = (rs ++ (readD last rest).1, (readD last rest).2)) ∧ Hid (SlR w R r rc 1 (bytesL rest)) ∧
  Hid (∀ W X, St w W (.blk g 145 (cuArr R r rc Lp lc) :: .row Z 8 8 5 1 (bytesL zero8) :: X) → SlR W Lp 8 lc 1 (bytesL last)) ∧ s7 = .bool is ∧
  St w wr [.blk g 145 (cuArr R r rc Lp lc), .row Z 8 8 5 1 (bytesL zero8)])
 case atStart => exact ⟨true, [], zero8, d, A, Z, n, c, 8, Lib.hid ⟨by have := hdl.out; simp; omega, hdl.out.symm, by omega, rfl, rfl, fun h => by cases h⟩, Lib.hid (by rw [← htot.out]; rfl), Lib.hid hd, Lib.hid (fun W X h => h.sl 1 rfl), rfl, hst⟩
 case round =>
  clear hst
  obtain ⟨is, rs, last, rest, R, Lp, r', rc, lc, HG, HR, HS, HL, rfl, hst⟩ := hrel
  have hrn : r' ≤ n := HG.out.2.2.1
  cases is with
  | true =>
   cases hx : nextD last rest with
   | none =>
    have HN := Lib.hid (fun W L h => next_none last rest g R Lp r' rc lc w W (.row Z 8 8 5 1 (bytesL zero8) :: L) HT.out HS.out (fun W' h' => HL.out W' _ h') HG.out.2.2.2.1 h hx)
    go_wp2_with ((go_at_call 78; (try clear hnew); refine (HN.out _ _ hst).mono ?_; rintro e W12 ⟨rfl, hst'⟩; clear hst; have hst := hst'; clear hst'))
    go_roundg (gk - 1)
    case measure => have := HG.out; simp at this; omega
    case rel =>
     obtain ⟨g1, g2, g3, g4, g5, _⟩ := HG.out
     exact ⟨false, rs, last, rest, R, Lp, r', rc, lc, Lib.hid ⟨by simp at g1 ⊢; omega, g2, g3, g4, g5, fun _ => hx⟩, HR, HS, HL, rfl, hst⟩
   | some q =>
    obtain ⟨rec, rest'⟩ := q
    have HN := Lib.hid (fun W L h => next_some last rest rec rest' g R Lp r' rc lc w W (.row Z 8 8 5 1 (bytesL zero8) :: L) HT.out HS.out (fun W' h' => HL.out W' _ h') HG.out.2.2.2.1 h hx)
    have hr2 := HR.out
    rw [readD_some hx] at hr2
    have hle := (nextD_some hx).2
    go_wp2_with ((go_at_call 78; (try clear hnew); refine (HN.out _ _ hst).mono ?_; rintro e W12 ⟨A', n', c', R', r'', rc', L', lc', rfl, hrec, hn', hrest, hlast, hst'⟩; clear hst; have hst := hst'; clear hst'))
    go_roundg (gk - 1)
    case measure => have := HG.out; simp at this; omega
    case rel =>
     obtain ⟨g1, g2, g3, g4, g5, _⟩ := HG.out
     have hl := congrArg List.length hle
     rw [List.length_append, length_frameD] at hl
     have hrl := slr_len hrest
     refine ⟨true, rs ++ [rec], dmark last rec, rest', R', L', r'', rc', lc', Lib.hid ⟨by simp at g1 ⊢; omega, hrl.symm, by omega, length_dmark _ _, by rw [lastN_append, ← g5]; rfl, fun h => by cases h⟩, Lib.hid ?_, Lib.hid hrest, Lib.hid (fun W X h => h.old (by decide) hlast), rfl, hst⟩
     rw [hr2]
     simp
  | false =>
   obtain ⟨g1, g2, g3, g4, g5, g6⟩ := HG.out
   have hx := g6 rfl
   have hr2 := HR.out
   rw [readD_none hx, List.append_nil] at hr2
   clear g1 g6
   by_cases h0 : r' = 0
   ·subst h0
    obtain rfl : rest = [] := List.eq_nil_of_length_eq_zero g2
    have t0 : ¬ (0 : Int) < ((0 : Nat) : Int) := by omega
    have HC := Lib.hid (show [Value.int .u8 ((m : Int) / 256), .int .u8 ((m : Int) % 256)] = bytesL [UInt8.ofNat (m / 256), UInt8.ofNat m] by
     simp only [bytesL, List.map_cons, List.map_nil, byteV, UInt8.toNat_ofNat']
     rw [show m / 256 % 2 ^ 8 = m / 256 by omega]
     rfl)
    go_upto_region 7 with (fail)
    go_upto_region 9 with ((refine L_load1 (d := some 23) rfl rfl rfl (by rfl) Tryd.underlying22 rfl (by (exact cell_of (hst.get 0 rfl) cuArr_0)) ?_))
    go_wp2_with (first | (go_at_call 79; (try clear hnew); simp only [List.cons_append, List.nil_append] at hst; rw [HC.out] at hst; refine (dmark_any last r Lp B 8 lc m k _ (HT.out.of hst) (HL.out _ _ hst.tail) (hst.old (by decide) hr) (by decide) (by omega)).mono ?_; rintro e Wm ⟨gm, rfl, hnew⟩; replace hst := hst.trans hnew; simp only [List.cons_append, List.nil_append] at hst) | (go_at_call 68; (try clear hnew); refine (concat4_any d [UInt8.ofNat (m / 256), UInt8.ofNat m] r (dmark last r) _ _ _ _ _ _ _ _ _ _ _ _ _ _ _ (hst.sl 0 rfl) (hst.old (by decide) hd) (hst.sl 2 rfl) (hst.old (by decide) hr) (mark_slr (hst.get 1 rfl)) (by omega)).mono ?_; rintro e Wc ⟨O44, c44, rfl, hnew⟩; replace hst := hst.trans hnew; simp only [List.cons_append, List.nil_append] at hst) | (refine L_buildS (d := some 35) rfl rfl rfl [_, _] (bs_2 (ev_tmp rfl) (ev_tmp rfl)) rfl Tryd.underlying22 el_uint8 rfl (by (simp [Value.cells]; done)) (by decide) (by decide) ?_; (try clear hnew); intro g35 W35 hnew; replace hst := hst.trans hnew; simp only [List.cons_append, List.nil_append] at hst; simp only [List.flatMap_cons, List.flatMap_nil, List.append_nil, Value.cells, List.toList_toArray] at hst) | (refine L_load1 (d := some 40) rfl rfl rfl (by rfl) Tryd.underlying22 rfl (by (exact cell_of (hst.get 1 rfl) cuArr_1)) ?_) | (refine L_buildS (d := some 43) rfl rfl rfl [_, _, _, _] (bs_4 (ev_tmp rfl) (ev_tmp rfl) (ev_tmp rfl) (ev_tmp rfl)) rfl Tryd.underlying83 el_S_uint8 rfl (by (simp [Value.cells]; done)) (by decide) (by decide) ?_; (try clear hnew); intro g43 W43 hnew; replace hst := hst.trans hnew; simp only [List.cons_append, List.nil_append] at hst; simp only [List.flatMap_cons, List.flatMap_nil, List.append_nil, Value.cells, List.toList_toArray] at hst))
    go_ret2
    refine .inr ⟨by rw [hr2], O44, c44, by rw [show n + m + 10 = n + 2 + m + 8 by omega]; rfl, ?_⟩
    rw [show n + m + 10 = n + 2 + m + 8 by omega, hr2, ← g5, frameD, ← hml.out]
    exact hst.pick [0] (by decide)
   ·have t0 : (0 : Int) < (r' : Int) := by omega
    go_wp2_with ((refine L_load1 (d := some 23) rfl rfl rfl (by rfl) Tryd.underlying22 rfl (by (exact cell_of (hst.get 0 rfl) cuArr_0)) ?_))
    go_ret2
    exact .inl ⟨fun h => h0 (by rw [← g2, show rest = [] from h]; rfl), rfl, hst.forget⟩
end Go.Proofs.YtaebeemnipafbaaDoor

set_option maxRecDepth 20000
set_option linter.unusedSimpArgs false
set_option linter.unusedVariables false
namespace Go.Proofs.YtaebeemnipafbaaDoor
open Go.RowKit
theorem eq_of_take {α : Type} {x y : List α} {i : Nat} (hx : x.length ≤ i) (hl : x.length = y.length) (h : x.take i = y.take i) : x = y := by
 rwa [List.take_of_length_le hx, List.take_of_length_le (by omega)] at h
theorem take_succ_eq {x y : List UInt8} {i : Nat} (hx : i < x.length) (hy : i < y.length) (h : x.take i = y.take i) (he : x.getD i 0 = y.getD i 0) : x.take (i + 1) = y.take (i + 1) := by
 rw [List.take_succ_eq_append_getElem hx, List.take_succ_eq_append_getElem hy, h]
 simp only [List.getD_eq_getElem?_getD, List.getElem?_eq_getElem hx, List.getElem?_eq_getElem hy, Option.getD_some] at he
 rw [he]
theorem beq_of_ne {x y : List UInt8} {i : Nat} (h : x.getD i 0 ≠ y.getD i 0) : (x == y) = false := by
 rw [beq_eq_false_iff_ne]
 intro e
 exact h (by rw [e])
end Go.Proofs.YtaebeemnipafbaaDoor

set_option maxRecDepth 20000
set_option linter.unusedSimpArgs false
set_option linter.unusedVariables false
namespace Go.Proofs.YtaebeemnipafbaaDoor
open Go.RowKit
structure RowsAt (w : World) (A : Option Addr) (n c : Nat) (ls : List (List UInt8)) : Prop where
 ex : ∃ ps : List Piece, SlR w A n c 1 (piecesL ps) ∧ (∀ p ∈ ps, SlR w p.1 p.2.1 p.2.2.1 1 (bytesL p.2.2.2)) ∧ recsP ps = ls
theorem RowsAt.len {w : World} {A : Option Addr} {n c : Nat} {ls : List (List UInt8)} (h : RowsAt w A n c ls) : ls.length = n ∧ n ≤ c ∧ c ≤ maxLen := by
 obtain ⟨ps, h1, _, rfl⟩ := h.ex
 have := h1.1
 simp only [piecesL, List.length_map, Nat.mul_one] at this
 exact ⟨by rw [recsP, List.length_map]; exact this, h1.2.1, h1.2.2.1⟩
theorem RowsAt.old {w0 W : World} {L : List Res} {A : Option Addr} {n c : Nat} {ls : List (List UInt8)} (h : RowsAt w0 A n c ls) (hst : St w0 W L) : RowsAt W A n c ls := by
 obtain ⟨ps, h1, h2, h3⟩ := h.ex
 exact ⟨ps, hst.old (by decide) h1, fun p hp => hst.old (by decide) (h2 p hp), h3⟩
theorem St.slm {w0 W : World} {L : List Res} (h : St w0 W L) {A : Option Addr} {m c e s : Nat} {xs : List Value} (hm : Res.row A m c e s xs ∈ L) : SlR W A m c s xs := by
 obtain ⟨k, hk, he⟩ := List.getElem_of_mem hm
 exact h.sl k (by rw [List.getElem?_eq_getElem hk, he])
theorem RowsAt.read {w0 W : World} {L : List Res} {ps : List Piece} {O : Option Addr} {k oc : Nat} (h : St w0 W L) (h1 : Res.row O k oc 22 1 (piecesL ps) ∈ L) (h2 : ∀ r ∈ clonesR ps.reverse, r ∈ L) : RowsAt W O k oc (recsP ps) :=
 ⟨ps, h.slm h1, fun p hp => h.slm (h2 _ (List.mem_map.2 ⟨p, List.mem_reverse.2 hp, rfl⟩)), rfl⟩
theorem RowsAt.at {w : World} {A : Option Addr} {n c : Nat} {ls : List (List UInt8)} (h : RowsAt w A n c ls) (i : Nat) (hi : i < n) :
  ∃ (B : Option Addr) (k kc : Nat), SlR w B k kc 1 (bytesL (ls.getD i [])) ∧ ∀ {W : World} {g off : Nat} {ps : List Piece}, True → ∃ xs, SlR w A n c 1 xs ∧ xs[i]? = some (.slice B k kc) := by
 obtain ⟨ps, h1, h2, rfl⟩ := h.ex
 have hl := h1.1
 simp only [piecesL, List.length_map, Nat.mul_one] at hl
 have hi' : i < ps.length := by omega
 refine ⟨ps[i].1, ps[i].2.1, ps[i].2.2.1, ?_, fun _ => ⟨piecesL ps, h1, by simp [piecesL, Piece.v, hi']⟩⟩
 have := h2 ps[i] (List.getElem_mem hi')
 simpa [recsP, hi'] using this
end Go.Proofs.YtaebeemnipafbaaDoor

set_option maxRecDepth 20000
set_option linter.unusedSimpArgs false
set_option linter.unusedVariables false
namespace Go.Proofs.YtaebeemnipafbaaDoor
open Go.RowKit
theorem endD_take_le (rs : List (List UInt8)) (i : Nat) : endD (rs.take i) ≤ endD rs := by
 have h := length_diaryN rs zero8
 have e : rs = rs.take i ++ rs.drop i := (List.take_append_drop i rs).symm
 rw [e, diaryN_append, List.length_append, length_diaryN, length_diaryN] at h
 rw [← e] at h
 omega
theorem endD_take_succ (rs : List (List UInt8)) (i : Nat) (h : i < rs.length) : endD (rs.take (i + 1)) = endD (rs.take i) + rs[i].length + 10 := by
 have h1 := length_diaryN (rs.take (i + 1)) zero8
 rw [List.take_succ_eq_append_getElem h, diaryN_append, List.length_append, length_diaryN] at h1
 rw [List.take_succ_eq_append_getElem h]
 rw [← h1]
 simp [diaryN, length_frameD]
 omega
theorem diaryN_take_succ (rs : List (List UInt8)) (i : Nat) (h : i < rs.length) : diaryN zero8 (rs.take (i + 1)) = diaryN zero8 (rs.take i) ++ frameD (lastN zero8 (rs.take i)) rs[i] := by
 rw [List.take_succ_eq_append_getElem h, diaryN_append]
 simp [diaryN]
theorem readD_of_diary (rs : List (List UInt8)) (h : ∀ r ∈ rs, r.length ≤ 1000) : readD zero8 (diaryN zero8 rs) = (rs, []) := by
 have := readD_diary rs zero8 [] h
 rw [List.append_nil, readD_none (last := lastN zero8 rs) (d := []) rfl] at this
 rw [this, List.append_nil]
theorem frame7 : frameD zero8 [7] = [0, 1, 7] ++ dmark zero8 [7] := rfl
end Go.Proofs.YtaebeemnipafbaaDoor

set_option maxRecDepth 20000
set_option linter.unusedSimpArgs false
set_option linter.unusedVariables false
namespace Go.Proofs.YtaebeemnipafbaaDoor
open Go.RowKit
attribute [local simp] hdArr_size ntArr_size
theorem perm_td {α : Type} (A B C : List α) (d : α) : (A ++ (B ++ d :: C)).Perm (C ++ (B ++ (A ++ [d]))) := by
 have h1 : (A ++ (B ++ d :: C)).Perm ((B ++ d :: C) ++ A) := List.perm_append_comm
 have h2 : (C ++ (B ++ (A ++ [d]))).Perm ((B ++ (A ++ [d])) ++ C) := List.perm_append_comm
 refine h1.trans (List.Perm.trans ?_ h2.symm)
 rw [List.append_assoc, List.append_assoc]
 refine List.Perm.append_left B ?_
 rw [List.append_assoc]
 have h3 : (d :: (C ++ A)).Perm (d :: (A ++ C)) := (List.perm_append_comm).cons d
 exact h3.trans (List.perm_middle (l₁ := A) (l₂ := C)).symm
theorem tdEqHead (n : Int) (x y z : Dig) (w : World) : (Op.equalIn 10000 32 (.agg (hdArr n x y z)) (.agg (hdArr n x y z))).run Tryd.prog w = .ok true w := by
 rw [eqHead]
 simp
theorem diaryN_add (rs : List (List UInt8)) (r : List UInt8) : diaryN zero8 (rs ++ [r]) = diaryN zero8 rs ++ frameD (lastN zero8 rs) r := by
 rw [diaryN_append]
 simp [diaryN]
theorem endD_add (rs : List (List UInt8)) (r : List UInt8) : endD (rs ++ [r]) = endD rs + r.length + 10 := by
 have h1 := length_diaryN (rs ++ [r]) zero8
 rw [diaryN_add, List.length_append, length_diaryN, length_frameD] at h1
 omega
theorem wholeN_full (rs : List (List UInt8)) (n : Nat) (h : endD rs ≤ n) : wholeN rs n = rs.length := by
 induction rs generalizing n with
 | nil => rfl
 | cons r rs ih =>
  rw [endD_cons] at h
  simp only [wholeN, List.length_cons]
  rw [if_neg (by omega), ih _ (by omega)]
set_option maxHeartbeats 40000000 in
set_option maxRecDepth 100000 in
theorem topDiary_any (w : World) (hT : Tb w) (key : List UInt8) (K : Option Addr) (m mc : Nat) (hk : SlR w K m mc 1 (bytesL key)) (hm0 : m * 1 ≤ 140737488351232) (ns : List NoteN) (A : Option Addr) (n nc : Nat) (hx : SlR w A n nc 34 (notesL ns))
  (t : Int) (ht1 : -9223372036854775808 ≤ t) (ht2 : t ≤ 9223372036854775807) :
  Calls Tryd.prog 9 #[.slice K m mc, .slice A n nc, .int .i64 t] w fun e w' => e = .returned (.bool true) ∧ St w w' [] := by
 have hst := St.refl w
 have HT := Lib.hid hT
 have hl : ns.length = n := by have := hx.1; rw [length_notesL] at this; omega
 have HX := Lib.hid hx
 have HL := Lib.hid hl
 have HK := Lib.hid hk
 have HG := Lib.hid (fun w' (h : SlR w' K m mc 1 (bytesL key)) => lnew_any key K m mc w' h (by omega))
 have hm : m ≤ 140737488351232 := by omega
 clear hT hx hm0 hl hk
 go_enter Tryd.func9, Tryd.ntmps9
 go_upto_region 1 with (go_big_may; fail)
 go_upto_region 2 with (go_big_may; (go_at_call 33; refine (addedT_any _ (HT.out.of hst)).mono ?_; rintro e Wd ⟨rfl, hnew⟩; replace hst := hst.keep hnew; clear hnew))
 go_upto_region 3 with (go_big_may; (go_at_call 22; refine (HG.out _ (hst.old (by decide) HK.out)).mono ?_; rintro e Wl ⟨p1, rfl, hpm1, hmp1, hnew⟩; replace hst := hst.trans hnew; clear hnew))
 go_upto_region 4 with (go_big_may; (go_at_call 22; refine (HG.out _ (hst.old (by decide) HK.out)).mono ?_; rintro e Wm ⟨p2, rfl, hpm2, hmp2, hnew⟩; replace hst := hst.trans hnew; clear hnew))
 go_upto_region 6 with (go_big_may; fail)
 clear HG
 by_cases h40 : 40 < (n : Int)
 ·skip
  go_upto_region 7 with (go_big_may; fail)
  go_wp2_with (fail)
  go_ret
  exact ⟨rfl, hst.forget⟩
 have h40' : n ≤ 40 := by omega
 go_upto_region 8 with (go_big_may; fail)
 go_upto_region 9 with (go_big_may; fail)
 go_wp2_with (fail)
 clear h40
 obtain ⟨gl, hgl⟩ : ∃ g, g = p1.g := ⟨_, rfl⟩
 obtain ⟨gk2, hgk⟩ : ∃ g, g = p2.g := ⟨_, rfl⟩
 rewrite [← hgl, ← hgk]
 have HP2 := Lib.hid (show MapsOf [] p2.nm p2.am ∧ p2.g = gk2 ∧ p2.m = m from ⟨hmp2, hgk.symm, hpm2⟩)
 clear hmp2 hgk hpm2
 replace hst := St.swap (X := lgL p2 key []) (Y := lgL p1 key []) (L := []) (by simpa only [List.append_nil] using hst)
 replace hst := hst.nilRow 5 1
 have hd1 : decide ((40 : Int) < (n : Int)) = false := decide_eq_false (by omega)
 try simp only [hd1]
 clear hd1
 go_loopg [10, 11] n (fun gk s10 s11 wr => ∃ (i : Nat) (N : List NoteN) (q : LgP) (D : Option Addr) (dn dc : Nat), Hid (gk + i = n) ∧ Hid (Logged N ∧ MapsOf N q.nm q.am ∧ q.g = gl ∧ q.m = m ∧ N.length ≤ i) ∧ Hid (endD (recN N) = dn) ∧ s10 = .slice D dn dc ∧ s11 = .int .i64 (i : Int) ∧
  St w wr (lgL q key N ++ (.row D dn dc 5 1 (bytesL (diaryN zero8 (recN N))) :: lgL p2 key [])))
 case atStart => exact ⟨0, [], p1, none, 0, 0, Lib.hid rfl, Lib.hid ⟨.nil, hmp1, hgl.symm, hpm1, Nat.le_refl _⟩, Lib.hid rfl, rfl, rfl, hst.pick [1, 2, 3, 4, 5, 0, 6, 7, 8, 9, 10] (by decide)⟩
 case round =>
  clear hst hmp1 hpm1 hgl
  obtain ⟨i, N, q, D, dn, dc, HI, HV, HD, rfl, rfl, hst⟩ := hrel
  have hi := HI.out
  by_cases hlt : i < n
  ·obtain ⟨g, rfl⟩ : ∃ g, gk = g + 1 := ⟨gk - 1, by omega⟩
   have hil : i < ns.length := by rw [HL.out]; exact hlt
   have HC := Lib.hid (fun (W : World) (g off : Nat) h => note_name (W := W) (g := g) (off := off) (i := i) (ns := ns) h hil)
   have HC2 := Lib.hid (fun (W : World) (g off : Nat) h => note_key (W := W) (g := g) (off := off) (i := i) (ns := ns) h hil)
   obtain ⟨s, hs⟩ : ∃ q, q = ns[i].name := ⟨_, rfl⟩
   obtain ⟨k, hkk⟩ : ∃ q, q = ns[i].key := ⟨_, rfl⟩
   rewrite [← hs] at HC
   rewrite [← hkk] at HC2
   clear hs hkk hil
   obtain ⟨v3, v4, v5, v6, v7⟩ := HV.out
   have HA := Lib.hid (fun (w' : World) (L : List Res) h => addU_any key N s k q w w' L HT.out h v4 v3)
   rewrite [v5, v6] at HA
   have v3' := v3.addL s k
   have v7' : (addL N s k).length ≤ i + 1 := by have := (length_addL N s k).2; omega
   by_cases h0 : addE N s = 0
   ·simp only [h0, if_true] at HA
    have hN1 : addL N s k = N ++ [newN N s k] := if_pos h0
    have hsn := (addE_zero h0).1
    have hfn := (find_new (ns := N) (k := k) hsn).1
    rewrite [← hN1] at hfn
    obtain ⟨nt, hnt⟩ : ∃ nt, nt = newN N s k := ⟨_, rfl⟩
    have hnok : noteOk nt = true := by rw [hnt]; exact v3.new_ok hsn k
    have hrec : recN (addL N s k) = recN N ++ [noteB nt] := by rw [hN1, recN_snoc, hnt]
    have HNw := Lib.hid (fun w' => nwrite_any nt w' hnok)
    have hb67 : (noteB nt).length ≤ 67 := by
     have h := hnok
     unfold noteOk at h
     rw [Bool.and_eq_true] at h
     have := isNm_len h.1
     rw [length_noteB]
     omega
    have hdn : dn ≤ 16777216 := by
     have h1 := endD_bound (recN N) (recN_len v3)
     rw [HD.out] at h1
     have : (recN N).length = N.length := by simp [recN]
     omega
    have HRd := Lib.hid (readD_of_diary (recN N) (fun r h => Nat.le_trans (recN_len v3 r h) (by decide)))
    have HAd := Lib.hid (fun (w' : World) (B : Option Addr) (kc : Nat) (hT : Tb w') (h : SlR w' D dn dc 1 (bytesL (diaryN zero8 (recN N)))) h2 => dadd_any (diaryN zero8 (recN N)) (noteB nt) D B dn dc (noteB nt).length kc w' hT h h2 hdn (by omega))
    rewrite [HRd.out] at HAd
    have HDn := Lib.hid (diaryN_add (recN N) (noteB nt))
    have HEn := Lib.hid (show endD (recN (addL N s k)) = dn + (noteB nt).length + 10 by rw [hrec, endD_add, HD.out])
    rewrite [← hrec] at HDn
    have HF := Lib.hid (fun (p : LgP) (w' : World) (L : List Res) h hm => findU_any key (addL N s k) s p w w' L HT.out h hm v3' hsn)
    unfold FindEnd at HF
    rewrite [hfn, ← hnt] at HF
    obtain ⟨F, hF⟩ : ∃ F, F = findN (addL N s k) s := ⟨_, rfl⟩
    rewrite [← hF] at HF
    generalize addL N s k = N1 at *
    generalize noteB nt = bs at *
    generalize diaryN zero8 (recN N) = dl at *
    clear h0 v3 v4 v5 v6 v7 hi hN1 hsn hfn hnt hnok hrec hb67 hF HRd
    obtain ⟨n1, n2, n3⟩ := nt
    obtain ⟨f0, f4, f5, f6⟩ := F
    simp only at HF HNw
    go_upto_region 12 with (go_big_may; fail)
    refine wp_region_idxT [(0, 0), (1, 0), (2, 0), (3, 0), (4, 0), (5, 0), (6, 0), (7, 2), (8, 2), (9, 2), (10, 2), (11, 1), (12, 2), (13, 0), (14, 0), (15, 2), (16, 2)] (by kernel_rfl) (by kernel_rfl) ?_
    replace hst := hst.drew
    refine idx_q rfl rfl ?_; go_wp2_with fail
    refine idx_q rfl rfl ?_; go_wp2_with fail
    refine idx_q rfl rfl ?_; go_wp2_with fail
    refine idx_q rfl rfl ?_; go_wp2_with ((refine L_idxS (d := some 59) rfl rfl rfl (by rfl) (by rfl) Tryd.underlying23 el_api_Note (by (exact hst.old (by decide) HX.out)) (by omega) (by omega) ?_; intro o59 p59 ha59 hr59; ((subst ha59))))
    refine idx_qf rfl rfl (by kernel_rfl) ?_; go_wp2_with fail
    refine idx_q rfl rfl ?_; go_wp2_with ((refine L_load1 (d := some 61) rfl rfl rfl (by rfl) Tryd.underlying9 rfl (HC.out _ _ _ hr59) ?_))
    refine idx_q rfl rfl ?_; go_wp2_with fail
    refine idx_g rfl ?_; go_wp2_with fail; refine ⟨by (exact Below.refl _ _), ?_⟩
    refine idx_g rfl ?_; go_wp2_with ((refine L_idxS (d := some 64) rfl rfl rfl (by rfl) (by rfl) Tryd.underlying23 el_api_Note (by (exact hst.old (by decide) HX.out)) (by omega) (by omega) ?_; intro o64 p64 ha64 hr64; ((obtain ⟨h1, h2⟩ := some_addr ha64; subst h1; subst h2; clear ha64)))); refine ⟨by (exact Below.refl _ _), ?_⟩
    refine idx_g rfl ?_; go_wp2_with fail; refine ⟨by (exact Below.refl _ _), ?_⟩
    refine idx_g rfl ?_; go_wp2_with ((refine L_loadM (d := some 66) rfl rfl rfl (by rfl) Tryd.underlying30 rfl el_api_Digest (HC2.out _ _ _ hr64) (Dig.size _) ?_)); refine ⟨by (exact Below.refl _ _), ?_⟩
    refine idx_e rfl ?_; go_wp2_with ((go_at_call 24; refine (HA.out _ _ hst).mono ?_; rintro e Wa ⟨rfl, q1, u1, u2, u3, hst'⟩; clear hst; have hst := hst'; clear hst'))
    refine idx_g rfl ?_; go_wp2_with fail; refine ⟨by (exact Below.refl _ _), ?_⟩
    refine idx_q rfl rfl ?_; go_wp2_with fail
    refine idx_q rfl rfl ?_; go_wp2_with fail
    refine idx_g rfl ?_; go_wp2_with fail; refine ⟨by (exact Below.refl _ _), ?_⟩
    refine idx_g rfl ?_; go_wp2_with fail; refine ⟨by (exact Below.refl _ _), ?_⟩
    refine idx_nil ?_
    have hff := HF.out q1
    rewrite [u1] at hff
    have HF2 := Lib.hid hff
    clear hff HF HA HC2
    go_upto_region 14 with (go_big_may; fail)
    go_upto_region 15 with (go_big_may; first | (refine L_load1 (d := some 78) rfl rfl rfl (by rfl) Tryd.underlying9 rfl (HC.out _ _ _ hr76) ?_) | (go_at_call 30; refine (HF2.out _ _ hst u3).mono ?_; rintro e Wf ⟨P1, c1, P2, c2, rfl, hst'⟩; clear hst; have hst := hst'; clear hst') | (refine L_idxS (d := some 76) rfl rfl rfl (by rfl) (by rfl) Tryd.underlying23 el_api_Note (by (exact hst.old (by decide) HX.out)) (by omega) (by omega) ?_; intro o76 p76 ha76 hr76; ((obtain ⟨h1, h2⟩ := some_addr ha76; subst h1; subst h2; clear ha76))) | (refine L_allocA (d := some 14) rfl rfl rfl el_api_Found ?_; (try clear hnew); intro g14 W14 hnew; replace hst := hst.trans hnew; simp only [List.cons_append, List.nil_append] at hst) | (refine wpl_at (.store 44 (.tmp 14) (.tmp 80)) rfl ?_; (refine L_storeA rfl rfl hst rfl (by rfl) (ev_tmp rfl) (by (exact fdArr_all _ _ _ _ _ _ _ _ _ _)) el_api_Found (by (exact fdArr_size _ _ _ _ _ _ _ _ _ _)) 0 rfl (by (rfl)) ?_; clear hst; intro WS11 hst; simp only [List.set_cons_zero, List.set_cons_succ] at hst)))
    go_upto_region 16 with (go_big_may; first | (go_at_call 37; (try clear hnew); refine (HNw.out _).mono ?_; rintro e Wk1 ⟨B, bc, rfl, hnew⟩; replace hst := hst.trans hnew; simp only [List.cons_append, List.nil_append] at hst) | ((refine L_loadM (d := some 84) rfl rfl rfl (by rfl) Tryd.underlying35 rfl el_api_Note (by (exact fdArr_note (hst.get 0 rfl))) (by (exact ntArr_size _ _ _)) ?_)))
    go_upto_region 17 with (go_big_may; (go_at_call 38; (try clear hnew); refine (HAd.out _ _ _ (HT.out.of hst) (hst.sl 9 rfl) (hst.sl 0 rfl)).mono ?_; rintro e Wa (⟨h0, _, _⟩ | ⟨_, O20, c20, rfl, hnew⟩); exact absurd rfl h0; replace hst := hst.trans hnew; simp only [List.cons_append, List.nil_append] at hst))
    (try clear hnew)
    rewrite [← HDn.out] at hst
    go_upto_region 19 with (go_big_may; fail)
    go_upto_region 11 with (go_big_may; fail)
    go_wp2_with (fail)
    go_roundg g
    case measure => omega
    case rel => exact ⟨i + 1, N1, q1, O20, _, c20, Lib.hid (by have := HI.out; omega), Lib.hid ⟨v3', u3, u1, u2, v7'⟩, HEn, rfl, by go_num, hst.pick [5, 6, 7, 8, 9, 0, 11, 12, 13, 14, 15] (by decide)⟩
   ·have hL1 : addL N s k = N := by unfold addL; rw [if_neg h0]
    rewrite [hL1] at HA v3' v7'
    simp only [h0, if_false, errV] at HA
    generalize addE N s = rr at *
    clear h0 hL1 v3 v4 v5 v6 v7 hi
    go_upto_region 12 with (go_big_may; fail)
    refine wp_region_idxT [(0, 0), (1, 0), (2, 0), (3, 0), (4, 0), (5, 0), (6, 0), (7, 2), (8, 2), (9, 2), (10, 2), (11, 1), (12, 2), (13, 0), (14, 0), (15, 2), (16, 2)] (by kernel_rfl) (by kernel_rfl) ?_
    replace hst := hst.drew
    refine idx_q rfl rfl ?_; go_wp2_with fail
    refine idx_q rfl rfl ?_; go_wp2_with fail
    refine idx_q rfl rfl ?_; go_wp2_with fail
    refine idx_q rfl rfl ?_; go_wp2_with ((refine L_idxS (d := some 59) rfl rfl rfl (by rfl) (by rfl) Tryd.underlying23 el_api_Note (by (exact hst.old (by decide) HX.out)) (by omega) (by omega) ?_; intro o59 p59 ha59 hr59; ((subst ha59))))
    refine idx_qf rfl rfl (by kernel_rfl) ?_; go_wp2_with fail
    refine idx_q rfl rfl ?_; go_wp2_with ((refine L_load1 (d := some 61) rfl rfl rfl (by rfl) Tryd.underlying9 rfl (HC.out _ _ _ hr59) ?_))
    refine idx_q rfl rfl ?_; go_wp2_with fail
    refine idx_g rfl ?_; go_wp2_with fail; refine ⟨by (exact Below.refl _ _), ?_⟩
    refine idx_g rfl ?_; go_wp2_with ((refine L_idxS (d := some 64) rfl rfl rfl (by rfl) (by rfl) Tryd.underlying23 el_api_Note (by (exact hst.old (by decide) HX.out)) (by omega) (by omega) ?_; intro o64 p64 ha64 hr64; ((obtain ⟨h1, h2⟩ := some_addr ha64; subst h1; subst h2; clear ha64)))); refine ⟨by (exact Below.refl _ _), ?_⟩
    refine idx_g rfl ?_; go_wp2_with fail; refine ⟨by (exact Below.refl _ _), ?_⟩
    refine idx_g rfl ?_; go_wp2_with ((refine L_loadM (d := some 66) rfl rfl rfl (by rfl) Tryd.underlying30 rfl el_api_Digest (HC2.out _ _ _ hr64) (Dig.size _) ?_)); refine ⟨by (exact Below.refl _ _), ?_⟩
    refine idx_e rfl ?_; go_wp2_with ((go_at_call 24; refine (HA.out _ _ hst).mono ?_; rintro e Wa ⟨rfl, q1, u1, u2, u3, hst'⟩; clear hst; have hst := hst'; clear hst'))
    refine idx_g rfl ?_; go_wp2_with fail; refine ⟨by (exact Below.refl _ _), ?_⟩
    refine idx_q rfl rfl ?_; go_wp2_with fail
    refine idx_q rfl rfl ?_; go_wp2_with fail
    refine idx_g rfl ?_; go_wp2_with fail; refine ⟨by (exact Below.refl _ _), ?_⟩
    refine idx_g rfl ?_; go_wp2_with fail; refine ⟨by (exact Below.refl _ _), ?_⟩
    refine idx_nil ?_
    go_upto_region 11 with (go_big_may; fail)
    go_wp2_with (fail)
    go_roundg g
    case measure => omega
    case rel => exact ⟨i + 1, N, q1, D, dn, dc, Lib.hid (by have := HI.out; omega), Lib.hid ⟨v3', u3, u1, u2, v7'⟩, HD, rfl, by go_num, hst⟩
  ·obtain rfl : gk = 0 := by omega
   obtain rfl : i = n := by omega
   clear hi hlt HI
   by_cases ht0 : t < 0
   ·skip
    go_upto_region 20 with (go_big_may; fail)
    go_upto_region 21 with (first | (with_reducible refine L_pass (t := 108) rfl (by kernel_rfl) ?_) | (with_reducible refine L_pass (t := 109) rfl (by kernel_rfl) ?_) | (with_reducible refine L_pass (t := 110) rfl (by kernel_rfl) ?_) | (with_reducible refine L_pass (t := 111) rfl (by kernel_rfl) ?_))
    go_wp2_with (fail)
    go_ret
    exact ⟨rfl, hst.forget⟩
   by_cases htd : (dn : Int) < t
   ·skip
    go_upto_region 20 with (go_big_may; fail)
    go_upto_region 21 with (go_big_may; fail)
    go_wp2_with (fail)
    go_ret
    exact ⟨rfl, hst.forget⟩
   obtain ⟨tt, rfl⟩ : ∃ tt : Nat, t = (tt : Int) := ⟨t.toNat, by omega⟩
   have htt : tt ≤ dn := by omega
   obtain ⟨v3, v4, v5, v6, v7⟩ := HV.out
   have hrl : (recN N).length = N.length := by simp [recN]
   have hsh : ∀ r ∈ recN N, r.length ≤ 1000 := fun r h => Nat.le_trans (recN_len v3 r h) (by decide)
   have hdn : dn ≤ 16777216 := by
    have h1 := endD_bound (recN N) (recN_len v3)
    rw [HD.out] at h1
    omega
   obtain ⟨htn1, htn2⟩ := readD_torn (recN N) zero8 tt (by rw [length_diaryN, HD.out]; exact htt) hsh
   have wl := (wholeN_le (recN N) tt).1
   have HR1 := Lib.hid (fun w' X xc hT (h : SlR w' X tt xc 1 (bytesL ((diaryN zero8 (recN N)).take tt))) => read_any ((diaryN zero8 (recN N)).take tt) X tt xc w' hT h (by omega))
   rewrite [htn1] at HR1
   have HXq := Lib.hid (show ((bytesL (diaryN zero8 (recN N))).drop (0 * 1)).take ((tt - 0) * 1) = bytesL ((diaryN zero8 (recN N)).take tt) by
    rw [Nat.zero_mul, List.drop_zero, Nat.sub_zero, Nat.mul_one]; simp [bytesL, List.map_take])
   have HWa := Lib.hid (show tt = dn → wholeN (recN N) tt = N.length from fun h => by rw [wholeN_full (recN N) tt (by rw [HD.out, h]; exact Nat.le_refl _), hrl])
   clear htn1 htn2 hsh
   generalize wholeN (recN N) tt = wh at *
   generalize hdl : (diaryN zero8 (recN N)).take tt = tl at HR1 HXq
   generalize diaryN zero8 (recN N) = dl at *
   clear hdl
   go_upto_region 20 with (go_big_may; fail)
   go_upto_region 22 with (go_big_may; fail)
   have hxs := hst.sl 5 rfl
   have hxc := hxs.2.1
   clear hxs
   go_upto_region 23 with (go_big_may; first | (go_at_call 39; (try clear hnew); refine (HR1.out _ _ _ (HT.out.of hst) (by rw [← HXq.out]; exact hs116)).mono ?_; rintro e Wr ⟨ps, O, oc, rfl, hps, hnew⟩; replace hst := hst.trans hnew) | ((refine L_cutS (d := some 116) rfl rfl rfl (by rfl) Tryd.underlying22 el_uint8 (by decide) (by (exact hst.sl 5 rfl)) 0 tt _ (Or.inl ⟨rfl, rfl⟩) (Or.inr ⟨_, _, rfl, by (exact ev_tmp rfl)⟩) (Or.inl ⟨rfl, rfl⟩) (by omega) (by omega) (by omega) (by omega) ?_; intro A116 c116 hs116)))
   (try clear hnew)
   clear HR1 HXq hxc
   have hpl : ps.length = wh := by
    have := congrArg List.length hps
    rw [recsP, List.length_map, List.length_take] at this
    omega
   subst hpl
   replace hst := hst.perm (perm_td (.row O ps.length oc 22 1 (piecesL ps) :: clonesR ps.reverse) (lgL q key N) (lgL p2 key []) (.row D dn dc 5 1 (bytesL dl)))
   obtain ⟨RR, hRR⟩ : ∃ RR, RR = (.row O ps.length oc 22 1 (piecesL ps) :: clonesR ps.reverse) ++ [.row D dn dc 5 1 (bytesL dl)] := ⟨_, rfl⟩
   have HRow := Lib.hid (fun (W : World) (X Y : List Res) (h : St w W (X ++ (Y ++ RR))) => show SlR W O ps.length oc 1 (piecesL ps) from h.slm (List.mem_append_right _ (List.mem_append_right _ (by rw [hRR]; exact List.mem_append_left _ (List.mem_cons_self ..)))))
   have HPc := Lib.hid (fun (W : World) (X Y : List Res) (h : St w W (X ++ (Y ++ RR))) p (hp : p ∈ ps) => show SlR W p.1 p.2.1 p.2.2.1 1 (bytesL p.2.2.2) from h.slm (List.mem_append_right _ (List.mem_append_right _ (by rw [hRR]; exact List.mem_append_left _ (List.mem_cons_of_mem _ (List.mem_map.2 ⟨p, List.mem_reverse.2 hp, rfl⟩))))))
   rewrite [← hRR] at hst
   clear hRR
   have wl' : ps.length ≤ N.length := by omega
   go_wp2_with (fail)
   go_loopg [22] ps.length (fun gk s22 wr => ∃ (i : Nat) (q2 : LgP), Hid (gk + i = ps.length) ∧ Hid (MapsOf (N.take i) q2.nm q2.am ∧ q2.g = gk2 ∧ q2.m = m) ∧ s22 = .int .i64 (i : Int) ∧ St w wr (lgL q2 key (N.take i) ++ (lgL q key N ++ RR)))
   case atStart => exact ⟨0, p2, Lib.hid rfl, HP2, rfl, hst⟩
   case round =>
    clear hst
    obtain ⟨i, q2, HI, HV2, rfl, hst⟩ := hrel
    have hi := HI.out
    by_cases hlt : i < ps.length
    ·obtain ⟨g, rfl⟩ : ∃ g, gk = g + 1 := ⟨gk - 1, by omega⟩
     have hiN : i < N.length := by omega
     have HC := Lib.hid (fun (W : World) (g off : Nat) h => piece_at (W := W) (g := g) (off := off) (i := i) (ps := ps) h hlt)
     have HP := Lib.hid (fun (W : World) (X Y : List Res) h => HPc.out W X Y h ps[i] (List.getElem_mem hlt))
     have heq : ps[i].2.2.2 = noteB N[i] := by
      have := congrArg (fun l => l[i]?) hps
      simpa [recsP, recN, hlt, hiN, List.getElem?_take] using this
     generalize ps[i] = p at HC HP heq
     obtain ⟨PA, pn, pc, pl⟩ := p
     dsimp only at HC HP heq
     subst heq
     have hnok := v3.ok N[i] (List.getElem_mem hiN)
     have hget : N[i]? = some N[i] := List.getElem?_eq_getElem hiN
     obtain ⟨a1, a2⟩ := v3.adds hget
     obtain ⟨w1, w2, w3⟩ := HV2.out
     have HA := Lib.hid (fun (w' : World) (L : List Res) (h : St w w' (lgL q2 key (N.take i) ++ L)) => addU_any key (N.take i) N[i].name N[i].key q2 w w' L HT.out h w1 (v3.pre i (by omega)))
     rewrite [a2, w2, w3] at HA
     simp only [a1, if_true] at HA
     rewrite [show ((N.take i).length : Int) = (i : Int) by rw [List.length_take]; omega] at HA
     have HNr := Lib.hid (fun (w' : World) (h : SlR w' PA pn pc 1 (bytesL (noteB N[i]))) => nread_any N[i] PA pn pc w' hnok h)
     obtain ⟨⟨n1, n2, n3⟩, hnt⟩ : ∃ nt, nt = N[i] := ⟨_, rfl⟩
     rewrite [← hnt] at HA HNr HP
     simp only at HA HNr
     generalize N.take i = Mi at *
     generalize hMj : N.take (i + 1) = Mj at *
     have HMj := Lib.hid hMj
     clear hMj
     clear hnok hget a1 a2 w1 w2 w3 hnt hi HV2 hiN
     go_upto_region 26 with (go_big_may; fail)
     go_upto_region 27 with (go_big_may; first | (refine L_load1 (d := some 130) rfl rfl rfl (by rfl) Tryd.underlying22 rfl (HC.out _ _ _ hr129) ?_) | (go_at_call 40; (try clear hnew); refine (HNr.out _ (HP.out _ _ _ hst)).mono ?_; rintro e Wk2 ⟨rfl, hnew⟩; replace hst := hst.keep hnew) | (refine L_idxS (d := some 129) rfl rfl rfl (by rfl) (by rfl) Tryd.underlying83 el_S_uint8 (by (exact HRow.out _ _ _ hst)) (by omega) (by omega) ?_; intro o129 p129 ha129 hr129; ((subst ha129))) | (refine L_allocA (d := some 23) rfl rfl rfl el_api_Note ?_; (try clear hnew); intro g23 W23 hnew; replace hst := hst.trans hnew; simp only [List.cons_append, List.nil_append] at hst) | (refine wpl_at (.store 35 (.tmp 23) (.tmp 132)) rfl ?_; (refine L_storeA rfl rfl hst rfl (by rfl) (ev_tmp rfl) (by (exact ntArr_all _ _ _)) el_api_Note (by (exact ntArr_size _ _ _)) 0 rfl (by (rfl)) ?_; clear hst; intro WS9 hst; simp only [List.set_cons_zero, List.set_cons_succ] at hst)))
     (try clear hnew)
     replace hst := St.swap (X := [_]) (Y := lgL q2 key Mi) (L := lgL q key N ++ RR) hst
     go_upto_region 28 with (go_big_may; first | (go_at_call 24; refine (HA.out _ _ hst).mono ?_; rintro e Wa ⟨rfl, q3, u1, u2, u3, hst'⟩; clear hst; have hst := hst'; clear hst') | (refine L_load1 (d := some 137) rfl rfl rfl (by rfl) Tryd.underlying9 rfl (by (exact cell_of (hst.get 5 rfl) ntArr_0)) ?_) | ((refine L_loadM (d := some 139) rfl rfl rfl (by rfl) Tryd.underlying30 rfl el_api_Digest (by (exact ntArr_key (hst.get 5 rfl))) (by (exact Dig.size _)) ?_)))
     replace hst := (St.swap (X := lgL q3 key Mj) (Y := [_]) (L := lgL q key N ++ RR) hst).tail
     have hne : ((i : Int) != (i : Int)) = false := by simp
     go_upto_region 25 with (go_big_may; fail)
     go_wp2_with (fail)
     go_roundg g
     case measure => omega
     case rel => exact ⟨i + 1, q3, Lib.hid (by have := HI.out; omega), Lib.hid ⟨by rw [HMj.out]; exact u3, u1, u2⟩, by go_num, by rw [HMj.out]; exact hst⟩
    ·obtain rfl : gk = 0 := by omega
     obtain rfl : i = ps.length := by omega
     clear hi hlt HI HRow HPc hps
     obtain ⟨w1, w2, w3⟩ := HV2.out
     have hpre := v3.pre ps.length wl'
     have hnl := v3.len
     have htl : (N.take ps.length).length = ps.length := by rw [List.length_take]; omega
     have HH1 := Lib.hid (fun (w' : World) (ht : Tb w') (h : LgAt w' q key N) => headK_any key N q w' ht h v4 v3 (by omega))
     have HH2 := Lib.hid (fun (w' : World) (ht : Tb w') (h : LgAt w' q2 key (N.take ps.length)) => headK_any key (N.take ps.length) q2 w' ht h w1 hpre (by omega))
     rewrite [v5] at HH1
     rewrite [w2, htl] at HH2
     have HS := Lib.hid (fun (w' : World) (L : List Res) h (h1 : 1 ≤ ps.length) => since_any key N q (ps.length : Int) w w' L HT.out h v3 (by omega) (by omega))
     rewrite [v5, Int.toNat_natCast] at HS
     have HCk := Lib.hid (fun (w' : World) (P : Option Addr) (pc : Nat) (h1 : 1 ≤ ps.length) (ht : Tb w') (h : SlR w' P (plN N.length ps.length true) pc 32 (digsL (gpN (lvN N) ps.length true))) => by
      have := check_all (ps.length : Int) (N.length : Int) (rootN (lvN (N.take ps.length))) (rootN (lvN N)) (gpN (lvN N) ps.length true) P _ pc w' ht h
      rewrite [grows_honest h1 wl' (by omega)] at this
      exact this)
     have HEq := Lib.hid (show tt = dn → (ps.length : Int) = (N.length : Int) ∧ rootN (lvN (N.take ps.length)) = rootN (lvN N) ∧ mapN (N.take ps.length) = mapN N ∧ headR key (N.take ps.length) = headR key N from fun h => by
      rw [HWa.out h, List.take_length]; exact ⟨rfl, rfl, rfl, rfl⟩)
     clear w1 w2 w3 v3 v4 v5 v6 v7 hpre HV HV2 HWa htl
     obtain ⟨x1, hx1⟩ : ∃ t, t = rootN (lvN N) := ⟨_, rfl⟩
     obtain ⟨x2, hx2⟩ : ∃ t, t = rootN (lvN (N.take ps.length)) := ⟨_, rfl⟩
     obtain ⟨y1, hy1⟩ : ∃ t, t = mapN N := ⟨_, rfl⟩
     obtain ⟨y2, hy2⟩ : ∃ t, t = mapN (N.take ps.length) := ⟨_, rfl⟩
     obtain ⟨z1, hz1⟩ : ∃ t, t = headR key N := ⟨_, rfl⟩
     obtain ⟨z2, hz2⟩ : ∃ t, t = headR key (N.take ps.length) := ⟨_, rfl⟩
     rewrite [← hx1, ← hy1, ← hz1] at HH1
     rewrite [← hx2, ← hy2, ← hz2] at HH2
     rewrite [← hx1, ← hx2] at HCk
     rewrite [← hx1, ← hx2, ← hy1, ← hy2, ← hz1, ← hz2] at HEq
     clear hx1 hx2 hy1 hy2 hz1 hz2
     go_upto_region 30 with (go_big_may; fail)
     go_upto_region 31 with (go_big_may; first | (go_at_call 14; (try clear hnew); refine (HH1.out _ (HT.out.of hst) ⟨hst.get 5 rfl, hst.sl 6 rfl, hst.sl 7 rfl, hst.obj 8 rfl, hst.obj 9 rfl⟩).mono ?_; rintro e Wk3 ⟨rfl, hnew⟩; replace hst := hst.keep hnew) | (refine L_allocA (d := some 27) rfl rfl rfl el_api_Head ?_; (try clear hnew); intro g27 W27 hnew; replace hst := hst.trans hnew; simp only [List.cons_append, List.nil_append] at hst) | (refine wpl_at (.store 32 (.tmp 27) (.tmp 155)) rfl ?_; (refine L_storeA rfl rfl hst rfl (by rfl) (ev_tmp rfl) (by (exact hdArr_all _ _ _ _)) el_api_Head (by (exact hdArr_size _ _ _ _)) 0 rfl (by (rfl)) ?_; clear hst; intro WS3 hst; simp only [List.set_cons_zero, List.set_cons_succ] at hst)))
     go_upto_region 32 with (go_big_may; first | (go_at_call 14; (try clear hnew); refine (HH2.out _ (HT.out.of hst) ⟨hst.get 1 rfl, hst.sl 2 rfl, hst.sl 3 rfl, hst.obj 4 rfl, hst.obj 5 rfl⟩).mono ?_; rintro e Wk4 ⟨rfl, hnew⟩; replace hst := hst.keep hnew) | (refine L_allocA (d := some 28) rfl rfl rfl el_api_Head ?_; (try clear hnew); intro g28 W28 hnew; replace hst := hst.trans hnew; simp only [List.cons_append, List.nil_append] at hst) | (refine wpl_at (.store 32 (.tmp 28) (.tmp 157)) rfl ?_; (refine L_storeA rfl rfl hst rfl (by rfl) (ev_tmp rfl) (by (exact hdArr_all _ _ _ _)) el_api_Head (by (exact hdArr_size _ _ _ _)) 0 rfl (by (rfl)) ?_; clear hst; intro WS3 hst; simp only [List.set_cons_zero, List.set_cons_succ] at hst)))
     (try clear hnew)
     clear HH1 HH2
     go_simp
     go_cut [173] (fun s173 wx => s173 = .bool false ∧ St w wx (.blk g28 32 (hdArr (ps.length : Int) x2 y2 z2) :: .blk g27 32 (hdArr (N.length : Int) x1 y1 z1) :: (lgL q2 key (N.take ps.length) ++ (lgL q key N ++ RR))))
     case first =>
      have hn0 : ((ps.length : Int) != (ps.length : Int)) = false := by simp
      by_cases hq : tt = dn
      ·have hq1 : ((tt : Int) == (dn : Int)) = true := by simp [hq]
       have HEr := Lib.hid (fun w => show (Op.equalIn 10000 32 (.agg (hdArr (ps.length : Int) x2 y2 z2)) (.agg (hdArr (N.length : Int) x1 y1 z1))).run Tryd.prog w = .ok true w by
        obtain ⟨e1, e2, e3, e4⟩ := HEq.out hq
        rw [e1, e2, e3, e4]
        exact tdEqHead _ _ _ _ _)
       clear hq HEq
       go_wp2_with (first | (refine L_neA (d := some 171) rfl rfl rfl eqG_Head (ev_tmp rfl) (ev_tmp rfl) (HEr.out _) ?_; rw [show (!true) = false from rfl]) | (refine L_load1 (d := some 159) rfl rfl rfl (by rfl) Tryd.underlying3 rfl (by (exact cell_of (hst.get 0 rfl) hdArr_0)) ?_) | ((refine L_loadA (d := some 169) rfl rfl rfl (by rfl) Tryd.underlying32 rfl el_api_Head (by (exact hst.get 0 rfl)) (by (exact hdArr_size _ _ _ _)) ?_)) | ((refine L_loadA (d := some 170) rfl rfl rfl (by rfl) Tryd.underlying32 rfl el_api_Head (by (exact hst.get 1 rfl)) (by (exact hdArr_size _ _ _ _)) ?_)))
       go_meet
       case rel => exact ⟨rfl, hst⟩
      ·have hq1 : ((tt : Int) == (dn : Int)) = false := by simp; omega
       clear hq HEq
       go_wp2_with (first | (with_reducible refine L_pass (t := 169) rfl (by kernel_rfl) ?_) | (with_reducible refine L_pass (t := 170) rfl (by kernel_rfl) ?_) | (with_reducible refine L_pass (t := 171) rfl (by kernel_rfl) ?_) | (refine L_load1 (d := some 159) rfl rfl rfl (by rfl) Tryd.underlying3 rfl (by (exact cell_of (hst.get 0 rfl) hdArr_0)) ?_))
       go_meet
       case rel => exact ⟨rfl, hst⟩
     case rest =>
      obtain ⟨rfl, hst⟩ := hcut
      clear HEq
      by_cases hc0 : ps.length = 0
      ·have hc1 : ((ps.length : Int) == 0) = true := by simp [hc0]
       clear hc0
       go_upto_region 35 with (go_big_may; (refine L_load1 (d := some 175) rfl rfl rfl (by rfl) Tryd.underlying3 rfl (by (exact cell_of (hst.get 0 rfl) hdArr_0)) ?_))
       go_wp2_with (fail)
       go_ret
       exact ⟨rfl, hst.forget⟩
      ·have hc1 : ((ps.length : Int) == 0) = false := by simp [hc0]
       have h1 := Lib.hid (show 1 ≤ ps.length by omega)
       clear hc0
       go_upto_region 36 with (go_big_may; (refine L_load1 (d := some 175) rfl rfl rfl (by rfl) Tryd.underlying3 rfl (by (exact cell_of (hst.get 0 rfl) hdArr_0)) ?_))
       replace hst := St.swap (X := .blk g28 32 (hdArr (ps.length : Int) x2 y2 z2) :: .blk g27 32 (hdArr (N.length : Int) x1 y1 z1) :: lgL q2 key (N.take ps.length)) (Y := lgL q key N) (L := RR) hst
       go_upto_region 37 with (go_big_may; first | (go_at_call 26; refine (HS.out _ _ hst h1.out).mono ?_; rintro e Ws ⟨Os, os, rfl, hst'⟩; clear hst; have hst := hst'; clear hst') | (refine L_load1 (d := some 180) rfl rfl rfl (by rfl) Tryd.underlying3 rfl (by (exact cell_of (hst.get 5 rfl) hdArr_0)) ?_))
       go_wp2_with (first | (go_at_call 32; (try clear hnew); refine (HCk.out _ _ _ h1.out (HT.out.of hst) (hst.sl 0 rfl)).mono ?_; rintro e Wk5 ⟨rfl, hnew⟩; replace hst := hst.keep hnew) | (refine L_load1 (d := some 188) rfl rfl rfl (by rfl) Tryd.underlying3 rfl (by (exact cell_of (hst.get 6 rfl) hdArr_0)) ?_) | (refine L_load1 (d := some 190) rfl rfl rfl (by rfl) Tryd.underlying3 rfl (by (exact cell_of (hst.get 7 rfl) hdArr_0)) ?_) | ((refine L_loadM (d := some 192) rfl rfl rfl (by rfl) Tryd.underlying30 rfl el_api_Digest (by (exact hdArr_root (hst.get 6 rfl))) (by (exact Dig.size _)) ?_)) | ((refine L_loadM (d := some 194) rfl rfl rfl (by rfl) Tryd.underlying30 rfl el_api_Digest (by (exact hdArr_root (hst.get 7 rfl))) (by (exact Dig.size _)) ?_)))
       go_ret
       exact ⟨rfl, hst.forget⟩
end Go.Proofs.YtaebeemnipafbaaDoor

namespace Go.Proofs.YtaebeemnipafbaaDoor.topDiary
open Go.ChangeShapes Go.WideShapes Go.ChangeAt Go.RowKit
theorem own : ownKnob Tryd.prog.godebug = none := by kernel_rfl
theorem laidOut : laidOutB Tryd.prog = true := by kernel_rfl
theorem cellsD : Tryd.prog.cellsOf 30 = 32 := by kernel_rfl
theorem cells8 : Tryd.prog.cellsOf 5 = 1 := by kernel_rfl
set_option maxHeartbeats 4000000 in
set_option maxRecDepth 100000 in
theorem contract (H : Type) (enc : TypeId × Value → H) (W : World) (base : Nat) (args : Array Value) (ds gs : List (DataW H)) (before : List MemPlace)
  (hval : ∀ (j : Nat) t v, Tryd.f9.params[j]? = some t → args[j]? = some v → Value.okWide Tryd.prog W .any base t v)
  (hW : DataW.Whole enc Tryd.prog Tryd.f9.params.toList Rows.topDiarySpec.vars false W args.toList ds gs before) (hT : Tb W)
  (hz : (DataW.weightsEach Tryd.prog (Tryd.f9.params.toList ++ (OpenSpec.ofChange Rows.topDiarySpec).bare.plain.varTypes Tryd.prog) (ds ++ gs)).all (· ≤ reachBytes) = true) :
  Calls Tryd.prog 9 args W fun e W' => ∃ v, e = .returned v ∧ Rows.topDiarySpec.post enc Tryd.prog Tryd.f9 false true false false W args v W' := by
 have hW' := hW
 obtain ⟨p, q, hA0, hV, rfl, hfz, hnd⟩ := hW
 have hA : DataW.TrodAll enc Tryd.prog W 0 (fun _ => true) true Tryd.f9.params.toList args.toList ds p := hA0
 rw [Tryd.params9] at hA hval hz
 obtain ⟨v0, vs0, d0, ds0, p0, q0, hargs, rfl, rfl, h0, r0⟩ := trodAll_cons hA
 obtain ⟨v1, vs1, d1, ds1, p1, q1, rfl, rfl, rfl, h1, r1⟩ := trodAll_cons r0
 obtain ⟨v2, vs2, d2, ds2, p2, q2, rfl, rfl, rfl, h2, r2⟩ := trodAll_cons r1
 obtain ⟨rfl, rfl, rfl⟩ := trodAll_nil r2
 obtain rfl : args = #[v0, v1, v2] := by cases args; simp_all
 obtain ⟨rfl, rfl⟩ := trodVars_none hV
 obtain ⟨A0, n0, c0, a0, rfl, hs0, hd0⟩ := open_bytesS Tryd.underlying22 Tryd.underlying5 cells8 (hval 0 _ v0 rfl rfl) h0
 have hn0 : n0 * 1 ≤ 140737488351232 := by
  rcases hd0 with ⟨_, h0⟩ | ⟨el, sp, rfl, hel⟩
  ·rw [h0]; decide
  ·have := sized_slice hz (j := 0) (e := 5) rfl rfl Tryd.underlying22
   rw [show Tryd.prog.bytesOf 5 = 1 from by kernel_rfl] at this
   have := reach_le this
   rw [← hel]
   omega
 obtain ⟨A1, n1, c1, a1, rfl, hs1, hw1, hd1⟩ := open_notesS Tryd.underlying23 Tryd.underlying35 Tryd.underlying9 rfl Tryd.underlying3 Tryd.underlying30 Tryd.underlying5 cells8 cellsD rfl rfl rfl (by kernel_rfl) (by kernel_rfl) (by kernel_rfl) (hval 1 _ v1 rfl rfl) h1
 obtain ⟨a2, rfl, rfl, rfl, wa2⟩ := open_int Tryd.underlying3 (hval 2 _ v2 rfl rfl) h2
 have lt0 : ∀ x ∈ p0, x.block < W.heap.size := by obtain ⟨m, hm⟩ := h0; exact DataW.trod_lt m _ _ _ hm
 have lt1 : ∀ x ∈ p1, x.block < W.heap.size := by obtain ⟨m, hm⟩ := h1; exact DataW.trod_lt m _ _ _ hm
 clear hA0
 refine (topDiary_any W hT a0 A0 n0 c0 hs0 hn0 a1 A1 n1 c1 hs1 a2 (wf64 wa2).1 (wf64 wa2).2).mono fun e W' ⟨he, hst⟩ => ?_
 have bel := hst.below
 subst he
 exact ⟨_, rfl, _, _, _, [], _, [], hW', trodAll_mk1 (shut_bool Tryd.underlying4 _),
  (trodAll_cons_mk (Below.trod laidOut (by kernel_rfl) (of_decide_eq_true (by kernel_rfl)) h0 bel lt0) (trodAll_cons_mk (Below.trod laidOut (by kernel_rfl) (of_decide_eq_true (by kernel_rfl)) h1 bel lt1) (trodAll_cons_mk (shut_int Tryd.underlying3 wa2) trodAll_mk0))), rfl, bel.frame _, fun h => by cases h⟩
noncomputable def laidWorld (os : Os) : World :=
 { World.holding Tryd.prog os ⟨#[], #[], []⟩ with heap := (World.holding Tryd.prog os ⟨#[], #[], []⟩).heap.modify 1 fun
   | .cells _ t frozen => .cells tblArr t frozen
   | o => o }
theorem laid_met (os : Os) : laidMet Tryd.prog Rows.topDiaryRow.laid ((laidWorld os).forCall (fun _ _ => 0) ⟨#[], #[.slice none 0 0, .slice none 0 0, .int .i64 0], []⟩).memory :=
 laidMet_of_run' 8 (by kernel_rfl) (by kernel_rfl)
theorem reads (os : Os) {H : Type} (enc : TypeId × Value → H) : ∃ places, DataW.whole enc Tryd.prog ((laidWorld os).forCall (fun _ _ => 0) ⟨#[], #[.slice none 0 0, .slice none 0 0, .int .i64 0], []⟩).memory Tryd.f9.params.toList Rows.topDiarySpec.vars false (#[.slice none 0 0, .slice none 0 0, .int .i64 0] : Array Value).toList 8 = some ([.nil, .nil, .lit (.int .i64 0)], [], places) :=
 ⟨[], by kernel_rfl⟩
set_option maxRecDepth 100000 in
theorem lifted (os : Os) (started : os.Started) (H : Type) (enc : TypeId × Value → H) (F : Stop.Interp) :
  ReturnsInHanded {} Tryd.checked os 9 .any ((OpenSpec.ofChange Rows.topDiarySpec).preRow enc Tryd.prog Tryd.f9 Rows.topDiaryRow.domain false Rows.topDiaryRow.laid) (((OpenSpec.ofChange Rows.topDiarySpec).at F).post enc Tryd.prog Tryd.f9 false true false false) := by
 obtain ⟨places, hx⟩ := reads os enc
 refine returnsInHanded_of_row (C := Tryd.checked) (s := (OpenSpec.ofChange Rows.topDiarySpec)) own started (by kernel_rfl) Tryd.func9
  (witness_row_at (enc := enc) (C := Tryd.checked) false (laidWorld os) #[.slice none 0 0, .slice none 0 0, .int .i64 0] rfl (by kernel_rfl) (by kernel_rfl) (by kernel_rfl)
   (OpenSpec.preRow_of_cond 8 hx (by kernel_rfl) (fun k hk => by cases hk) (by kernel_rfl) (laid_met os))) ?_
 intro W base args ds gs before hval hW _ _ hz hL _ _
 exact contract H enc W base args ds gs before hval hW (tb_of hL) hz
theorem said : Rows.TopDiarySaid :=
 OpenClaim.holds_of_cond 9 Tryd.f9 rfl rfl rfl rfl rfl rfl rfl ⟨rfl, rfl, rfl, rfl, rfl⟩ rfl rfl rfl rfl rfl (by kernel_rfl) Tryd.func9 (by kernel_rfl)
  (of_decide_eq_true (by kernel_rfl)) (by unfold Func.isWrapper; first | (rw [if_pos (by decide +kernel)]; kernel_rfl) | (rw [if_neg (by decide +kernel)]; exact ⟨rfl, rfl⟩))
  (fun os started H enc _ F => by rw [OpenClaim.pre_eq_preRow]; exact lifted os started H enc F)
theorem plain (f : FuncId) (fn : Func) (hf : Tryd.pinned.checked.prog.funcNamed "oathbook/oathbooktop.TopDiary" = some f) (hfn : Tryd.pinned.checked.prog.funcs[f]? = some fn) :
  true = Tryd.pinned.checked.prog.looks [] ∧ ∀ (j : Nat) t, fn.params[j]? = some t → Tryd.pinned.checked.prog.wantsStandIn t = false := by
 obtain rfl : f = 9 := Option.some.inj ((show Tryd.prog.funcNamed "oathbook/oathbooktop.TopDiary" = some 9 by kernel_rfl).symm.trans hf) |>.symm
 obtain rfl : fn = Tryd.f9 := (Option.some.inj (Tryd.func9.symm.trans hfn)).symm
 refine ⟨by kernel_rfl, fun j t ht => ?_⟩
 rw [Tryd.params9] at ht
 have hm := Array.mem_of_getElem? ht
 have ha : ∀ t ∈ #[22, 23, 3], Tryd.prog.wantsStandIn t = false := by
  intro t ht
  simp only [List.mem_toArray, List.mem_cons, List.not_mem_nil, or_false] at ht
  rcases ht with rfl | rfl | rfl <;> kernel_rfl
 exact ha t hm
theorem proved : Rows.TopDiaryCardSaid :=
 Claim7.holds_tied_plain_at .later [] _ _ _ _ said (fun _ h => by cases h) (by kernel_rfl) (fun _ h => by cases h) topDiary_row_tie rfl ⟨rfl, rfl⟩ (by kernel_rfl) rfl plain (by kernel_rfl)
#print axioms proved
end Go.Proofs.YtaebeemnipafbaaDoor.topDiary
