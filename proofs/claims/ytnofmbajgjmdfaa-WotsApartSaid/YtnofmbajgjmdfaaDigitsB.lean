/-
  Proved here: the contract of the program's exported function that tells the digits as a slice. No condition.
-/
import Derived.Test.YtnofmbajgjmdfaaDigits
namespace Go.Proofs.Ytnofmbajgjmdfaa
open Go.RowKit

theorem length_digitsN (d : Dig) : (digitsN d.l).length = 67 := by
  simp only [digitsN, List.length_append, length_nibs, d.h, List.length_cons, List.length_nil]

set_option maxHeartbeats 400000 in
theorem digitsSl_any (d : Dig) (w : World) :
    Calls Try.prog 6 #[d.v] w fun e w' => ∃ g, e = .returned (.slice (some ⟨g, 0, none⟩) 67 67) ∧ St w w' [.blk g 41 (natsL (digitsN d.l)).toArray] := by
  have hst := St.refl w
  have Hl := Lib.hid (show (natsL (digitsN d.l)).toArray.size = 67 by simp only [List.size_toArray, natsL, List.length_map, length_digitsN])
  have h19 := Lib.hid (oneCell_nats (l := digitsN d.l))
  unfold Dig.v
  go_enter Try.func6, Try.ntmps6
  go_wp2_with (first
    | (refine wpl_boxAgg rfl hst 23 (.tmp 0) rfl (cs := d.arr) (by rfl) ?_; clear hst; intro gd W1 hst)
    | (refine wpl_loadRow rfl 23 (.tmp 1) rfl (by rfl) Try.underlying23 rfl (by rw [elD.size, d.size]) (hst.get 0 rfl) ?_)
    | (go_at_call 13; refine (digits_any d _).mono ?_; rintro e w' ⟨rfl, hst'⟩; replace hst := hst.keep hst'; clear hst')
    | (refine wpl_allocAgg rfl hst 41 rfl el67 ?_; clear hst; intro g W2 hst)
    | (refine wpl_storeRow rfl hst 41 (.tmp 3) (.tmp 5) rfl (by rfl) (cells := (natsL (digitsN d.l)).toArray) (by rfl) h19.out (by rw [el67.size, Hl.out]) 0 rfl (by rw [Hl.out]; rfl) ?_; clear hst; intro W3 hst)
    | fail)
  go_ret
  exact ⟨g, rfl, hst.drop (by simp)⟩
end Go.Proofs.Ytnofmbajgjmdfaa
