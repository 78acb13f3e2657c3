/- Contracts of package tombolaref02: Trim.  -/
import Derived.Test.YtomhfipgabpfiaaGreatDoorRef02
namespace Go.Proofs.YtomhfipgabpfiaaGreatDoor
open Go Go.RowKit

theorem dig16_len {A : List Nat} (h : ∀ x ∈ A, x < Bs) : (dig16 (val A)).length ≤ 4 * A.length := dig16_len_le (by rw [bs_pow]; exact val_lt h)
theorem digits_room {A : List Nat} (hl : A.length ≤ 65536) : 4 * A.length + 4 ≤ Lmax := by rw [Lmax_def]; omega

set_option maxHeartbeats 400000 in
theorem reftrim_calls {w : World} {v : Value} {A : List Nat} (hA : Limbs w v A) (hl : A.length ≤ 65536) :
    Calls Tryz.prog 50 #[v] w (RetNat w (val A)) := by
  have HD := Lib.hid (dig16_len hA.2)
  go_enter Tryz.func50, Tryz.ntmps50
  go_wp2_with fail
  refine (refdigits_calls hA (digits_room hl)).mono ?_
  rintro e w1 ⟨x, rfl, hx, x1⟩
  go_wp2_with fail
  refine (join_calls hx (dig16_lt _) (by have := HD.out; rw [Lmax_def]; omega)).mono ?_
  rintro e w2 ⟨r, rfl, hr, x2⟩
  rw [v16_dig16] at hr
  go_wp2_with fail
  go_ret
  exact RetNat.of_ext ⟨r, rfl, hr, x2⟩ x1

end Go.Proofs.YtomhfipgabpfiaaGreatDoor
