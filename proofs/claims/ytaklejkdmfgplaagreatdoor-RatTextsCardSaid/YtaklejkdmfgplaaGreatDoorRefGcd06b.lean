/- The contract of tombolaref06.Gcd, of any two naturals. -/
import Derived.Test.YtaklejkdmfgplaaGreatDoorRefGcd06
namespace Go.Proofs.YtaklejkdmfgplaaGreatDoor
open Go Go.RowKit

set_option maxHeartbeats 2000000 in
set_option maxRecDepth 100000 in
theorem refgcd_z1 {w : World} {v u : Value} {A B : List Nat} (hA : Limbs w v A) (hB : Limbs w u B) (hlA : A.length ≤ 65536) (hlB : B.length ≤ 65536) (hA0 : val A = 0) :
    Calls Tryz.prog 69 #[v, u] w (RetNat w (val B)) := by
  have HLA := Lib.hid hlA
  have HLB := Lib.hid hlB
  have HA := Lib.hid hA0
  clear hA0 hlA hlB
  go_enter Tryz.func69, Tryz.ntmps69
  go_wp2_with fail
  refine (reftrim_calls hA HLA.out).mono ?_
  rintro e w1 ⟨v1, rfl, h1, x1⟩
  go_wp2_with fail
  refine (reftrim_calls (hB.ext x1) HLB.out).mono ?_
  rintro e w2 ⟨u1, rfl, h2, x2⟩
  rw [HA.out] at h1
  obtain ⟨pv, cv, rfl⟩ := h1.sh
  rw [dig_zero]
  have R2 := Lib.hid (h2.mono x1.size)
  have X2 := Lib.hid (x1.trans x2)
  clear h1 h2 x1 x2
  simp only [List.length_nil]
  go_wp2_with fail
  go_ret
  exact ⟨_, rfl, R2.out, X2.out⟩

set_option maxHeartbeats 2000000 in
set_option maxRecDepth 100000 in
theorem refgcd_z2 {w : World} {v u : Value} {A B : List Nat} (hA : Limbs w v A) (hB : Limbs w u B) (hlA : A.length ≤ 65536) (hlB : B.length ≤ 65536) (hA0 : val A ≠ 0) (hB0 : val B = 0) :
    Calls Tryz.prog 69 #[v, u] w (RetNat w (val A)) := by
  have HLA := Lib.hid hlA
  have HLB := Lib.hid hlB
  have HB := Lib.hid hB0
  obtain ⟨la, hla⟩ : ∃ l, (dig (val A)).length = l := ⟨_, rfl⟩
  have la1 : (1 : Int) ≤ la := by have : la ≠ 0 := fun e => hA0 (dig_len_pos.1 (by rw [hla, e])); omega
  have ea : ((la : Int) == 0) = false := by rw [beq_eq_false_iff_ne]; omega
  have HL := Lib.hid hla
  clear hA0 hB0 hlA hlB hla
  go_enter Tryz.func69, Tryz.ntmps69
  go_wp2_with fail
  refine (reftrim_calls hA HLA.out).mono ?_
  rintro e w1 ⟨v1, rfl, h1, x1⟩
  go_wp2_with fail
  refine (reftrim_calls (hB.ext x1) HLB.out).mono ?_
  rintro e w2 ⟨u1, rfl, h2, x2⟩
  rw [HB.out] at h2
  obtain ⟨pv, cv, rfl⟩ := h1.sh
  obtain ⟨pu, cu, rfl⟩ := h2.sh
  rw [dig_zero]
  have R2 := Lib.hid (h1.ext x2)
  have X2 := Lib.hid (x1.trans x2)
  rw [HL.out] at R2 ⊢
  clear h1 h2 x1 x2
  simp only [List.length_nil]
  go_wp2_with fail
  go_ret
  exact ⟨_, rfl, R2.out, X2.out⟩

theorem refgcd06_calls {w : World} {v u : Value} {A B : List Nat} (hA : Limbs w v A) (hB : Limbs w u B) (K : Nat) (hK : K ≤ 1000) (hlA : A.length ≤ K) (hlB : B.length ≤ K) :
    Calls Tryz.prog 69 #[v, u] w (RetNat w (Nat.gcd (val A) (val B))) := by
  by_cases h1 : val A = 0
  · have := refgcd_z1 hA hB (by omega) (by omega) h1
    rwa [h1, Nat.gcd_zero_left]
  · by_cases h2 : val B = 0
    · have := refgcd_z2 hA hB (by omega) (by omega) h1 h2
      rwa [h2, Nat.gcd_zero_right]
    · exact refgcd_nz hA hB K hK hlA hlB h1 h2
end Go.Proofs.YtaklejkdmfgplaaGreatDoor
