/- The contract of tombolaref06.size. -/
import Derived.Test.YtaklejkdmfgplaaGreatDoorRefMake06b
namespace Go.Proofs.YtaklejkdmfgplaaGreatDoor
open Go Go.RowKit

set_option maxHeartbeats 1000000 in
set_option maxRecDepth 100000 in
theorem size06_is (w : World) (n : Int) (h1 : -9223372036854775808 ≤ n) (h2 : n ≤ 9223372036854775807) :
    Calls Tryz.prog 72 #[.int .i64 n] w (RetN w n.natAbs) := by
  by_cases h : 0 ≤ n
  · obtain ⟨m, rfl⟩ : ∃ m : Nat, n = (m : Int) := ⟨n.toNat, by omega⟩
    have MB : Hid (m < Bs) := by show m < Bs; rw [Bs_def]; omega
    have HM : Hid ((m : Int).natAbs = m) := Int.natAbs_natCast m
    clear h1 h
    rw [HM.out]
    go_enter Tryz.func72, Tryz.ntmps72
    go_wp2_with fail
    refine (refof_calls MB.out).mono ?_
    rintro e w1 ⟨r, rfl, hr, x1⟩
    have R := Lib.hid hr
    have X := Lib.hid x1
    clear hr x1
    go_wp2_with fail
    go_ret
    exact ⟨_, rfl, R.out, X.out⟩
  · obtain ⟨m, hm⟩ : ∃ m : Nat, -(n + 1) = (m : Int) := ⟨(-(n + 1)).toNat, by omega⟩
    have MB : Hid (m < Bs) := by show m < Bs; rw [Bs_def]; omega
    have HM : Hid (m + 1 = n.natAbs) := by show _ = _; omega
    have hw1 : IntKind.i64.wrap (n + 1) = n + 1 := by rw [IntWalk.i64_in _ (by omega)]
    have hw2 : IntKind.i64.wrap (-(n + 1)) = (m : Int) := by rw [IntWalk.i64_in _ (by omega)]; exact hm
    have hw3 : IntKind.u64.wrap (m : Int) = (m : Int) := by rw [IntWalk.u64_in _ (by omega)]
    have hn0 : n < 0 := by omega
    have m1 : (m : Int) ≤ 9223372036854775807 := by omega
    have LM : Hid ((dig m).length ≤ 65536) := by
      show _ ≤ _
      exact Nat.le_trans (dig_len_le (k := 1) (by rw [Nat.pow_one]; exact MB.out)) (by decide)
    clear h
    go_enter Tryz.func72, Tryz.ntmps72
    go_wp2_with fail
    refine (refof_calls MB.out).mono ?_
    rintro e w1 ⟨r, rfl, hr, x1⟩
    have R := Lib.hid hr
    have X := Lib.hid x1
    have EX := Lib.hid ((Ext.refl w1).alloc (.cells #[.int .u64 1] 54))
    have LIT : Hid (Limbs (w1.alloc (.cells #[.int .u64 1] 54)) (.slice (some ⟨w1.heap.size, 0, none⟩) 1 1) (dig 1)) := by
      show Limbs _ _ _
      rw [dig_one one_lt_Bs (by decide)]
      exact limbs_lit w1 [1] (by simp [one_lt_Bs]) _ rfl 1 rfl (by rw [Lmax_def]; simp)
    clear hr x1 hm
    go_wp2_with fail
    refine (refadd_nat (R.out.limbs.ext EX.out) LIT.out LM.out (by rw [dig_one one_lt_Bs (by decide)]; decide) HM.out).mono ?_
    rintro e w2 ⟨r2, rfl, hr2, x2⟩
    have X2 := Lib.hid (X.out.trans EX.out)
    have R2 := Lib.hid (hr2.mono X2.out.size)
    have X3 := Lib.hid (X2.out.trans x2)
    clear hr2 x2
    go_wp2_with fail
    go_ret
    exact ⟨_, rfl, R2.out, X3.out⟩
end Go.Proofs.YtaklejkdmfgplaaGreatDoor
