/- The contract of tombolaref06.Div: of two small numbers; all. -/
import Derived.Deep.RegionWith
import Derived.Test.YtaklejkdmfgplaaGreatDoorRefDiv06
namespace Go.Proofs.YtaklejkdmfgplaaGreatDoor
open Go Go.RowKit

set_option maxHeartbeats 4000000 in
set_option maxRecDepth 100000 in
theorem refdiv06_small {w : World} {v u : Value} {A B : List Nat} (hA : Limbs w v A) (hB : Limbs w u B) (hlA : A.length ≤ 65000) (hlB : B.length ≤ 65000) (h0 : val B ≠ 0) (hsa : val A < Bs) (hsb : val B < Bs) :
    Calls Tryz.prog 70 #[v, u] w (RetDiv06 w (val A) (val B)) := by
  obtain ⟨a, ha⟩ : ∃ a, val A = a := ⟨_, rfl⟩
  obtain ⟨b, hb⟩ : ∃ b, val B = b := ⟨_, rfl⟩
  have HSA : Hid (decide (val A < Bs) = true) := by show _ = _; rw [decide_eq_true_eq]; exact hsa
  have HSB : Hid (decide (val B < Bs) = true) := by show _ = _; rw [decide_eq_true_eq]; exact hsb
  have HNA : Hid (((smallN (val A) : Nat) : Int) = (a : Int)) := by show _ = _; unfold smallN; rw [if_pos hsa, ha]
  have HNB : Hid (((smallN (val B) : Nat) : Int) = (b : Int)) := by show _ = _; unfold smallN; rw [if_pos hsb, hb]
  have HLA := Lib.hid hlA
  have HLB := Lib.hid hlB
  rw [ha, hb]
  rw [ha] at hsa
  rw [hb] at hsb h0
  obtain ⟨q, hq⟩ : ∃ q, a / b = q := ⟨_, rfl⟩
  obtain ⟨r, hr⟩ : ∃ r, a % b = r := ⟨_, rfl⟩
  have hqi : (a : Int) / (b : Int) = (q : Int) := by rw [← hq]; exact (Int.natCast_ediv a b).symm
  have hri : (a : Int) % (b : Int) = (r : Int) := by rw [← hr]; exact (Int.natCast_emod a b).symm
  have htm : Int.tmod (a : Int) (b : Int) = (r : Int) := by rw [Int.tmod_eq_emod_of_nonneg (Int.natCast_nonneg a)]; exact hri
  have QB : Hid (q < Bs) := by show q < Bs; rw [← hq]; exact Nat.lt_of_le_of_lt (Nat.div_le_self _ _) hsa
  have RB : Hid (r < Bs) := by show r < Bs; rw [← hr]; exact Nat.lt_of_le_of_lt (Nat.mod_le _ _) hsa
  have hb1 : (1 : Int) ≤ b := by omega
  have hb0 : ((b : Int) == 0) = false := by rw [beq_eq_false_iff_ne]; omega
  have hb2 : ¬ (b : Int) = 0 := by omega
  unfold RetDiv06
  rw [hq, hr]
  rw [Bs_def] at hsa hsb
  have a18 : (a : Int) ≤ 18446744073709551615 := by omega
  have b18 : (b : Int) ≤ 18446744073709551615 := by omega
  have hwq : IntKind.u64.wrap (q : Int) = (q : Int) := by have := QB.out; rw [Bs_def] at this; rw [IntWalk.u64_in _ (by omega)]
  clear ha hb h0 hlA hlB hq hr hsa hsb
  go_enter Tryz.func70, Tryz.ntmps70
  go_wp2_with fail
  refine (refsmall_calls hA (by have := HLA.out; omega) _ HNA.out true HSA.out).mono ?_
  rintro e w1 ⟨rfl, x1⟩
  have X1 := Lib.hid x1
  clear x1
  go_wp2_with fail
  refine (refsmall_calls (hB.ext X1.out) (by have := HLB.out; omega) _ HNB.out true HSB.out).mono ?_
  rintro e w2 ⟨rfl, x2⟩
  have X2 := Lib.hid (X1.out.trans x2)
  clear x2 X1
  go_wp2_with fail
  go_region_with (first
    | (have pre := ZQ; go_at_call 54; refine (refof_calls RB.out).mono ?_; rintro e a2 ⟨vr, rfl, orr, z2⟩; have OR := Lib.hid (orr.mono XQ.out.size); have OQ := Lib.hid (OQ.out.ext z2); have XE := Lib.hid (XQ.out.trans z2))
    | (have pre := ZR; go_at_call 54; refine (refof_calls QB.out).mono ?_; rintro e a2 ⟨vq, rfl, oq, z2⟩; have OQ := Lib.hid (oq.mono XR.out.size); have OR := Lib.hid (OR.out.ext z2); have XE := Lib.hid (XR.out.trans z2))
    | (go_at_call 54; refine (refof_calls QB.out).mono ?_; rintro e a1 ⟨vq, rfl, oq, z1⟩; have ZQ := z1; have OQ := Lib.hid (oq.mono (X2.out.drew).size); have XQ := Lib.hid ((X2.out.drew).trans z1))
    | (go_at_call 54; refine (refof_calls RB.out).mono ?_; rintro e a1 ⟨vr, rfl, orr, z1⟩; have ZR := z1; have OR := Lib.hid (orr.mono (X2.out.drew).size); have XR := Lib.hid ((X2.out.drew).trans z1)))
  all_goals
    go_wp2_with fail
    go_ret2
    exact ⟨_, _, rfl, OQ.out, OR.out, XE.out⟩

theorem refdiv06_calls {w : World} {v u : Value} {A B : List Nat} (hA : Limbs w v A) (hB : Limbs w u B) (hlA : A.length ≤ 65000) (hlB : B.length ≤ 65000) (h0 : val B ≠ 0) :
    Calls Tryz.prog 70 #[v, u] w (RetDiv06 w (val A) (val B)) := by
  by_cases h1 : val A < Bs
  · by_cases h2 : val B < Bs
    · exact refdiv06_small hA hB hlA hlB h0 h1 h2
    · exact refdiv06_b2 hA hB hlA hlB h0 (by rw [decide_eq_true_eq]; exact h1) (by rw [decide_eq_false_iff_not]; exact h2)
  · exact refdiv06_b1 hA hB hlA hlB h0 (by rw [decide_eq_false_iff_not]; exact h1) _ rfl
end Go.Proofs.YtaklejkdmfgplaaGreatDoor
