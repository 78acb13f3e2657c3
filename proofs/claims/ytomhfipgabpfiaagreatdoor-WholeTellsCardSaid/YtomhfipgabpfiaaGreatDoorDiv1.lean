/- The contract of quo.Div at a divisor of one limb. -/
import Derived.Test.YtomhfipgabpfiaaGreatDoorQuo1
namespace Go.Proofs.YtomhfipgabpfiaaGreatDoor
open Go Go.RowKit

/-- a quotient, and what is left, in new memory -/
def RetDiv (w : World) (q r : Nat) (e : Ending) (w' : World) : Prop :=
  ∃ v u, e = .returned (.tuple #[v, u, .int .i64 0]) ∧ OwnL w.heap.size w' v (dig q) ∧ OwnL w.heap.size w' u (dig r) ∧ Ext w w'

set_option maxHeartbeats 1000000 in
theorem div1_calls {w : World} {v u : Value} {A B : List Nat} (hA : Limbs w v A) (hB : Limbs w u B) (hlA : A.length ≤ Lmax) (hlB : B.length ≤ Lmax) (hb0 : 0 < val B) (hb1 : val B < Bs) :
    Calls Tryz.prog 41 #[v, u] w (RetDiv w (val A / val B) (val A % val B)) := by
  have HLA := Lib.hid hlA
  have HLB := Lib.hid hlB
  have HDA : Hid ((dig (val A)).length ≤ Lmax) := Nat.le_trans (dig_val_len hA.2) hlA
  have HDB : Hid ((dig (val B)).length ≤ Lmax) := Nat.le_trans (dig_val_len hB.2) hlB
  have HB1 := Lib.hid (dig_one hb1 hb0)
  clear hlA hlB
  go_enter Tryz.func41, Tryz.ntmps41
  go_wp2_with fail
  refine (trim_calls hA HLA.out).mono ?_
  rintro e w1 ⟨a1, rfl, ha1, hx1⟩
  go_wp2_with fail
  refine (trim_calls (hB.ext hx1) HLB.out).mono ?_
  rintro e w2 ⟨b1, rfl, hb1', hx2⟩
  have ha2 := ha1.ext hx2
  have hx := hx1.trans hx2
  obtain ⟨bb, bcap, rfl, k1, k2, k3⟩ := hb1'.limbs.open
  rw [HB1.out] at k1 k3 hb1' ⊢
  obtain ⟨b, o, rfl, hbl, hcell⟩ := k3 0 (by simp)
  have hc0 := hcell 0 (by simp)
  rw [show el [val B] 0 = val B from rfl, Nat.add_zero] at hc0
  unfold maxLen at k2
  clear hcell k3
  have hcmp := cmp_calls ha2.limbs hb1'.limbs HDA.out (by rw [← HB1.out]; exact HDB.out)
  rw [val_dig, show val [val B] = val B by simp [val]] at hcmp
  have HCM := Lib.hid hcmp
  clear hcmp
  by_cases hlt : val A < val B
  · have HQ : Hid (val A / val B = 0) := Nat.div_eq_of_lt hlt
    have HR : Hid (val A % val B = val A) := Nat.mod_eq_of_lt hlt
    have hc1 := cmpN_lt hlt
    go_wp2_with (go_at_call 51; refine (HCM.out).mono ?_; rintro e w' ⟨rfl, rfl⟩; rw [hc1])
    go_ret3
    exact ⟨_, _, rfl, by rw [HQ.out, dig_zero]; exact OwnL.nil _ _, by rw [HR.out]; exact ha2, hx⟩
  · have hc1 : 0 ≤ cmpN (val A) (val B) := by unfold cmpN; rw [if_neg hlt]; split <;> decide
    have HV : Hid (val (dig (val A)) = val A) := val_dig _
    have hml := Nat.mod_lt (val A) hb0
    go_wp2_with (first
      | (go_at_call 51; refine (HCM.out).mono ?_; rintro e w' ⟨rfl, rfl⟩)
      | (go_at_call 68; refine (short_calls ha2.limbs HDA.out (val B) hb1 hb0).mono ?_; rintro e w3 ⟨q, r, rfl, HR, hq, hx3⟩; rw [HV.out] at hq HR)
      | (go_at_call 44; refine (of_calls (by rw [HR.out]; exact Nat.lt_trans hml hb1)).mono ?_; rintro e w4 ⟨s, rfl, hr, hx4⟩; rw [HR.out] at hr))
    go_ret3
    exact ⟨_, _, rfl, (hq.ext hx4).mono hx.size, hr.mono (hx.trans hx3).size, (hx.trans hx3).trans hx4⟩
end Go.Proofs.YtomhfipgabpfiaaGreatDoor
