/- Contracts of tombolaref05 and of the law's helpers: Same, same. -/
import Derived.Test.YtomhfipgabpfiaaGreatDoorWhole5
namespace Go.Proofs.YtomhfipgabpfiaaGreatDoor
open Go Go.RowKit

set_option maxHeartbeats 2000000 in
set_option maxRecDepth 100000 in
theorem isame_calls {w : World} {v u : Value} {A B : List Nat} (hA : Limbs w v A) (hB : Limbs w u B) (n1 n2 : Bool) :
    Calls Tryz.prog 14 #[.agg #[.bool n1, v], .agg #[.bool n2, u]] w fun e w' => e = .returned (.bool (decide (n1 = n2 ∧ A = B))) ∧ Ext w w' := by
  obtain ⟨a, cap, rfl, h1, h2, h3⟩ := hA.open
  obtain ⟨b, cap', rfl, g1, g2, g3⟩ := hB.open
  unfold maxLen at h2 g2
  have H3 := Lib.hid h3
  have G3 := Lib.hid g3
  have y0 := ((Ext.refl w).alloc (.cells #[.bool n1, .slice a A.length cap] 25)).alloc (.cells #[.bool n2, .slice b B.length cap'] 25)
  have m0 := (argsAt_mk w n1 n2 (.slice a A.length cap) (.slice b B.length cap') 25 25)
  obtain ⟨W0, hW0⟩ : ∃ W0, W0 = ((w.alloc (.cells #[.bool n1, .slice a A.length cap] 25)).alloc (.cells #[.bool n2, .slice b B.length cap'] 25)) := ⟨_, rfl⟩
  clear h3 g3
  obtain ⟨r, hr⟩ : ∃ r, decide (n1 = n2 ∧ A = B) = r := ⟨_, rfl⟩
  rw [hr]
  have HR := Lib.hid hr
  clear hr
  by_cases hn : n1 = n2
  · subst hn
    by_cases hln : A.length = B.length
    · have HLN := Lib.hid hln
      rw [hln] at hW0 m0 y0
      have hle : (A.length : Int) = (B.length : Int) := by omega
      go_enter Tryz.func14, Tryz.ntmps14
      go_wp2_with fail
      rw [← hW0] at m0 y0 ⊢
      clear hW0 hle
      have M0 := Lib.hid m0
      clear m0
      go_loopw [5] (fun v5 wr => ∃ i : Nat, v5 = .int .i64 (i : Int) ∧ i ≤ A.length ∧ A.take i = B.take i ∧ Ext W0 wr) (fun v5 _ => A.length - (intOf v5).toNat)
      case atStart => exact ⟨0, rfl, Nat.zero_le _, rfl, Ext.refl _⟩
      case round =>
        obtain ⟨i, rfl, hi, he, hx⟩ := hrel
        obtain ⟨⟨a1, a2⟩, ⟨b1, b2⟩, -⟩ := M0.out.ext hx
        have HE := Lib.hid he
        clear he
        have hAB : A.length = B.length := HLN.out
        by_cases hin : i < A.length
        · obtain ⟨ba, oa, rfl, hba, hca⟩ := H3.out i hin
          obtain ⟨bb, ob, rfl, hbb, hcb⟩ := G3.out i (by omega)
          have hcA : wr.cell? ⟨ba, oa + i, none⟩ = some (.int .u64 (el A i : Nat)) := by rw [Below.cell (y0.trans hx) (p := ⟨ba, oa + i, none⟩) hba]; exact hca i hin
          have hcB : wr.cell? ⟨bb, ob + i, none⟩ = some (.int .u64 (el B i : Nat)) := by rw [Below.cell (y0.trans hx) (p := ⟨bb, ob + i, none⟩) hbb]; exact hcb i (by omega)
          have hinB : i < B.length := by omega
          clear hca hcb
          go_wp2_with (go_quiet (fail))
          · rename_i hq
            have HD : Hid (r = false) := HR.out.symm.trans (decide_eq_false fun e => by rw [e.2] at hq; simp at hq)
            go_ret
            exact ⟨ret_eq (by rw [HD.out]; rfl), y0.trans (hx.drewN _)⟩
          · rename_i hq
            have hq' : el A i = el B i := by simp at hq; omega
            refine ⟨⟨i + 1, rfl, by omega, ?_, hx.drewN _⟩, by simp [intOf]; omega⟩
            rw [List.take_succ_eq_append_getElem hin, List.take_succ_eq_append_getElem hinB, HE.out]
            rw [el_of_lt hin, el_of_lt hinB] at hq'
            rw [hq']
        · obtain rfl : i = A.length := by omega
          have HD : Hid (r = true) := by
            have h := HE.out
            rw [List.take_length, HLN.out, List.take_length] at h
            exact HR.out.symm.trans (decide_eq_true (by simp [h]))
          go_wp2_with fail
          go_ret
          exact ⟨ret_eq (by rw [HD.out]; rfl), y0.trans hx⟩
    · have HD : Hid (r = false) := HR.out.symm.trans (decide_eq_false fun e => hln (by rw [e.2]))
      go_enter Tryz.func14, Tryz.ntmps14
      go_wp2_with fail
      go_ret
      exact ⟨ret_eq (by rw [HD.out]; rfl), y0⟩
  · have HD : Hid (r = false) := HR.out.symm.trans (decide_eq_false fun e => hn e.1)
    have hg : (n1 == n2) = false := by simpa using hn
    go_enter Tryz.func14, Tryz.ntmps14
    go_wp2_with fail
    go_ret
    exact ⟨ret_eq (by rw [HD.out]; rfl), y0⟩

theorem lsame_calls {w : World} {v u : Value} {A B : List Nat} (hA : Limbs w v A) (hB : Limbs w u B) (n1 n2 : Bool) :
    Calls Tryz.prog 33 #[.agg #[.bool n1, v], .agg #[.bool n2, u]] w fun e w' => e = .returned (.bool (decide (n1 = n2 ∧ A = B))) ∧ Ext w w' := by
  obtain ⟨a, cap, rfl, -, -, -⟩ := hA.open
  obtain ⟨b, cap', rfl, -, -, -⟩ := hB.open
  have y0 := ((Ext.refl w).alloc (.cells #[.bool n1, .slice a A.length cap] 25)).alloc (.cells #[.bool n2, .slice b B.length cap'] 25)
  have hs := isame_calls (hA.ext y0) (hB.ext y0) n1 n2
  obtain ⟨r, hr⟩ : ∃ r, decide (n1 = n2 ∧ A = B) = r := ⟨_, rfl⟩
  rw [hr] at hs ⊢
  go_enter Tryz.func33, Tryz.ntmps33
  go_wp2_with fail
  refine hs.mono ?_
  rintro e w1 ⟨rfl, x1⟩
  go_wp2_with fail
  go_ret
  exact ⟨rfl, y0.trans x1⟩

theorem same_int (x y : Int) : decide (decide (x < 0) = decide (y < 0) ∧ dig x.natAbs = dig y.natAbs) = decide (x = y) := by
  rw [Bool.eq_iff_iff, decide_eq_true_eq, decide_eq_true_eq]
  constructor
  · rintro ⟨h1, h2⟩
    have h3 : x.natAbs = y.natAbs := by rw [← val_dig x.natAbs, h2, val_dig]
    have h4 : x < 0 ↔ y < 0 := by simpa using h1
    omega
  · rintro rfl; exact ⟨rfl, rfl⟩

/-- the whole number z, as it is told: its sign, its magnitude -/
def IsI (w : World) (b : Bool) (v : Value) (m : Nat) (z : Int) : Prop := decide (z < 0) = b ∧ z.natAbs = m ∧ Limbs w v (dig m)
theorem IsI.ext {w w' : World} {b : Bool} {v : Value} {m : Nat} {z : Int} (h : IsI w b v m z) (x : Ext w w') : IsI w' b v m z := ⟨h.1, h.2.1, h.2.2.ext x⟩
theorem IsI.iv {w : World} {b : Bool} {v : Value} {m : Nat} {z : Int} (h : IsI w b v m z) : iv b (dig m) = z := by
  rw [← h.1, ← h.2.1, iv_sgn]
theorem RetI.isI {w w' : World} {z : Int} {e : Ending} (h : RetI w z e w') : ∃ b v m, e = .returned (.agg #[.bool b, v]) ∧ IsI w' b v m z ∧ Ext w w' := by
  obtain ⟨v, rfl, h1, h2⟩ := h
  exact ⟨_, v, _, rfl, ⟨rfl, rfl, h1.limbs⟩, h2⟩
theorem same_is {w : World} {b1 b2 : Bool} {v u : Value} {m1 m2 : Nat} {x y : Int} (hx : IsI w b1 v m1 x) (hy : IsI w b2 u m2 y) (c : Bool) (hc : decide (x = y) = c) :
    Calls Tryz.prog 33 #[.agg #[.bool b1, v], .agg #[.bool b2, u]] w fun e w' => e = .returned (.bool c) ∧ Ext w w' := by
  have h := lsame_calls hx.2.2 hy.2.2 b1 b2
  rw [← hx.1, ← hy.1, ← hx.2.1, ← hy.2.1, same_int, hc] at h
  rw [← hx.1, ← hy.1]
  exact h
end Go.Proofs.YtomhfipgabpfiaaGreatDoor
