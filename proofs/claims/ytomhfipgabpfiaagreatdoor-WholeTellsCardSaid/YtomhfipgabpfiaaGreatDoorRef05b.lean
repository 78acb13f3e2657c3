/- Contracts of tombolaref05: Small, Div. -/
import Derived.Test.YtomhfipgabpfiaaGreatDoorRef05
namespace Go.Proofs.YtomhfipgabpfiaaGreatDoor
open Go Go.RowKit

set_option maxHeartbeats 2000000 in
set_option maxRecDepth 100000 in
theorem refismall_calls {w : World} {v : Value} {A : List Nat} (hA : Limbs w v A) (hl : A.length ≤ 65536) (neg : Bool) (s : Int) (hs : smallI (iv neg A) = s) (f : Bool) (hf : fitsI (iv neg A) = f) :
    Calls Tryz.prog 21 #[.agg #[.bool neg, v]] w fun e w' => e = .returned (.tuple #[.int .i64 s, .bool f]) ∧ Ext w w' := by
  have HL := Lib.hid hl
  obtain ⟨pa, pc, rfl, -, -, -⟩ := hA.open
  obtain ⟨z, hz⟩ : ∃ z, iv neg A = z := ⟨_, rfl⟩
  obtain ⟨b, hb⟩ : ∃ b, decide (z < 0) = b := ⟨_, rfl⟩
  obtain ⟨m, hm⟩ : ∃ m, z.natAbs = m := ⟨_, rfl⟩
  have HMB : Hid (decide (iv neg A < 0) = b) := by show _ = _; rw [hz]; exact hb
  have HMM : Hid ((iv neg A).natAbs = m) := by show _ = _; rw [hz]; exact hm
  have HLM : Hid ((dig m).length ≤ 65536) := by
    show _ ≤ _
    rw [← hm, ← hz, iv_abs]
    exact Nat.le_trans (dig_val_len hA.2) hl
  rw [hz] at hs hf
  have y0 := (Ext.refl w).alloc (.cells #[.bool neg, .slice pa A.length pc] 25)
  obtain ⟨q, hq⟩ : ∃ q : Int, ((smallN (val (dig m)) : Nat) : Int) = q := ⟨_, rfl⟩
  have HQ := Lib.hid hq
  rw [val_dig] at hq
  by_cases hB : m < Bs
  · have HB : Hid (decide (val (dig m) < Bs) = true) := by show _ = _; rw [val_dig]; exact decide_eq_true hB
    have hqm : q = (m : Int) := by rw [← hq]; unfold smallN; rw [if_pos hB]
    subst hqm
    have hmi : (m : Int) ≤ 18446744073709551615 := by rw [Bs_def] at hB; omega
    cases b with
    | false =>
      have hz0 : z = (m : Int) := by have := of_decide_eq_false hb; omega
      by_cases h63 : (9223372036854775808 : Int) ≤ (m : Int)
      · have hF : f = false := by rw [← hf, hz0]; unfold fitsI; simp; omega
        have hS : s = 0 := by rw [← hs]; unfold smallI; rw [hf, hF]; rfl
        subst hF hS
        clear hs hf hz hb hm hl hq hB hz0
        go_enter Tryz.func21, Tryz.ntmps21
        go_wp2_with fail
        refine (refmake_ok (hA.ext y0) HL.out neg HMB.out HMM.out).mono ?_
        rintro e w1 ⟨r, rfl, hr, x1⟩
        obtain ⟨c1, c2, c3, c4⟩ := box2 x1
        obtain ⟨ra, rc, rfl, -, -, -⟩ := hr.limbs.open
        have hr2 := hr.set2 (b := w.heap.size) (by simp) (.bool false) (.slice ra (dig m).length rc)
        have X1 := ext_box2 (y0.trans x1) (Nat.le_refl _) (.bool false) (.slice ra (dig m).length rc)
        obtain ⟨W1, hW1⟩ : ∃ W, W = ((w1.setCell ⟨w.heap.size, 0, none⟩ (.bool false)).setCell ⟨w.heap.size, 1, none⟩ (.slice ra (dig m).length rc)) := ⟨_, rfl⟩
        have k1 : W1.cell? ⟨w.heap.size, 0, none⟩ = some (.bool false) := by rw [hW1]; simp [go_sem, c1]
        have k2 : W1.cell? ⟨w.heap.size, 1, none⟩ = some (.slice ra (dig m).length rc) := by rw [hW1]; simp [go_sem, c2]
        go_wp2_with fail
        rw [← hW1] at hr2 X1 ⊢
        refine (refsmall_calls hr2.limbs HLM.out _ HQ.out true HB.out).mono ?_
        rintro e w2 ⟨rfl, x2⟩
        have kb := World.block_lt_of_cell? W1 _ k1
        have k3 := cell_ext x2 k1 kb
        have k4 := cell_ext x2 k2 kb
        go_wp2_with fail
        go_ret2
        exact ⟨rfl, X1.trans x2⟩
      · have hF : f = true := by rw [← hf, hz0]; unfold fitsI; simp; omega
        have hS : s = (m : Int) := by rw [← hs]; unfold smallI; rw [hf, hF]; exact hz0
        subst hF hS
        have h64 : (m : Int) ≤ 9223372036854775807 := by omega
        clear h63
        clear hs hf hz hb hm hl hq hB hz0
        go_enter Tryz.func21, Tryz.ntmps21
        go_wp2_with fail
        refine (refmake_ok (hA.ext y0) HL.out neg HMB.out HMM.out).mono ?_
        rintro e w1 ⟨r, rfl, hr, x1⟩
        obtain ⟨c1, c2, c3, c4⟩ := box2 x1
        obtain ⟨ra, rc, rfl, -, -, -⟩ := hr.limbs.open
        have hr2 := hr.set2 (b := w.heap.size) (by simp) (.bool false) (.slice ra (dig m).length rc)
        have X1 := ext_box2 (y0.trans x1) (Nat.le_refl _) (.bool false) (.slice ra (dig m).length rc)
        obtain ⟨W1, hW1⟩ : ∃ W, W = ((w1.setCell ⟨w.heap.size, 0, none⟩ (.bool false)).setCell ⟨w.heap.size, 1, none⟩ (.slice ra (dig m).length rc)) := ⟨_, rfl⟩
        have k1 : W1.cell? ⟨w.heap.size, 0, none⟩ = some (.bool false) := by rw [hW1]; simp [go_sem, c1]
        have k2 : W1.cell? ⟨w.heap.size, 1, none⟩ = some (.slice ra (dig m).length rc) := by rw [hW1]; simp [go_sem, c2]
        go_wp2_with fail
        rw [← hW1] at hr2 X1 ⊢
        refine (refsmall_calls hr2.limbs HLM.out _ HQ.out true HB.out).mono ?_
        rintro e w2 ⟨rfl, x2⟩
        have kb := World.block_lt_of_cell? W1 _ k1
        have k3 := cell_ext x2 k1 kb
        have k4 := cell_ext x2 k2 kb
        go_wp2_with fail
        go_ret2
        exact ⟨rfl, X1.trans x2⟩
    | true =>
      have hz0 : z = -(m : Int) := by have := of_decide_eq_true hb; omega
      have hm1 : (1 : Int) ≤ (m : Int) := by have := of_decide_eq_true hb; omega
      by_cases h63 : (9223372036854775809 : Int) ≤ (m : Int)
      · have hF : f = false := by rw [← hf, hz0]; unfold fitsI; simp; omega
        have hS : s = 0 := by rw [← hs]; unfold smallI; rw [hf, hF]; rfl
        subst hF hS
        clear hs hf hz hb hm hl hq hB hz0
        go_enter Tryz.func21, Tryz.ntmps21
        go_wp2_with fail
        refine (refmake_ok (hA.ext y0) HL.out neg HMB.out HMM.out).mono ?_
        rintro e w1 ⟨r, rfl, hr, x1⟩
        obtain ⟨c1, c2, c3, c4⟩ := box2 x1
        obtain ⟨ra, rc, rfl, -, -, -⟩ := hr.limbs.open
        have hr2 := hr.set2 (b := w.heap.size) (by simp) (.bool true) (.slice ra (dig m).length rc)
        have X1 := ext_box2 (y0.trans x1) (Nat.le_refl _) (.bool true) (.slice ra (dig m).length rc)
        obtain ⟨W1, hW1⟩ : ∃ W, W = ((w1.setCell ⟨w.heap.size, 0, none⟩ (.bool true)).setCell ⟨w.heap.size, 1, none⟩ (.slice ra (dig m).length rc)) := ⟨_, rfl⟩
        have k1 : W1.cell? ⟨w.heap.size, 0, none⟩ = some (.bool true) := by rw [hW1]; simp [go_sem, c1]
        have k2 : W1.cell? ⟨w.heap.size, 1, none⟩ = some (.slice ra (dig m).length rc) := by rw [hW1]; simp [go_sem, c2]
        go_wp2_with fail
        rw [← hW1] at hr2 X1 ⊢
        refine (refsmall_calls hr2.limbs HLM.out _ HQ.out true HB.out).mono ?_
        rintro e w2 ⟨rfl, x2⟩
        have kb := World.block_lt_of_cell? W1 _ k1
        have k3 := cell_ext x2 k1 kb
        have k4 := cell_ext x2 k2 kb
        go_wp2_with fail
        go_ret2
        exact ⟨rfl, X1.trans x2⟩
      · have hF : f = true := by rw [← hf, hz0]; unfold fitsI; simp; omega
        have hS : s = -(m : Int) := by rw [← hs]; unfold smallI; rw [hf, hF]; exact hz0
        have HS : Hid (s = -((m : Int) - 1) - 1) := by show _ = _; omega
        subst hF
        have h64 : (m : Int) ≤ 9223372036854775808 := by omega
        clear h63 hS
        clear hs hf hz hb hm hl hq hB hz0
        go_enter Tryz.func21, Tryz.ntmps21
        go_wp2_with fail
        refine (refmake_ok (hA.ext y0) HL.out neg HMB.out HMM.out).mono ?_
        rintro e w1 ⟨r, rfl, hr, x1⟩
        obtain ⟨c1, c2, c3, c4⟩ := box2 x1
        obtain ⟨ra, rc, rfl, -, -, -⟩ := hr.limbs.open
        have hr2 := hr.set2 (b := w.heap.size) (by simp) (.bool true) (.slice ra (dig m).length rc)
        have X1 := ext_box2 (y0.trans x1) (Nat.le_refl _) (.bool true) (.slice ra (dig m).length rc)
        obtain ⟨W1, hW1⟩ : ∃ W, W = ((w1.setCell ⟨w.heap.size, 0, none⟩ (.bool true)).setCell ⟨w.heap.size, 1, none⟩ (.slice ra (dig m).length rc)) := ⟨_, rfl⟩
        have k1 : W1.cell? ⟨w.heap.size, 0, none⟩ = some (.bool true) := by rw [hW1]; simp [go_sem, c1]
        have k2 : W1.cell? ⟨w.heap.size, 1, none⟩ = some (.slice ra (dig m).length rc) := by rw [hW1]; simp [go_sem, c2]
        go_wp2_with fail
        rw [← hW1] at hr2 X1 ⊢
        refine (refsmall_calls hr2.limbs HLM.out _ HQ.out true HB.out).mono ?_
        rintro e w2 ⟨rfl, x2⟩
        have kb := World.block_lt_of_cell? W1 _ k1
        have k3 := cell_ext x2 k1 kb
        have k4 := cell_ext x2 k2 kb
        go_wp2_with fail
        go_ret2
        exact ⟨by rw [HS.out]; rfl, X1.trans x2⟩
  · have HB : Hid (decide (val (dig m) < Bs) = false) := by show _ = _; rw [val_dig]; exact decide_eq_false hB
    have hF : f = false := by rw [← hf]; rw [Bs_def] at hB; unfold fitsI; simp; omega
    have hS : s = 0 := by rw [← hs]; unfold smallI; rw [hf, hF]; rfl
    subst hF hS
    clear hs hf hz hb hm hl hq hB
    go_enter Tryz.func21, Tryz.ntmps21
    go_wp2_with fail
    refine (refmake_ok (hA.ext y0) HL.out neg HMB.out HMM.out).mono ?_
    rintro e w1 ⟨r, rfl, hr, x1⟩
    obtain ⟨c1, c2, c3, c4⟩ := box2 x1
    obtain ⟨ra, rc, rfl, -, -, -⟩ := hr.limbs.open
    have hr2 := hr.set2 (b := w.heap.size) (by simp) (.bool b) (.slice ra (dig m).length rc)
    have X1 := ext_box2 (y0.trans x1) (Nat.le_refl _) (.bool b) (.slice ra (dig m).length rc)
    obtain ⟨W1, hW1⟩ : ∃ W, W = ((w1.setCell ⟨w.heap.size, 0, none⟩ (.bool b)).setCell ⟨w.heap.size, 1, none⟩ (.slice ra (dig m).length rc)) := ⟨_, rfl⟩
    have k1 : W1.cell? ⟨w.heap.size, 0, none⟩ = some (.bool b) := by rw [hW1]; simp [go_sem, c1]
    have k2 : W1.cell? ⟨w.heap.size, 1, none⟩ = some (.slice ra (dig m).length rc) := by rw [hW1]; simp [go_sem, c2]
    go_wp2_with fail
    rw [← hW1] at hr2 X1 ⊢
    refine (refsmall_calls hr2.limbs HLM.out _ HQ.out false HB.out).mono ?_
    rintro e w2 ⟨rfl, x2⟩
    have kb := World.block_lt_of_cell? W1 _ k1
    have k3 := cell_ext x2 k1 kb
    have k4 := cell_ext x2 k2 kb
    go_wp2_with fail
    go_ret2
    exact ⟨rfl, X1.trans x2⟩
end Go.Proofs.YtomhfipgabpfiaaGreatDoor
