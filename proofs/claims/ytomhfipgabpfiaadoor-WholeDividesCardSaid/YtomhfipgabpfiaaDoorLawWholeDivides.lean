/- WholeDivides answers true at all whole numbers. -/
import Derived.Test.YtomhfipgabpfiaaDoorLawTxt
import Derived.Test.YtomhfipgabpfiaaDoorRegInv2
namespace Go.Proofs.YtomhfipgabpfiaaDoor
open Go Go.RowKit


set_option maxHeartbeats 4000000 in
set_option maxRecDepth 100000 in
theorem wholeDivides_calls {w : World} {v0 v1 v2 : Value} {A0 A1 A2 : List Nat} (h0 : Limbs w v0 A0) (h1 : Limbs w v1 A1) (h2 : Limbs w v2 A2) (n0 n1 n2 : Bool) :
    Calls Tryd.prog 5 #[.agg #[.bool n0, v0], .agg #[.bool n1, v1], .agg #[.bool n2, v2]] w (Yes w) := by
  obtain ⟨p0, q0, rfl, -, -, -⟩ := h0.open
  obtain ⟨p1, q1, rfl, -, -, -⟩ := h1.open
  obtain ⟨p2, q2, rfl, -, -, -⟩ := h2.open
  obtain ⟨lb, hlb⟩ : ∃ b, (decide (10 < A0.length) || (decide (10 < A1.length) || decide (10 < A2.length))) = b := ⟨_, rfl⟩
  cases lb with
  | true =>
    have HLB := Lib.hid hlb
    clear hlb
    go_enter Tryd.func5, Tryd.ntmps5
    go_wp2_with fail
    refine (ilong3_calls (h0.ext ((((Ext.refl _).alloc _).alloc _).alloc _)) (h1.ext ((((Ext.refl _).alloc _).alloc _).alloc _)) (h2.ext ((((Ext.refl _).alloc _).alloc _).alloc _)) n0 n1 n2 true HLB.out (by simp)).mono ?_
    rintro e w1_ ⟨rfl, rfl⟩
    go_wp2_with fail
    refine (lawake_calls _).mono ?_
    rintro e w1 ⟨rfl, x1⟩
    have y1 := Ext.trans (((((Ext.refl _).alloc _).alloc _).alloc _).alloc _) x1
    have b0_0 : Hid (At (w.heap.size) 0 (.bool n0) w1) := At.ext (At.n0 (by rfl)) (((((Ext.refl _).alloc _).alloc _).alloc _).trans x1)
    have b0_1 : Hid (At (w.heap.size) 1 (.slice p0 A0.length q0) w1) := At.ext (At.n0 (by rfl)) (((((Ext.refl _).alloc _).alloc _).alloc _).trans x1)
    have b1_0 : Hid (At (w.heap.size + 1) 0 (.bool n1) w1) := At.ext (At.n1 (by rfl)) ((((Ext.refl _).alloc _).alloc _).trans x1)
    have b1_1 : Hid (At (w.heap.size + 1) 1 (.slice p1 A1.length q1) w1) := At.ext (At.n1 (by rfl)) ((((Ext.refl _).alloc _).alloc _).trans x1)
    have b2_0 : Hid (At (w.heap.size + 1 + 1) 0 (.bool n2) w1) := At.ext (At.n2 (by rfl)) (((Ext.refl _).alloc _).trans x1)
    have b2_1 : Hid (At (w.heap.size + 1 + 1) 1 (.slice p2 A2.length q2) w1) := At.ext (At.n2 (by rfl)) (((Ext.refl _).alloc _).trans x1)
    go_wp2_with fail
    go_ret
    exact ⟨rfl, y1⟩
  | false =>
    have HLB := Lib.hid hlb
    simp at hlb
    have i0 : InI w n0 (.slice p0 A0.length q0) 10 (iv n0 A0) := ⟨A0, h0, rfl, by omega⟩
    obtain ⟨z0, hz0⟩ : ∃ z, iv n0 A0 = z := ⟨_, rfl⟩
    rw [hz0] at i0
    have i1 : InI w n1 (.slice p1 A1.length q1) 10 (iv n1 A1) := ⟨A1, h1, rfl, by omega⟩
    obtain ⟨z1, hz1⟩ : ∃ z, iv n1 A1 = z := ⟨_, rfl⟩
    rw [hz1] at i1
    have i2 : InI w n2 (.slice p2 A2.length q2) 10 (iv n2 A2) := ⟨A2, h2, rfl, by omega⟩
    obtain ⟨z2, hz2⟩ : ∃ z, iv n2 A2 = z := ⟨_, rfl⟩
    rw [hz2] at i2
    clear hlb
    have hm0 : z0.natAbs = val A0 := by rw [← hz0]; exact iv_abs _ _
    have hm1 : z1.natAbs = val A1 := by rw [← hz1]; exact iv_abs _ _
    have hm2 : z2.natAbs = val A2 := by rw [← hz2]; exact iv_abs _ _
    clear hz0 hz1 hz2
    by_cases hy : z1 = 0
    · have HY := Lib.hid hy
      clear hy
      go_enter Tryd.func5, Tryd.ntmps5
      go_wp2_with fail
      refine (ilong3_calls (h0.ext ((((Ext.refl _).alloc _).alloc _).alloc _)) (h1.ext ((((Ext.refl _).alloc _).alloc _).alloc _)) (h2.ext ((((Ext.refl _).alloc _).alloc _).alloc _)) n0 n1 n2 false HLB.out (by simp)).mono ?_
      rintro e w1_ ⟨rfl, rfl⟩
      go_wp2_with fail
      refine (lawake_calls _).mono ?_
      rintro e w1 ⟨rfl, x1⟩
      have y1 := Ext.trans (((((Ext.refl _).alloc _).alloc _).alloc _).alloc _) x1
      have b0_0 : Hid (At (w.heap.size) 0 (.bool n0) w1) := At.ext (At.n0 (by rfl)) (((((Ext.refl _).alloc _).alloc _).alloc _).trans x1)
      have b0_1 : Hid (At (w.heap.size) 1 (.slice p0 A0.length q0) w1) := At.ext (At.n0 (by rfl)) (((((Ext.refl _).alloc _).alloc _).alloc _).trans x1)
      have b1_0 : Hid (At (w.heap.size + 1) 0 (.bool n1) w1) := At.ext (At.n1 (by rfl)) ((((Ext.refl _).alloc _).alloc _).trans x1)
      have b1_1 : Hid (At (w.heap.size + 1) 1 (.slice p1 A1.length q1) w1) := At.ext (At.n1 (by rfl)) ((((Ext.refl _).alloc _).alloc _).trans x1)
      have b2_0 : Hid (At (w.heap.size + 1 + 1) 0 (.bool n2) w1) := At.ext (At.n2 (by rfl)) (((Ext.refl _).alloc _).trans x1)
      have b2_1 : Hid (At (w.heap.size + 1 + 1) 1 (.slice p2 A2.length q2) w1) := At.ext (At.n2 (by rfl)) (((Ext.refl _).alloc _).trans x1)
      have g0_0 := (b0_0.out.ext (Ext.refl _)).1
      have g0_1 := (b0_1.out.ext (Ext.refl _)).1
      have g1_0 := (b1_0.out.ext (Ext.refl _)).1
      have g1_1 := (b1_1.out.ext (Ext.refl _)).1
      go_wp2_with fail
      refine (divz_is (i0.ext y1) (i1.ext y1) (by decide) (by decide) HY.out).mono ?_
      rintro e w2 ⟨su3, sm3, su3_, sm3_, rfl, e3q, e3r, x2⟩
      obtain ⟨sp3q, sl3q, sc3q, rfl⟩ := e3q.slice
      obtain ⟨sp3r, sl3r, sc3r, rfl⟩ := e3r.slice
      clear g0_0 g0_1 g1_0 g1_1
      have g1_0 := (b1_0.out.ext x2).1
      have g1_1 := (b1_1.out.ext x2).1
      have f1 : w.heap.size + 1 < w2.heap.size := (b1_0.out.ext x2).2
      have f1_1 : w.heap.size < w2.heap.size := by omega
      go_wp2_with fail
      refine (sign_is (i1.ext (((y1.trans x2).alloc _).alloc _)) (by decide) 0 (by rw [HY.out]; rfl)).mono ?_
      rintro e w3 ⟨rfl, x3⟩
      have y3 := Ext.trans (((Ext.refl _).alloc _).alloc _) x3
      have b4_0 : Hid (At (w2.heap.size) 0 (.bool false) w3) := At.ext (At.n0 (by rfl)) (((Ext.refl _).alloc _).trans x3)
      have b4_1 : Hid (At (w2.heap.size) 1 (.slice sp3q sl3q sc3q) w3) := At.ext (At.n0 (by rfl)) (((Ext.refl _).alloc _).trans x3)
      have b5_0 : Hid (At (w2.heap.size + 1) 0 (.bool false) w3) := At.ext (At.n1 (by rfl)) x3
      have b5_1 : Hid (At (w2.heap.size + 1) 1 (.slice sp3r sl3r sc3r) w3) := At.ext (At.n1 (by rfl)) x3
      clear g1_0 g1_1 f1 f1_1
      have g4_0 := (b4_0.out.ext (Ext.refl _)).1
      have g4_1 := (b4_1.out.ext (Ext.refl _)).1
      go_wp2_with fail
      refine (same_is (e3q.ext y3) (zero_is _) true (decide_eq_true (show (0 : Int) = 0 from rfl))).mono ?_
      rintro e w4 ⟨rfl, x4⟩
      clear g4_0 g4_1
      have g5_0 := (b5_0.out.ext x4).1
      have g5_1 := (b5_1.out.ext x4).1
      go_wp2_with fail
      refine (same_is (e3r.ext (y3.trans x4)) (zero_is _) true (decide_eq_true (show (0 : Int) = 0 from rfl))).mono ?_
      rintro e w5 ⟨rfl, x5⟩
      clear g5_0 g5_1
      go_wp2_with fail
      go_ret
      exact ⟨rfl, (y1.trans (x2.trans (y3.trans (x4.trans x5))))⟩
    · have HY := Lib.hid hy
      have hsn : (z1.sign == 0) = false := by rw [beq_eq_false_iff_ne, ne_eq, Int.sign_eq_zero_iff_zero]; exact hy
      obtain ⟨s1, hs1⟩ : ∃ s, z1.sign = s := ⟨_, rfl⟩
      rw [hs1] at hsn
      have HS := Lib.hid hs1
      have HM := Lib.hid hm1
      clear hy hs1 hm0 hm1 hm2
      go_enter Tryd.func5, Tryd.ntmps5
      go_wp2_with fail
      refine (ilong3_calls (h0.ext ((((Ext.refl _).alloc _).alloc _).alloc _)) (h1.ext ((((Ext.refl _).alloc _).alloc _).alloc _)) (h2.ext ((((Ext.refl _).alloc _).alloc _).alloc _)) n0 n1 n2 false HLB.out (by simp)).mono ?_
      rintro e w1_ ⟨rfl, rfl⟩
      go_wp2_with fail
      refine (lawake_calls _).mono ?_
      rintro e w1 ⟨rfl, x1⟩
      have y1 := Ext.trans (((((Ext.refl _).alloc _).alloc _).alloc _).alloc _) x1
      have b0_0 : Hid (At (w.heap.size) 0 (.bool n0) w1) := At.ext (At.n0 (by rfl)) (((((Ext.refl _).alloc _).alloc _).alloc _).trans x1)
      have b0_1 : Hid (At (w.heap.size) 1 (.slice p0 A0.length q0) w1) := At.ext (At.n0 (by rfl)) (((((Ext.refl _).alloc _).alloc _).alloc _).trans x1)
      have b1_0 : Hid (At (w.heap.size + 1) 0 (.bool n1) w1) := At.ext (At.n1 (by rfl)) ((((Ext.refl _).alloc _).alloc _).trans x1)
      have b1_1 : Hid (At (w.heap.size + 1) 1 (.slice p1 A1.length q1) w1) := At.ext (At.n1 (by rfl)) ((((Ext.refl _).alloc _).alloc _).trans x1)
      have b2_0 : Hid (At (w.heap.size + 1 + 1) 0 (.bool n2) w1) := At.ext (At.n2 (by rfl)) (((Ext.refl _).alloc _).trans x1)
      have b2_1 : Hid (At (w.heap.size + 1 + 1) 1 (.slice p2 A2.length q2) w1) := At.ext (At.n2 (by rfl)) (((Ext.refl _).alloc _).trans x1)
      have g0_0 := (b0_0.out.ext (Ext.refl _)).1
      have g0_1 := (b0_1.out.ext (Ext.refl _)).1
      have g1_0 := (b1_0.out.ext (Ext.refl _)).1
      have g1_1 := (b1_1.out.ext (Ext.refl _)).1
      go_wp2_with fail
      refine (divy_is (i0.ext y1) (i1.ext y1) (by decide) (by decide) HY.out).mono ?_
      rintro e w2 ⟨sb3, su3, sm3, su3_, sm3_, rfl, e3q, e3r, x2⟩
      obtain ⟨sp3q, sl3q, sc3q, rfl⟩ := e3q.slice
      obtain ⟨sp3r, sl3r, sc3r, rfl⟩ := e3r.slice
      clear g0_0 g0_1 g1_0 g1_1
      have g1_0 := (b1_0.out.ext x2).1
      have g1_1 := (b1_1.out.ext x2).1
      have f1 : w.heap.size + 1 < w2.heap.size := (b1_0.out.ext x2).2
      have f1_1 : w.heap.size < w2.heap.size := by omega
      go_wp2_with fail
      refine (sign_is (i1.ext (((y1.trans x2).alloc _).alloc _)) (by decide) s1 HS.out).mono ?_
      rintro e w3 ⟨rfl, x3⟩
      have y3 := Ext.trans (((Ext.refl _).alloc _).alloc _) x3
      have b4_0 : Hid (At (w2.heap.size) 0 (.bool sb3) w3) := At.ext (At.n0 (by rfl)) (((Ext.refl _).alloc _).trans x3)
      have b4_1 : Hid (At (w2.heap.size) 1 (.slice sp3q sl3q sc3q) w3) := At.ext (At.n0 (by rfl)) (((Ext.refl _).alloc _).trans x3)
      have b5_0 : Hid (At (w2.heap.size + 1) 0 (.bool false) w3) := At.ext (At.n1 (by rfl)) x3
      have b5_1 : Hid (At (w2.heap.size + 1) 1 (.slice sp3r sl3r sc3r) w3) := At.ext (At.n1 (by rfl)) x3
      go_wp2_with fail
      have X1_0 := (Ext.refl w3).drew
      have z1_0 := X1_0
      clear g1_0 g1_1 f1 f1_1
      have g4_0 := (b4_0.out.ext X1_0).1
      have g4_1 := (b4_1.out.ext X1_0).1
      have g1_0 := (b1_0.out.ext (x2.trans (y3.trans X1_0))).1
      have g1_1 := (b1_1.out.ext (x2.trans (y3.trans X1_0))).1
      have g5_0 := (b5_0.out.ext X1_0).1
      have g5_1 := (b5_1.out.ext X1_0).1
      have g0_0 := (b0_0.out.ext (x2.trans (y3.trans X1_0))).1
      have g0_1 := (b0_1.out.ext (x2.trans (y3.trans X1_0))).1
      (try simp only [List.append_eq, List.cons_append, List.nil_append])
      go_region_held3 (fun W => W.cell? ⟨w2.heap.size, 0, none⟩ = some (.bool sb3) ∧ W.cell? ⟨w2.heap.size, 1, none⟩ = some (.slice sp3q sl3q sc3q) ∧ W.cell? ⟨w.heap.size + 1, 0, none⟩ = some (.bool n1) ∧ W.cell? ⟨w.heap.size + 1, 1, none⟩ = some (.slice p1 A1.length q1) ∧ W.cell? ⟨w2.heap.size + 1, 0, none⟩ = some (.bool false) ∧ W.cell? ⟨w2.heap.size + 1, 1, none⟩ = some (.slice sp3r sl3r sc3r) ∧ W.cell? ⟨w.heap.size, 0, none⟩ = some (.bool n0) ∧ W.cell? ⟨w.heap.size, 1, none⟩ = some (.slice p0 A0.length q0)) (go_keep)
        (first
          | (have pre := z1_4; go_at_call 27; refine (rem_cmp (e3r.ext (y3.trans X1_4)) (h1.ext (y1.trans (x2.trans (y3.trans X1_4)))) (by have := HLB.out; simp at this; omega) (by have h1 := Int.emod_nonneg z0 HY.out; have h2 := Int.emod_lt z0 HY.out; have h3 := HM.out; omega)).mono ?_; rintro e a1_5 ⟨rfl, z1_5⟩; have X1_5 := Ext.trans X1_4 z1_5; clear g4_0 g4_1 g1_0 g1_1 g5_0 g5_1 g0_0 g0_1; have g4_0 := (b4_0.out.ext X1_5).1; have g4_1 := (b4_1.out.ext X1_5).1; have g1_0 := (b1_0.out.ext (x2.trans (y3.trans X1_5))).1; have g1_1 := (b1_1.out.ext (x2.trans (y3.trans X1_5))).1; have g5_0 := (b5_0.out.ext X1_5).1; have g5_1 := (b5_1.out.ext X1_5).1; have g0_0 := (b0_0.out.ext (x2.trans (y3.trans X1_5))).1; have g0_1 := (b0_1.out.ext (x2.trans (y3.trans X1_5))).1)
          | (have pre := z1_3; go_at_call 24; refine (same_is (e6.ext z1_3) (e7.ext (Ext.refl _)) true (decide_eq_true (show ((((z0 / z1) * z1) + (z0 % z1)) : Int) = z0 from Int.ediv_mul_add_emod _ _))).mono ?_; rintro e a1_4 ⟨rfl, z1_4⟩; have X1_4 := Ext.trans X1_3 z1_4; clear g4_0 g4_1 g1_0 g1_1 g5_0 g5_1 g0_0 g0_1; have g4_0 := (b4_0.out.ext X1_4).1; have g4_1 := (b4_1.out.ext X1_4).1; have g1_0 := (b1_0.out.ext (x2.trans (y3.trans X1_4))).1; have g1_1 := (b1_1.out.ext (x2.trans (y3.trans X1_4))).1; have g5_0 := (b5_0.out.ext X1_4).1; have g5_1 := (b5_1.out.ext X1_4).1; have g0_0 := (b0_0.out.ext (x2.trans (y3.trans X1_4))).1; have g0_1 := (b0_1.out.ext (x2.trans (y3.trans X1_4))).1)
          | (have pre := z1_2; go_at_call 20; refine (make_is (i0.ext (y1.trans (x2.trans (y3.trans X1_2)))) (by decide)).mono ?_; rintro e a1_3 ⟨sb7, sv7, sm7, rfl, e7, z1_3⟩; have X1_3 := Ext.trans X1_2 z1_3; obtain ⟨sp7, sl7, sc7, rfl⟩ := e7.slice; clear g4_0 g4_1 g1_0 g1_1 g5_0 g5_1 g0_0 g0_1; have g4_0 := (b4_0.out.ext X1_3).1; have g4_1 := (b4_1.out.ext X1_3).1; have g1_0 := (b1_0.out.ext (x2.trans (y3.trans X1_3))).1; have g1_1 := (b1_1.out.ext (x2.trans (y3.trans X1_3))).1; have g5_0 := (b5_0.out.ext X1_3).1; have g5_1 := (b5_1.out.ext X1_3).1; have g0_0 := (b0_0.out.ext (x2.trans (y3.trans X1_3))).1; have g0_1 := (b0_1.out.ext (x2.trans (y3.trans X1_3))).1)
          | (have pre := z1_1; go_at_call 25; refine (add_is ((e5.ext (Ext.refl _)).inI (k := 20) (LenI.mul (LenI.div _ i0.len) i1.len)) ((e3r.ext (y3.trans X1_1)).inI (k := 10) (LenI.mod _ HY.out i1.len)) (by decide) (by decide)).mono ?_; rintro e a1_2 ⟨sb6, sv6, sm6, rfl, e6, z1_2⟩; have X1_2 := Ext.trans X1_1 z1_2; obtain ⟨sp6, sl6, sc6, rfl⟩ := e6.slice; clear g4_0 g4_1 g1_0 g1_1 g5_0 g5_1 g0_0 g0_1; have g4_0 := (b4_0.out.ext X1_2).1; have g4_1 := (b4_1.out.ext X1_2).1; have g1_0 := (b1_0.out.ext (x2.trans (y3.trans X1_2))).1; have g1_1 := (b1_1.out.ext (x2.trans (y3.trans X1_2))).1; have g5_0 := (b5_0.out.ext X1_2).1; have g5_1 := (b5_1.out.ext X1_2).1; have g0_0 := (b0_0.out.ext (x2.trans (y3.trans X1_2))).1; have g0_1 := (b0_1.out.ext (x2.trans (y3.trans X1_2))).1)
          | (have pre := z1_0; go_at_call 26; refine (mul_is ((e3q.ext (y3.trans X1_0)).inI (k := 10) (LenI.div _ i0.len)) (i1.ext (y1.trans (x2.trans (y3.trans X1_0)))) (by decide)).mono ?_; rintro e a1_1 ⟨sb5, sv5, sm5, rfl, e5, z1_1⟩; have X1_1 := Ext.trans X1_0 z1_1; obtain ⟨sp5, sl5, sc5, rfl⟩ := e5.slice; clear g4_0 g4_1 g1_0 g1_1 g5_0 g5_1 g0_0 g0_1; have g4_0 := (b4_0.out.ext X1_1).1; have g4_1 := (b4_1.out.ext X1_1).1; have g1_0 := (b1_0.out.ext (x2.trans (y3.trans X1_1))).1; have g1_1 := (b1_1.out.ext (x2.trans (y3.trans X1_1))).1; have g5_0 := (b5_0.out.ext X1_1).1; have g5_1 := (b5_1.out.ext X1_1).1; have g0_0 := (b0_0.out.ext (x2.trans (y3.trans X1_1))).1; have g0_1 := (b0_1.out.ext (x2.trans (y3.trans X1_1))).1))
      go_wp2_with fail
      have g0_0 := b0_0.out.ext (x2.trans (y3.trans X1_5))
      have g0_1 := b0_1.out.ext (x2.trans (y3.trans X1_5))
      have g2_0 := b2_0.out.ext (x2.trans (y3.trans X1_5))
      have g2_1 := b2_1.out.ext (x2.trans (y3.trans X1_5))
      have g1_0 := b1_0.out.ext (x2.trans (y3.trans X1_5))
      have g1_1 := b1_1.out.ext (x2.trans (y3.trans X1_5))
      have hcells : AllAt [(w.heap.size, 0, .bool n0), (w.heap.size, 1, .slice p0 A0.length q0), (w.heap.size + 1 + 1, 0, .bool n2), (w.heap.size + 1 + 1, 1, .slice p2 A2.length q2), (w.heap.size + 1, 0, .bool n1), (w.heap.size + 1, 1, .slice p1 A1.length q1)] a1_5 := AllAt.cons g0_0 (AllAt.cons g0_1 (AllAt.cons g2_0 (AllAt.cons g2_1 (AllAt.cons g1_0 (AllAt.cons g1_1 (AllAt.nil _))))))
      clear g0_0
      clear g0_1
      clear g2_0
      clear g2_1
      clear g1_0
      clear g1_1
      refine wp_region_ops [74, 75, 76, 77, 78, 79, 80, 73, 81, 82, 83, 10, 11] (fun i => i == 0 || i == 1 || i == 2 || i == 5 || i == 7 || i == 8 || i == 9 || i == 10) (fun i => decide (13 ≤ i)) (fun i => i == 11 || i == 12) (fun i => ([Sp.val (.agg #[.bool n0, .slice p0 A0.length q0]), Sp.val (.agg #[.bool n2, .slice p2 A2.length q2]), Sp.val (.agg #[.bool n1, .slice p1 A1.length q1]), Sp.int (z2 * z1), Sp.int (z0 + (z2 * z1)), Sp.val (.agg #[.bool n1, .slice p1 A1.length q1]), Sp.div ((z0 + (z2 * z1)) / z1) ((z0 + (z2 * z1)) % z1) 0, Sp.div ((z0 + (z2 * z1)) / z1) ((z0 + (z2 * z1)) % z1) 0, Sp.int ((z0 + (z2 * z1)) / z1), Sp.nat ((z0 + (z2 * z1)) % z1), Sp.val (.int .i64 0), Sp.box a1_5.heap.size, Sp.box a1_5.heap.size] : List Sp).getD i (Sp.val undef)) [(w.heap.size, 0, .bool n0), (w.heap.size, 1, .slice p0 A0.length q0), (w.heap.size + 1 + 1, 0, .bool n2), (w.heap.size + 1 + 1, 1, .slice p2 A2.length q2), (w.heap.size + 1, 0, .bool n1), (w.heap.size + 1, 1, .slice p1 A1.length q1)] (by kernel_rfl) (by kernel_rfl) (by kernel_rfl) (by kernel_rfl) (by kernel_rfl) (fun _ _ d _ _ h => by cases d <;> exact h) hcells ?hfr ?hs ?ht
      case hfr =>
        intro i v wk hi hv
        have : i = 11 ∨ i = 12 := by simpa using hi
        rcases this with rfl | rfl <;> (obtain ⟨s, rfl, -, hb⟩ := hv; exact hb.c0.2)
      case hs =>
        refine ⟨?_, ?_, ?_, ?_, ?_, ?_, ?_, ?_, ?_, ?_, ?_, ?_, ?_, ?_, ?_, ?_, trivial⟩
        · refine .inr fun a wk hag hS hx _ => .inl ⟨rfl, rfl, .agg #[.bool n0, .slice p0 A0.length q0], .inl ⟨rfl, fun wk' hS' => ?_⟩, rfl⟩
          have t0 : a.tmps[3]?.getD undef = .pointer (some ⟨w.heap.size, 0, none⟩) := slot_of hag (by decide) rfl
          have c0 := hS'.get 0 rfl
          have c1 := hS'.get 1 rfl
          clear hag hS hS' hx hcells
          go_simp
        · refine .inr fun a wk hag hS hx _ => .inl ⟨rfl, rfl, .agg #[.bool n2, .slice p2 A2.length q2], .inl ⟨rfl, fun wk' hS' => ?_⟩, rfl⟩
          have t0 : a.tmps[5]?.getD undef = .pointer (some ⟨w.heap.size + 1 + 1, 0, none⟩) := slot_of hag (by decide) rfl
          have c2 := hS'.get 2 rfl
          have c3 := hS'.get 3 rfl
          clear hag hS hS' hx hcells
          go_simp
        · refine .inr fun a wk hag hS hx _ => .inl ⟨rfl, rfl, .agg #[.bool n1, .slice p1 A1.length q1], .inl ⟨rfl, fun wk' hS' => ?_⟩, rfl⟩
          have t0 : a.tmps[4]?.getD undef = .pointer (some ⟨w.heap.size + 1, 0, none⟩) := slot_of hag (by decide) rfl
          have c4 := hS'.get 4 rfl
          have c5 := hS'.get 5 rfl
          clear hag hS hS' hx hcells
          go_simp
        · refine .inr fun a wk hag hS hx hpre => .inr ⟨rfl, wpOp_step rfl (fun K hK => ?_)⟩
          rw [if_pos (by rfl)]
          have u1e := hpre 1 (by decide +kernel)
          have t1 : a.tmps[75]?.getD undef = .agg #[.bool n2, .slice p2 A2.length q2] := slot_is u1e
          have u2e := hpre 2 (by decide +kernel)
          have t2 : a.tmps[76]?.getD undef = .agg #[.bool n1, .slice p1 A1.length q1] := slot_is u2e
          clear hag hS hcells
          go_simp
          refine (mul_is (i2.ext ((y1.trans (x2.trans (y3.trans X1_5))).trans hx)) (i1.ext ((y1.trans (x2.trans (y3.trans X1_5))).trans hx)) (by decide)).mono ?_
          rintro e wk' ⟨sb10, sv10, sm10, rfl, e10, ix⟩
          obtain ⟨sp10, sl10, sc10, rfl⟩ := e10.slice
          exact hK _ _ ⟨_, rfl, ⟨sb10, sp10, sl10, sc10, sm10, rfl, e10⟩, ix, fun h => absurd h (by decide)⟩
        · refine .inr fun a wk hag hS hx hpre => .inr ⟨rfl, wpOp_step rfl (fun K hK => ?_)⟩
          rw [if_pos (by rfl)]
          have u0e := hpre 0 (by decide +kernel)
          have t0 : a.tmps[74]?.getD undef = .agg #[.bool n0, .slice p0 A0.length q0] := slot_is u0e
          obtain ⟨u3b, u3p, u3n, u3c, u3m, u3e, u3i⟩ := hpre 3 (by decide +kernel)
          have t3 : a.tmps[77]?.getD undef = .agg #[.bool u3b, .slice u3p u3n u3c] := slot_is u3e
          clear hag hS hcells
          go_simp
          refine (add_is (i0.ext ((y1.trans (x2.trans (y3.trans X1_5))).trans hx)) ((u3i.ext (Ext.refl _)).inI (k := 20) (LenI.mul i2.len i1.len)) (by decide) (by decide)).mono ?_
          rintro e wk' ⟨sb11, sv11, sm11, rfl, e11, ix⟩
          obtain ⟨sp11, sl11, sc11, rfl⟩ := e11.slice
          exact hK _ _ ⟨_, rfl, ⟨sb11, sp11, sl11, sc11, sm11, rfl, e11⟩, ix, fun h => absurd h (by decide)⟩
        · refine .inr fun a wk hag hS hx _ => .inl ⟨rfl, rfl, .agg #[.bool n1, .slice p1 A1.length q1], .inl ⟨rfl, fun wk' hS' => ?_⟩, rfl⟩
          have t0 : a.tmps[4]?.getD undef = .pointer (some ⟨w.heap.size + 1, 0, none⟩) := slot_of hag (by decide) rfl
          have c4 := hS'.get 4 rfl
          have c5 := hS'.get 5 rfl
          clear hag hS hS' hx hcells
          go_simp
        · refine .inr fun a wk hag hS hx hpre => .inr ⟨rfl, wpOp_step rfl (fun K hK => ?_)⟩
          rw [if_pos (by rfl)]
          obtain ⟨u4b, u4p, u4n, u4c, u4m, u4e, u4i⟩ := hpre 4 (by decide +kernel)
          have t4 : a.tmps[78]?.getD undef = .agg #[.bool u4b, .slice u4p u4n u4c] := slot_is u4e
          have u5e := hpre 5 (by decide +kernel)
          have t5 : a.tmps[79]?.getD undef = .agg #[.bool n1, .slice p1 A1.length q1] := slot_is u5e
          clear hag hS hcells
          go_simp
          refine (divy_is ((u4i.ext (Ext.refl _)).inI (k := 21) (LenI.add (LenI.mono i0.len (by decide)) (LenI.mul i2.len i1.len))) (i1.ext ((y1.trans (x2.trans (y3.trans X1_5))).trans hx)) (by decide) (by decide) HY.out).mono ?_
          rintro e wk' ⟨sb12, su12, sm12, su12_, sm12_, rfl, e12q, e12r, ix⟩
          obtain ⟨sp12q, sl12q, sc12q, rfl⟩ := e12q.slice
          obtain ⟨sp12r, sl12r, sc12r, rfl⟩ := e12r.slice
          exact hK _ _ ⟨_, rfl, ⟨sb12, sp12q, sl12q, sc12q, _, sp12r, sl12r, sc12r, _, rfl, e12q, e12r⟩, ix, fun h => absurd h (by decide)⟩
        · refine .inr fun a wk hag hS hx hpre => ?_
          obtain ⟨mb, mp, mn, mc, mm, mq, mo, md, ml, me, mi, mj⟩ := hpre 6 (by decide +kernel)
          have t0 : a.tmps[80]?.getD undef = .tuple #[.agg #[.bool mb, .slice mp mn mc], .agg #[.bool false, .slice mq mo md], .int .i64 0] := slot_is me
          refine .inl ⟨rfl, rfl, .tuple #[.agg #[.bool mb, .slice mp mn mc], .agg #[.bool false, .slice mq mo md], .int .i64 0], .inl ⟨rfl, fun wk' _ => ?_⟩, ⟨mb, mp, mn, mc, mm, mq, mo, md, ml, rfl, mi, mj⟩⟩
          clear hag hS hx hcells hpre
          go_simp
        · refine .inr fun a wk hag hS hx hpre => ?_
          obtain ⟨mb, mp, mn, mc, mm, mq, mo, md, ml, me, mi, mj⟩ := hpre 7 (by decide +kernel)
          have t0 : a.tmps[73]?.getD undef = .tuple #[.agg #[.bool mb, .slice mp mn mc], .agg #[.bool false, .slice mq mo md], .int .i64 0] := slot_is me
          refine .inl ⟨rfl, rfl, .agg #[.bool mb, .slice mp mn mc], .inl ⟨rfl, fun wk' _ => ?_⟩, ⟨mb, mp, mn, mc, mm, rfl, mi⟩⟩
          clear hag hS hx hcells hpre
          go_simp
        · refine .inr fun a wk hag hS hx hpre => ?_
          obtain ⟨mb, mp, mn, mc, mm, mq, mo, md, ml, me, mi, mj⟩ := hpre 7 (by decide +kernel)
          have t0 : a.tmps[73]?.getD undef = .tuple #[.agg #[.bool mb, .slice mp mn mc], .agg #[.bool false, .slice mq mo md], .int .i64 0] := slot_is me
          refine .inl ⟨rfl, rfl, .agg #[.bool false, .slice mq mo md], .inl ⟨rfl, fun wk' _ => ?_⟩, ⟨mq, mo, md, ml, rfl, mj⟩⟩
          clear hag hS hx hcells hpre
          go_simp
        · refine .inr fun a wk hag hS hx hpre => ?_
          obtain ⟨mb, mp, mn, mc, mm, mq, mo, md, ml, me, mi, mj⟩ := hpre 7 (by decide +kernel)
          have t0 : a.tmps[73]?.getD undef = .tuple #[.agg #[.bool mb, .slice mp mn mc], .agg #[.bool false, .slice mq mo md], .int .i64 0] := slot_is me
          refine .inl ⟨rfl, rfl, .int .i64 0, .inl ⟨rfl, fun wk' _ => ?_⟩, rfl⟩
          clear hag hS hx hcells hpre
          go_simp
        · refine .inr fun a wk hag hS hx _ => .inr ⟨rfl, wpOp_step rfl (fun K hK => ?_)⟩
          rw [if_pos (by rfl)]
          have hsz := hx.size
          clear hag hS hcells
          go_simp
          exact hK _ _ ⟨_, rfl, ⟨wk.heap.size, rfl, hsz, BoxAt.new⟩, (Ext.refl _).alloc _, fun _ => rfl⟩
        · refine .inr fun a wk hag hS hx _ => .inr ⟨rfl, wpOp_step rfl (fun K hK => ?_)⟩
          rw [if_pos (by rfl)]
          have hsz := hx.size
          clear hag hS hcells
          go_simp
          exact hK _ _ ⟨_, rfl, ⟨wk.heap.size, rfl, hsz, BoxAt.new⟩, (Ext.refl _).alloc _, fun _ => rfl⟩
        · exact .inl rfl
        · exact .inl rfl
        · exact .inl rfl
      case ht =>
        intro a wk fuel hf hM hx
        have y0e := hM.post 0 rfl
        have y1e := hM.post 1 rfl
        have y2e := hM.post 2 rfl
        obtain ⟨y3b, y3p, y3n, y3c, y3m, y3e, y3i⟩ := hM.post 3 rfl
        obtain ⟨y4b, y4p, y4n, y4c, y4m, y4e, y4i⟩ := hM.post 4 rfl
        have y5e := hM.post 5 rfl
        obtain ⟨y6b, y6p, y6n, y6c, y6m, y6q, y6o, y6d, y6l, y6e, y6i, y6j⟩ := hM.post 6 rfl
        obtain ⟨y7b, y7p, y7n, y7c, y7m, y7q, y7o, y7d, y7l, y7e, y7i, y7j⟩ := hM.post 7 rfl
        obtain ⟨y8b, y8p, y8n, y8c, y8m, y8e, y8i⟩ := hM.post 8 rfl
        obtain ⟨y9p, y9n, y9c, y9m, y9e, y9i⟩ := hM.post 9 rfl
        have y10e := hM.post 10 rfl
        obtain ⟨y11s, y11e, y11l, y11b⟩ := hM.post 11 rfl
        obtain ⟨y12s, y12e, y12l, y12b⟩ := hM.post 12 rfl
        have hne11_12 : y11s ≠ y12s := by
          have h := hM.fresh 11 12 (by decide) rfl rfl rfl rfl
          rw [show at_ _ a 11 = _ from y11e, show at_ _ a 12 = _ from y12e] at h
          exact h
        have hnf12_11 : y12s ≠ y11s := Ne.symm hne11_12
        have z0 : sl a 74 = .agg #[.bool n0, .slice p0 A0.length q0] := y0e
        have z1 : sl a 75 = .agg #[.bool n2, .slice p2 A2.length q2] := y1e
        have z2 : sl a 76 = .agg #[.bool n1, .slice p1 A1.length q1] := y2e
        have z3 : sl a 77 = .agg #[.bool y3b, .slice y3p y3n y3c] := y3e
        have z4 : sl a 78 = .agg #[.bool y4b, .slice y4p y4n y4c] := y4e
        have z5 : sl a 79 = .agg #[.bool n1, .slice p1 A1.length q1] := y5e
        have z6 : sl a 80 = .tuple #[.agg #[.bool y6b, .slice y6p y6n y6c], .agg #[.bool false, .slice y6q y6o y6d], .int .i64 0] := y6e
        have z7 : sl a 73 = .tuple #[.agg #[.bool y7b, .slice y7p y7n y7c], .agg #[.bool false, .slice y7q y7o y7d], .int .i64 0] := y7e
        have z8 : sl a 81 = .agg #[.bool y8b, .slice y8p y8n y8c] := y8e
        have z9 : sl a 82 = .agg #[.bool false, .slice y9p y9n y9c] := y9e
        have z10 : sl a 83 = (.int .i64 0) := y10e
        have z11 : sl a 10 = .pointer (some ⟨y11s, 0, none⟩) := y11e
        have z12 : sl a 11 = .pointer (some ⟨y12s, 0, none⟩) := y12e
        rw [hM.ag.lay]
        obtain ⟨fk, rfl⟩ : ∃ k, fuel = k + 3 := ⟨fuel - 3, by have : 3 ≤ fuel := Nat.le_trans (by decide +kernel) hf; omega⟩
        clear hf
        simp only [lay, List.foldl_cons, List.foldl_nil, List.setIfInBounds_toArray, List.set_cons_zero, List.set_cons_succ, z0, z1, z2, z3, z4, z5, z6, z7, z8, z9, z10, z11, z12]
        clear hM z0 z1 z2 z3 z4 z5 z6 z7 z8 z9 z10 z11 z12 y0e y1e y2e y3e y4e y5e y6e y7e y8e y9e y10e y11e y12e
        refine wpAnyH_ready (rs := [13]) (by kernel_rfl) (by simp) ?_
        refine AllReadyH.cons rfl (fun K hK => ?_) AllReadyH.nil
        rw [if_pos (by rfl)]
        have q0 := y11b.c0.1
        have q1 := y11b.c1.1
        have q2 := y11b.f0.1
        have q3 := y11b.f1.1
        go_simp
        obtain ⟨v9_1, hv⟩ : ∃ W, W = ((wk.setCell ⟨y11s, 0, none⟩ (.bool y8b)).setCell ⟨y11s, 1, none⟩ (.slice y8p y8n y8c)) := ⟨_, rfl⟩
        have ix1 : Ext a1_5 v9_1 := by rw [hv]; exact ext_box2 hx y11l _ _
        have r11 := y11b.stored (.bool y8b) (.slice y8p y8n y8c)
        rw [← hv] at r11
        have y3i := y3i.store y11b (.bool y8b) (.slice y8p y8n y8c)
        rw [← hv] at y3i
        have y4i := y4i.store y11b (.bool y8b) (.slice y8p y8n y8c)
        rw [← hv] at y4i
        have y8i := y8i.store y11b (.bool y8b) (.slice y8p y8n y8c)
        rw [← hv] at y8i
        have y9i := y9i.store y11b (.bool y8b) (.slice y8p y8n y8c)
        rw [← hv] at y9i
        have y12b := y12b.store hne11_12 (.bool y8b) (.slice y8p y8n y8c)
        rw [← hv] at y12b
        rw [← hv]
        refine hK.out _ _ (hcells.ext ix1) (fun _ => ?_)
        clear hK K q0 q1 q2 q3 hv
        refine wpAnyH_ready (rs := [14]) (by kernel_rfl) (by simp) ?_
        refine AllReadyH.cons rfl (fun K hK => ?_) AllReadyH.nil
        rw [if_pos (by rfl)]
        have q0 := y12b.c0.1
        have q1 := y12b.c1.1
        have q2 := y12b.f0.1
        have q3 := y12b.f1.1
        go_simp
        obtain ⟨v9_2, hv⟩ : ∃ W, W = ((v9_1.setCell ⟨y12s, 0, none⟩ (.bool false)).setCell ⟨y12s, 1, none⟩ (.slice y9p y9n y9c)) := ⟨_, rfl⟩
        have ix2 : Ext a1_5 v9_2 := by rw [hv]; exact ext_box2 ix1 y12l _ _
        have r12 := y12b.stored (.bool false) (.slice y9p y9n y9c)
        rw [← hv] at r12
        have y3i := y3i.store y12b (.bool false) (.slice y9p y9n y9c)
        rw [← hv] at y3i
        have y4i := y4i.store y12b (.bool false) (.slice y9p y9n y9c)
        rw [← hv] at y4i
        have y8i := y8i.store y12b (.bool false) (.slice y9p y9n y9c)
        rw [← hv] at y8i
        have y9i := y9i.store y12b (.bool false) (.slice y9p y9n y9c)
        rw [← hv] at y9i
        have r11 := And.intro (r11.1.store hnf12_11 (.bool false) (.slice y9p y9n y9c)) (r11.2.store hnf12_11 (.bool false) (.slice y9p y9n y9c))
        rw [← hv] at r11
        rw [← hv]
        refine hK.out _ _ (hcells.ext ix2) (fun _ => ?_)
        clear hK K q0 q1 q2 q3 hv
        refine wpAnyH_ready (rs := [15]) (by kernel_rfl) (by simp) ?_
        refine AllReadyH.cons rfl (fun K hK => ?_) AllReadyH.nil
        rw [if_pos (by rfl)]
        go_simp
        refine hK.out _ _ (hcells.ext ix2) (fun _ => ?_)
        clear hK K
        refine wpAnyH_done (by kernel_rfl) ?_ _
        have b6_0 := Lib.hid r11.1
        have b6_1 := Lib.hid r11.2
        have b7_0 := Lib.hid r12.1
        have b7_1 := Lib.hid r12.2
        go_wp2_with fail
        have X2_0 := (Ext.refl v9_2).drew
        have z2_0 := X2_0
        clear g4_0 g4_1 g1_0 g1_1 g5_0 g5_1 g0_0 g0_1
        have g6_0 := (b6_0.out.ext X2_0).1
        have g6_1 := (b6_1.out.ext X2_0).1
        have g4_0 := (b4_0.out.ext (X1_1.trans (z1_2.trans (z1_3.trans (z1_4.trans (z1_5.trans (ix2.trans X2_0))))))).1
        have g4_1 := (b4_1.out.ext (X1_1.trans (z1_2.trans (z1_3.trans (z1_4.trans (z1_5.trans (ix2.trans X2_0))))))).1
        have g2_0 := (b2_0.out.ext (x2.trans (y3.trans (X1_1.trans (z1_2.trans (z1_3.trans (z1_4.trans (z1_5.trans (ix2.trans X2_0))))))))).1
        have g2_1 := (b2_1.out.ext (x2.trans (y3.trans (X1_1.trans (z1_2.trans (z1_3.trans (z1_4.trans (z1_5.trans (ix2.trans X2_0))))))))).1
        have g7_0 := (b7_0.out.ext X2_0).1
        have g7_1 := (b7_1.out.ext X2_0).1
        have g5_0 := (b5_0.out.ext (X1_1.trans (z1_2.trans (z1_3.trans (z1_4.trans (z1_5.trans (ix2.trans X2_0))))))).1
        have g5_1 := (b5_1.out.ext (X1_1.trans (z1_2.trans (z1_3.trans (z1_4.trans (z1_5.trans (ix2.trans X2_0))))))).1
        (try simp only [List.append_eq, List.cons_append, List.nil_append])
        go_region_held3 (fun W => W.cell? ⟨y11s, 0, none⟩ = some (.bool y8b) ∧ W.cell? ⟨y11s, 1, none⟩ = some (.slice y8p y8n y8c) ∧ W.cell? ⟨w2.heap.size, 0, none⟩ = some (.bool sb3) ∧ W.cell? ⟨w2.heap.size, 1, none⟩ = some (.slice sp3q sl3q sc3q) ∧ W.cell? ⟨w.heap.size + 1 + 1, 0, none⟩ = some (.bool n2) ∧ W.cell? ⟨w.heap.size + 1 + 1, 1, none⟩ = some (.slice p2 A2.length q2) ∧ W.cell? ⟨y12s, 0, none⟩ = some (.bool false) ∧ W.cell? ⟨y12s, 1, none⟩ = some (.slice y9p y9n y9c) ∧ W.cell? ⟨w2.heap.size + 1, 0, none⟩ = some (.bool false) ∧ W.cell? ⟨w2.heap.size + 1, 1, none⟩ = some (.slice sp3r sl3r sc3r)) (go_keep)
          (first
            | (have pre := z2_2; go_at_call 24; refine (same_is (y9i.ext X2_2) (e3r.ext (y3.trans (X1_1.trans (z1_2.trans (z1_3.trans (z1_4.trans (z1_5.trans (ix2.trans X2_2)))))))) true (decide_eq_true (show (((z0 + (z2 * z1)) % z1) : Int) = (z0 % z1) from Int.add_mul_emod_self_right _ _ _))).mono ?_; rintro e a2_3 ⟨rfl, z2_3⟩; have X2_3 := Ext.trans X2_2 z2_3; clear g6_0 g6_1 g4_0 g4_1 g2_0 g2_1 g7_0 g7_1 g5_0 g5_1; have g6_0 := (b6_0.out.ext X2_3).1; have g6_1 := (b6_1.out.ext X2_3).1; have g4_0 := (b4_0.out.ext (X1_1.trans (z1_2.trans (z1_3.trans (z1_4.trans (z1_5.trans (ix2.trans X2_3))))))).1; have g4_1 := (b4_1.out.ext (X1_1.trans (z1_2.trans (z1_3.trans (z1_4.trans (z1_5.trans (ix2.trans X2_3))))))).1; have g2_0 := (b2_0.out.ext (x2.trans (y3.trans (X1_1.trans (z1_2.trans (z1_3.trans (z1_4.trans (z1_5.trans (ix2.trans X2_3))))))))).1; have g2_1 := (b2_1.out.ext (x2.trans (y3.trans (X1_1.trans (z1_2.trans (z1_3.trans (z1_4.trans (z1_5.trans (ix2.trans X2_3))))))))).1; have g7_0 := (b7_0.out.ext X2_3).1; have g7_1 := (b7_1.out.ext X2_3).1; have g5_0 := (b5_0.out.ext (X1_1.trans (z1_2.trans (z1_3.trans (z1_4.trans (z1_5.trans (ix2.trans X2_3))))))).1; have g5_1 := (b5_1.out.ext (X1_1.trans (z1_2.trans (z1_3.trans (z1_4.trans (z1_5.trans (ix2.trans X2_3))))))).1)
            | (have pre := z2_1; go_at_call 24; refine (same_is (y8i.ext X2_1) (e13.ext (Ext.refl _)) true (decide_eq_true (show (((z0 + (z2 * z1)) / z1) : Int) = ((z0 / z1) + z2) from Int.add_mul_ediv_right _ _ HY.out))).mono ?_; rintro e a2_2 ⟨rfl, z2_2⟩; have X2_2 := Ext.trans X2_1 z2_2; clear g6_0 g6_1 g4_0 g4_1 g2_0 g2_1 g7_0 g7_1 g5_0 g5_1; have g6_0 := (b6_0.out.ext X2_2).1; have g6_1 := (b6_1.out.ext X2_2).1; have g4_0 := (b4_0.out.ext (X1_1.trans (z1_2.trans (z1_3.trans (z1_4.trans (z1_5.trans (ix2.trans X2_2))))))).1; have g4_1 := (b4_1.out.ext (X1_1.trans (z1_2.trans (z1_3.trans (z1_4.trans (z1_5.trans (ix2.trans X2_2))))))).1; have g2_0 := (b2_0.out.ext (x2.trans (y3.trans (X1_1.trans (z1_2.trans (z1_3.trans (z1_4.trans (z1_5.trans (ix2.trans X2_2))))))))).1; have g2_1 := (b2_1.out.ext (x2.trans (y3.trans (X1_1.trans (z1_2.trans (z1_3.trans (z1_4.trans (z1_5.trans (ix2.trans X2_2))))))))).1; have g7_0 := (b7_0.out.ext X2_2).1; have g7_1 := (b7_1.out.ext X2_2).1; have g5_0 := (b5_0.out.ext (X1_1.trans (z1_2.trans (z1_3.trans (z1_4.trans (z1_5.trans (ix2.trans X2_2))))))).1; have g5_1 := (b5_1.out.ext (X1_1.trans (z1_2.trans (z1_3.trans (z1_4.trans (z1_5.trans (ix2.trans X2_2))))))).1)
            | (have pre := z2_0; go_at_call 25; refine (add_is ((e3q.ext (y3.trans (X1_1.trans (z1_2.trans (z1_3.trans (z1_4.trans (z1_5.trans (ix2.trans X2_0)))))))).inI (k := 10) (LenI.div _ i0.len)) (i2.ext (y1.trans (x2.trans (y3.trans (X1_1.trans (z1_2.trans (z1_3.trans (z1_4.trans (z1_5.trans (ix2.trans X2_0)))))))))) (by decide) (by decide)).mono ?_; rintro e a2_1 ⟨sb13, sv13, sm13, rfl, e13, z2_1⟩; have X2_1 := Ext.trans X2_0 z2_1; obtain ⟨sp13, sl13, sc13, rfl⟩ := e13.slice; clear g6_0 g6_1 g4_0 g4_1 g2_0 g2_1 g7_0 g7_1 g5_0 g5_1; have g6_0 := (b6_0.out.ext X2_1).1; have g6_1 := (b6_1.out.ext X2_1).1; have g4_0 := (b4_0.out.ext (X1_1.trans (z1_2.trans (z1_3.trans (z1_4.trans (z1_5.trans (ix2.trans X2_1))))))).1; have g4_1 := (b4_1.out.ext (X1_1.trans (z1_2.trans (z1_3.trans (z1_4.trans (z1_5.trans (ix2.trans X2_1))))))).1; have g2_0 := (b2_0.out.ext (x2.trans (y3.trans (X1_1.trans (z1_2.trans (z1_3.trans (z1_4.trans (z1_5.trans (ix2.trans X2_1))))))))).1; have g2_1 := (b2_1.out.ext (x2.trans (y3.trans (X1_1.trans (z1_2.trans (z1_3.trans (z1_4.trans (z1_5.trans (ix2.trans X2_1))))))))).1; have g7_0 := (b7_0.out.ext X2_1).1; have g7_1 := (b7_1.out.ext X2_1).1; have g5_0 := (b5_0.out.ext (X1_1.trans (z1_2.trans (z1_3.trans (z1_4.trans (z1_5.trans (ix2.trans X2_1))))))).1; have g5_1 := (b5_1.out.ext (X1_1.trans (z1_2.trans (z1_3.trans (z1_4.trans (z1_5.trans (ix2.trans X2_1))))))).1))
        clear g6_0 g6_1 g4_0 g4_1 g2_0 g2_1 g7_0 g7_1 g5_0 g5_1
        go_wp2_with fail
        go_ret
        exact ⟨rfl, (y1.trans (x2.trans (y3.trans (X1_1.trans (z1_2.trans (z1_3.trans (z1_4.trans (z1_5.trans (ix2.trans X2_3)))))))))⟩

end Go.Proofs.YtomhfipgabpfiaaDoor
