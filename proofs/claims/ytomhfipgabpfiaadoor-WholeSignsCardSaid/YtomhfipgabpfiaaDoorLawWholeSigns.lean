/- WholeSigns answers true at all whole numbers. -/
import Derived.Test.YtomhfipgabpfiaaDoorLawKit
namespace Go.Proofs.YtomhfipgabpfiaaDoor
open Go Go.RowKit


set_option maxHeartbeats 8000000 in
set_option maxRecDepth 100000 in
theorem wholeSigns_calls {w : World} {v0 v1 : Value} {A0 A1 : List Nat} (h0 : Limbs w v0 A0) (h1 : Limbs w v1 A1) (n0 n1 : Bool) :
    Calls Tryd.prog 6 #[.agg #[.bool n0, v0], .agg #[.bool n1, v1]] w (Yes w) := by
  obtain ⟨p0, q0, rfl, -, -, -⟩ := h0.open
  obtain ⟨p1, q1, rfl, -, -, -⟩ := h1.open
  obtain ⟨lb, hlb⟩ : ∃ b, (decide (10 < A0.length) || decide (10 < A1.length)) = b := ⟨_, rfl⟩
  cases lb with
  | true =>
    have HLB := Lib.hid hlb
    clear hlb
    go_enter Tryd.func6, Tryd.ntmps6
    go_wp2_with fail
    refine (ilong2_calls (h0.ext (((Ext.refl _).alloc _).alloc _)) (h1.ext (((Ext.refl _).alloc _).alloc _)) n0 n1 true HLB.out (by simp)).mono ?_
    rintro e w1_ ⟨rfl, rfl⟩
    go_wp2_with fail
    refine (lawake_calls _).mono ?_
    rintro e w1 ⟨rfl, x1⟩
    have y1 := Ext.trans ((((Ext.refl _).alloc _).alloc _).alloc _) x1
    have b0_0 : Hid (At (w.heap.size) 0 (.bool n0) w1) := At.ext (At.n0 (by rfl)) ((((Ext.refl _).alloc _).alloc _).trans x1)
    have b0_1 : Hid (At (w.heap.size) 1 (.slice p0 A0.length q0) w1) := At.ext (At.n0 (by rfl)) ((((Ext.refl _).alloc _).alloc _).trans x1)
    have b1_0 : Hid (At (w.heap.size + 1) 0 (.bool n1) w1) := At.ext (At.n1 (by rfl)) (((Ext.refl _).alloc _).trans x1)
    have b1_1 : Hid (At (w.heap.size + 1) 1 (.slice p1 A1.length q1) w1) := At.ext (At.n1 (by rfl)) (((Ext.refl _).alloc _).trans x1)
    go_wp2_with fail
    go_ret
    exact ⟨rfl, y1⟩
  | false =>
    have HLB := Lib.hid hlb
    simp at hlb
    have i0 : InI w n0 (.slice p0 A0.length q0) 10 (iv n0 A0) := ⟨A0, h0, rfl, by omega⟩
    obtain ⟨z0, hz0⟩ : ∃ z, iv n0 A0 = z := ⟨_, rfl⟩
    rw [hz0] at i0
    have i1 : InI w n1 (.slice p1 A1.length q1) 10 (iv n1 A1) := ⟨A1, h1, rfl, by omega⟩
    obtain ⟨z1, hz1⟩ : ∃ z, iv n1 A1 = z := ⟨_, rfl⟩
    rw [hz1] at i1
    clear hlb
    have hm0 : z0.natAbs = val A0 := by rw [← hz0]; exact iv_abs _ _
    have hm1 : z1.natAbs = val A1 := by rw [← hz1]; exact iv_abs _ _
    obtain ⟨s0, hs0⟩ : ∃ s, z0.sign = s := ⟨_, rfl⟩
    obtain ⟨s1, hs1⟩ : ∃ s, z1.sign = s := ⟨_, rfl⟩
    have r0 := sign_range z0
    have r1 := sign_range z1
    rw [hs0] at r0
    rw [hs1] at r1
    have r2 := mul_range r0 r1
    obtain ⟨r01, r02⟩ := r0
    obtain ⟨r21, r22⟩ := r2
    clear r1
    obtain ⟨zb, hzb⟩ : ∃ b, decide (val A0 = 0) = b := ⟨_, rfl⟩
    have hq : (s0 == 0) = zb := by
      rw [← hzb, ← hm0, Bool.eq_iff_iff, beq_iff_eq, decide_eq_true_eq, ← hs0, Int.sign_eq_zero_iff_zero]; omega
    have HF : Hid (decide (s0 < 0) = decide (z0 < 0)) := by show _ = _; rw [Bool.eq_iff_iff, decide_eq_true_eq, decide_eq_true_eq, ← hs0, Int.sign_neg_iff]
    obtain ⟨pr, hpr⟩ : ∃ p, s0 * s1 = p := ⟨_, rfl⟩
    obtain ⟨ne, hne⟩ : ∃ p, -s0 = p := ⟨_, rfl⟩
    have hw1 : IntKind.i64.wrap (s0 * s1) = pr := by rw [← hpr]; exact IntWalk.i64_in _ (by omega)
    have hw2 : IntKind.i64.wrap (-s0) = ne := by rw [← hne]; exact IntWalk.i64_in _ (by omega)
    have HP := Lib.hid hpr
    have HN := Lib.hid hne
    clear hpr hne
    have H0 := Lib.hid hs0
    have H1 := Lib.hid hs1
    have HZ := Lib.hid hzb
    clear hs0 hs1 hzb hm0 hm1 hz0 hz1
    go_enter Tryd.func6, Tryd.ntmps6
    go_wp2_with fail
    refine (ilong2_calls (h0.ext (((Ext.refl _).alloc _).alloc _)) (h1.ext (((Ext.refl _).alloc _).alloc _)) n0 n1 false HLB.out (by simp)).mono ?_
    rintro e w1_ ⟨rfl, rfl⟩
    go_wp2_with fail
    refine (lawake_calls _).mono ?_
    rintro e w1 ⟨rfl, x1⟩
    have y1 := Ext.trans ((((Ext.refl _).alloc _).alloc _).alloc _) x1
    have b0_0 : Hid (At (w.heap.size) 0 (.bool n0) w1) := At.ext (At.n0 (by rfl)) ((((Ext.refl _).alloc _).alloc _).trans x1)
    have b0_1 : Hid (At (w.heap.size) 1 (.slice p0 A0.length q0) w1) := At.ext (At.n0 (by rfl)) ((((Ext.refl _).alloc _).alloc _).trans x1)
    have b1_0 : Hid (At (w.heap.size + 1) 0 (.bool n1) w1) := At.ext (At.n1 (by rfl)) (((Ext.refl _).alloc _).trans x1)
    have b1_1 : Hid (At (w.heap.size + 1) 1 (.slice p1 A1.length q1) w1) := At.ext (At.n1 (by rfl)) (((Ext.refl _).alloc _).trans x1)
    have g0_0 := (b0_0.out.ext (Ext.refl _)).1
    have g0_1 := (b0_1.out.ext (Ext.refl _)).1
    go_wp2_with fail
    refine (make_is (i0.ext y1) (by decide)).mono ?_
    rintro e w2 ⟨sb3, sv3, sm3, rfl, e3, x2⟩
    obtain ⟨sp3, sl3, sc3, rfl⟩ := e3.slice
    have hsb : decide (s0 < 0) = sb3 := HF.out.trans e3.1
    clear g0_0 g0_1
    go_wp2_with fail
    obtain ⟨v3, hv3⟩ : ∃ W, W = (w2.alloc (.cells #[.bool sb3, .slice sp3 sl3 sc3] 25)) := ⟨_, rfl⟩
    have y3 : Ext w2 v3 := by rw [hv3]; exact ((Ext.refl _).alloc _)
    have b3_0 : Hid (At (w2.heap.size) 0 (.bool sb3) v3) := by rw [hv3]; exact At.ext (At.n0 (by rfl)) (Ext.refl _)
    have b3_1 : Hid (At (w2.heap.size) 1 (.slice sp3 sl3 sc3) v3) := by rw [hv3]; exact At.ext (At.n0 (by rfl)) (Ext.refl _)
    rw [← hv3]
    clear hv3
    have X1_0 := (Ext.refl v3).drew
    have z1_0 := X1_0
    have g0_0 := (b0_0.out.ext (x2.trans (y3.trans X1_0))).1
    have g0_1 := (b0_1.out.ext (x2.trans (y3.trans X1_0))).1
    have g1_0 := (b1_0.out.ext (x2.trans (y3.trans X1_0))).1
    have g1_1 := (b1_1.out.ext (x2.trans (y3.trans X1_0))).1
    have g3_0 := (b3_0.out.ext X1_0).1
    have g3_1 := (b3_1.out.ext X1_0).1
    (try simp only [List.append_eq, List.cons_append, List.nil_append])
    go_region_held3 (fun W => W.cell? ⟨w.heap.size, 0, none⟩ = some (.bool n0) ∧ W.cell? ⟨w.heap.size, 1, none⟩ = some (.slice p0 A0.length q0) ∧ W.cell? ⟨w.heap.size + 1, 0, none⟩ = some (.bool n1) ∧ W.cell? ⟨w.heap.size + 1, 1, none⟩ = some (.slice p1 A1.length q1) ∧ W.cell? ⟨w2.heap.size, 0, none⟩ = some (.bool sb3) ∧ W.cell? ⟨w2.heap.size, 1, none⟩ = some (.slice sp3 sl3 sc3)) (go_keep)
      (first
        | (have pre := z1_15; go_at_call 29; refine (zero_ext (h0.ext (y1.trans (x2.trans (y3.trans X1_15)))) (by have := HLB.out; simp at this; omega) zb HZ.out).mono ?_; rintro e a1_16 ⟨rfl, z1_16⟩; have X1_16 := Ext.trans X1_15 z1_16; clear g0_0 g0_1 g1_0 g1_1 g3_0 g3_1; have g0_0 := (b0_0.out.ext (x2.trans (y3.trans X1_16))).1; have g0_1 := (b0_1.out.ext (x2.trans (y3.trans X1_16))).1; have g1_0 := (b1_0.out.ext (x2.trans (y3.trans X1_16))).1; have g1_1 := (b1_1.out.ext (x2.trans (y3.trans X1_16))).1; have g3_0 := (b3_0.out.ext X1_16).1; have g3_1 := (b3_1.out.ext X1_16).1)
        | (have pre := z1_14; go_at_call 23; refine (sign_is (i0.ext (y1.trans (x2.trans (y3.trans X1_14)))) (by decide) s0 H0.out).mono ?_; rintro e a1_15 ⟨rfl, z1_15⟩; have X1_15 := Ext.trans X1_14 z1_15; clear g0_0 g0_1 g1_0 g1_1 g3_0 g3_1; have g0_0 := (b0_0.out.ext (x2.trans (y3.trans X1_15))).1; have g0_1 := (b0_1.out.ext (x2.trans (y3.trans X1_15))).1; have g1_0 := (b1_0.out.ext (x2.trans (y3.trans X1_15))).1; have g1_1 := (b1_1.out.ext (x2.trans (y3.trans X1_15))).1; have g3_0 := (b3_0.out.ext X1_15).1; have g3_1 := (b3_1.out.ext X1_15).1)
        | (have pre := z1_13; go_at_call 23; refine (sign_is (i0.ext (y1.trans (x2.trans (y3.trans X1_13)))) (by decide) s0 H0.out).mono ?_; rintro e a1_14 ⟨rfl, z1_14⟩; have X1_14 := Ext.trans X1_13 z1_14; clear g0_0 g0_1 g1_0 g1_1 g3_0 g3_1; have g0_0 := (b0_0.out.ext (x2.trans (y3.trans X1_14))).1; have g0_1 := (b0_1.out.ext (x2.trans (y3.trans X1_14))).1; have g1_0 := (b1_0.out.ext (x2.trans (y3.trans X1_14))).1; have g1_1 := (b1_1.out.ext (x2.trans (y3.trans X1_14))).1; have g3_0 := (b3_0.out.ext X1_14).1; have g3_1 := (b3_1.out.ext X1_14).1)
        | (have pre := z1_12; go_at_call 23; refine (sign_is (i0.ext (y1.trans (x2.trans (y3.trans X1_12)))) (by decide) s0 H0.out).mono ?_; rintro e a1_13 ⟨rfl, z1_13⟩; have X1_13 := Ext.trans X1_12 z1_13; clear g0_0 g0_1 g1_0 g1_1 g3_0 g3_1; have g0_0 := (b0_0.out.ext (x2.trans (y3.trans X1_13))).1; have g0_1 := (b0_1.out.ext (x2.trans (y3.trans X1_13))).1; have g1_0 := (b1_0.out.ext (x2.trans (y3.trans X1_13))).1; have g1_1 := (b1_1.out.ext (x2.trans (y3.trans X1_13))).1; have g3_0 := (b3_0.out.ext X1_13).1; have g3_1 := (b3_1.out.ext X1_13).1)
        | (have pre := z1_11; go_at_call 23; refine (sign_is ((e14.ext (Ext.refl _)).inI (k := 10) (LenI.neg i0.len)) (by decide) ne (by rw [Int.sign_neg, H0.out]; exact HN.out)).mono ?_; rintro e a1_12 ⟨rfl, z1_12⟩; have X1_12 := Ext.trans X1_11 z1_12; clear g0_0 g0_1 g1_0 g1_1 g3_0 g3_1; have g0_0 := (b0_0.out.ext (x2.trans (y3.trans X1_12))).1; have g0_1 := (b0_1.out.ext (x2.trans (y3.trans X1_12))).1; have g1_0 := (b1_0.out.ext (x2.trans (y3.trans X1_12))).1; have g1_1 := (b1_1.out.ext (x2.trans (y3.trans X1_12))).1; have g3_0 := (b3_0.out.ext X1_12).1; have g3_1 := (b3_1.out.ext X1_12).1)
        | (have pre := z1_10; go_at_call 28; refine (neg_is (i0.ext (y1.trans (x2.trans (y3.trans X1_10)))) (by decide)).mono ?_; rintro e a1_11 ⟨sb14, sv14, sm14, rfl, e14, z1_11⟩; have X1_11 := Ext.trans X1_10 z1_11; obtain ⟨sp14, sl14, sc14, rfl⟩ := e14.slice; clear g0_0 g0_1 g1_0 g1_1 g3_0 g3_1; have g0_0 := (b0_0.out.ext (x2.trans (y3.trans X1_11))).1; have g0_1 := (b0_1.out.ext (x2.trans (y3.trans X1_11))).1; have g1_0 := (b1_0.out.ext (x2.trans (y3.trans X1_11))).1; have g1_1 := (b1_1.out.ext (x2.trans (y3.trans X1_11))).1; have g3_0 := (b3_0.out.ext X1_11).1; have g3_1 := (b3_1.out.ext X1_11).1)
        | (have pre := z1_9; go_at_call 24; refine (same_is (e12.ext (Ext.refl _)) (zero_is _) true (decide_eq_true (show ((z0 + (-z0)) : Int) = 0 from Int.add_right_neg _))).mono ?_; rintro e a1_10 ⟨rfl, z1_10⟩; have X1_10 := Ext.trans X1_9 z1_10; clear g0_0 g0_1 g1_0 g1_1 g3_0 g3_1; have g0_0 := (b0_0.out.ext (x2.trans (y3.trans X1_10))).1; have g0_1 := (b0_1.out.ext (x2.trans (y3.trans X1_10))).1; have g1_0 := (b1_0.out.ext (x2.trans (y3.trans X1_10))).1; have g1_1 := (b1_1.out.ext (x2.trans (y3.trans X1_10))).1; have g3_0 := (b3_0.out.ext X1_10).1; have g3_1 := (b3_1.out.ext X1_10).1)
        | (have pre := z1_8; go_at_call 25; refine (add_is (i0.ext (y1.trans (x2.trans (y3.trans X1_8)))) ((e11.ext (Ext.refl _)).inI (k := 10) (LenI.neg i0.len)) (by decide) (by decide)).mono ?_; rintro e a1_9 ⟨sb12, sv12, sm12, rfl, e12, z1_9⟩; have X1_9 := Ext.trans X1_8 z1_9; obtain ⟨sp12, sl12, sc12, rfl⟩ := e12.slice; clear g0_0 g0_1 g1_0 g1_1 g3_0 g3_1; have g0_0 := (b0_0.out.ext (x2.trans (y3.trans X1_9))).1; have g0_1 := (b0_1.out.ext (x2.trans (y3.trans X1_9))).1; have g1_0 := (b1_0.out.ext (x2.trans (y3.trans X1_9))).1; have g1_1 := (b1_1.out.ext (x2.trans (y3.trans X1_9))).1; have g3_0 := (b3_0.out.ext X1_9).1; have g3_1 := (b3_1.out.ext X1_9).1)
        | (have pre := z1_7; go_at_call 28; refine (neg_is (i0.ext (y1.trans (x2.trans (y3.trans X1_7)))) (by decide)).mono ?_; rintro e a1_8 ⟨sb11, sv11, sm11, rfl, e11, z1_8⟩; have X1_8 := Ext.trans X1_7 z1_8; obtain ⟨sp11, sl11, sc11, rfl⟩ := e11.slice; clear g0_0 g0_1 g1_0 g1_1 g3_0 g3_1; have g0_0 := (b0_0.out.ext (x2.trans (y3.trans X1_8))).1; have g0_1 := (b0_1.out.ext (x2.trans (y3.trans X1_8))).1; have g1_0 := (b1_0.out.ext (x2.trans (y3.trans X1_8))).1; have g1_1 := (b1_1.out.ext (x2.trans (y3.trans X1_8))).1; have g3_0 := (b3_0.out.ext X1_8).1; have g3_1 := (b3_1.out.ext X1_8).1)
        | (have pre := z1_6; go_at_call 24; refine (same_is (e9.ext (Ext.refl _)) (e3.ext (y3.trans X1_6)) true (decide_eq_true (show ((-(-z0)) : Int) = z0 from Int.neg_neg _))).mono ?_; rintro e a1_7 ⟨rfl, z1_7⟩; have X1_7 := Ext.trans X1_6 z1_7; clear g0_0 g0_1 g1_0 g1_1 g3_0 g3_1; have g0_0 := (b0_0.out.ext (x2.trans (y3.trans X1_7))).1; have g0_1 := (b0_1.out.ext (x2.trans (y3.trans X1_7))).1; have g1_0 := (b1_0.out.ext (x2.trans (y3.trans X1_7))).1; have g1_1 := (b1_1.out.ext (x2.trans (y3.trans X1_7))).1; have g3_0 := (b3_0.out.ext X1_7).1; have g3_1 := (b3_1.out.ext X1_7).1)
        | (have pre := z1_5; go_at_call 28; refine (neg_is ((e8.ext (Ext.refl _)).inI (k := 10) (LenI.neg i0.len)) (by decide)).mono ?_; rintro e a1_6 ⟨sb9, sv9, sm9, rfl, e9, z1_6⟩; have X1_6 := Ext.trans X1_5 z1_6; obtain ⟨sp9, sl9, sc9, rfl⟩ := e9.slice; clear g0_0 g0_1 g1_0 g1_1 g3_0 g3_1; have g0_0 := (b0_0.out.ext (x2.trans (y3.trans X1_6))).1; have g0_1 := (b0_1.out.ext (x2.trans (y3.trans X1_6))).1; have g1_0 := (b1_0.out.ext (x2.trans (y3.trans X1_6))).1; have g1_1 := (b1_1.out.ext (x2.trans (y3.trans X1_6))).1; have g3_0 := (b3_0.out.ext X1_6).1; have g3_1 := (b3_1.out.ext X1_6).1)
        | (have pre := z1_4; go_at_call 28; refine (neg_is (i0.ext (y1.trans (x2.trans (y3.trans X1_4)))) (by decide)).mono ?_; rintro e a1_5 ⟨sb8, sv8, sm8, rfl, e8, z1_5⟩; have X1_5 := Ext.trans X1_4 z1_5; obtain ⟨sp8, sl8, sc8, rfl⟩ := e8.slice; clear g0_0 g0_1 g1_0 g1_1 g3_0 g3_1; have g0_0 := (b0_0.out.ext (x2.trans (y3.trans X1_5))).1; have g0_1 := (b0_1.out.ext (x2.trans (y3.trans X1_5))).1; have g1_0 := (b1_0.out.ext (x2.trans (y3.trans X1_5))).1; have g1_1 := (b1_1.out.ext (x2.trans (y3.trans X1_5))).1; have g3_0 := (b3_0.out.ext X1_5).1; have g3_1 := (b3_1.out.ext X1_5).1)
        | (have pre := z1_3; go_at_call 23; refine (sign_is (i1.ext (y1.trans (x2.trans (y3.trans X1_3)))) (by decide) s1 H1.out).mono ?_; rintro e a1_4 ⟨rfl, z1_4⟩; have X1_4 := Ext.trans X1_3 z1_4; clear g0_0 g0_1 g1_0 g1_1 g3_0 g3_1; have g0_0 := (b0_0.out.ext (x2.trans (y3.trans X1_4))).1; have g0_1 := (b0_1.out.ext (x2.trans (y3.trans X1_4))).1; have g1_0 := (b1_0.out.ext (x2.trans (y3.trans X1_4))).1; have g1_1 := (b1_1.out.ext (x2.trans (y3.trans X1_4))).1; have g3_0 := (b3_0.out.ext X1_4).1; have g3_1 := (b3_1.out.ext X1_4).1)
        | (have pre := z1_2; go_at_call 23; refine (sign_is (i0.ext (y1.trans (x2.trans (y3.trans X1_2)))) (by decide) s0 H0.out).mono ?_; rintro e a1_3 ⟨rfl, z1_3⟩; have X1_3 := Ext.trans X1_2 z1_3; clear g0_0 g0_1 g1_0 g1_1 g3_0 g3_1; have g0_0 := (b0_0.out.ext (x2.trans (y3.trans X1_3))).1; have g0_1 := (b0_1.out.ext (x2.trans (y3.trans X1_3))).1; have g1_0 := (b1_0.out.ext (x2.trans (y3.trans X1_3))).1; have g1_1 := (b1_1.out.ext (x2.trans (y3.trans X1_3))).1; have g3_0 := (b3_0.out.ext X1_3).1; have g3_1 := (b3_1.out.ext X1_3).1)
        | (have pre := z1_1; go_at_call 23; refine (sign_is ((e4.ext (Ext.refl _)).inI (k := 20) (LenI.mul i0.len i1.len)) (by decide) pr (by rw [Int.sign_mul, H0.out, H1.out]; exact HP.out)).mono ?_; rintro e a1_2 ⟨rfl, z1_2⟩; have X1_2 := Ext.trans X1_1 z1_2; clear g0_0 g0_1 g1_0 g1_1 g3_0 g3_1; have g0_0 := (b0_0.out.ext (x2.trans (y3.trans X1_2))).1; have g0_1 := (b0_1.out.ext (x2.trans (y3.trans X1_2))).1; have g1_0 := (b1_0.out.ext (x2.trans (y3.trans X1_2))).1; have g1_1 := (b1_1.out.ext (x2.trans (y3.trans X1_2))).1; have g3_0 := (b3_0.out.ext X1_2).1; have g3_1 := (b3_1.out.ext X1_2).1)
        | (have pre := z1_0; go_at_call 26; refine (mul_is (i0.ext (y1.trans (x2.trans (y3.trans X1_0)))) (i1.ext (y1.trans (x2.trans (y3.trans X1_0)))) (by decide)).mono ?_; rintro e a1_1 ⟨sb4, sv4, sm4, rfl, e4, z1_1⟩; have X1_1 := Ext.trans X1_0 z1_1; obtain ⟨sp4, sl4, sc4, rfl⟩ := e4.slice; clear g0_0 g0_1 g1_0 g1_1 g3_0 g3_1; have g0_0 := (b0_0.out.ext (x2.trans (y3.trans X1_1))).1; have g0_1 := (b0_1.out.ext (x2.trans (y3.trans X1_1))).1; have g1_0 := (b1_0.out.ext (x2.trans (y3.trans X1_1))).1; have g1_1 := (b1_1.out.ext (x2.trans (y3.trans X1_1))).1; have g3_0 := (b3_0.out.ext X1_1).1; have g3_1 := (b3_1.out.ext X1_1).1))
    clear g0_0 g0_1 g1_0 g1_1 g3_0 g3_1
    go_wp2_with fail
    go_ret
    exact ⟨rfl, (y1.trans (x2.trans (y3.trans X1_16)))⟩

end Go.Proofs.YtomhfipgabpfiaaDoor
