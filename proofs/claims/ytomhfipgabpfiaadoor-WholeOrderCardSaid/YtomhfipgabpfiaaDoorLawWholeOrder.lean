/- WholeOrder answers true at all whole numbers. -/
import Derived.Test.YtomhfipgabpfiaaDoorLawTxt
namespace Go.Proofs.YtomhfipgabpfiaaDoor
open Go Go.RowKit


set_option maxHeartbeats 8000000 in
set_option maxRecDepth 100000 in
theorem wholeOrder_calls {w : World} {v0 v1 v2 : Value} {A0 A1 A2 : List Nat} (h0 : Limbs w v0 A0) (h1 : Limbs w v1 A1) (h2 : Limbs w v2 A2) (n0 n1 n2 : Bool) :
    Calls Tryd.prog 9 #[.agg #[.bool n0, v0], .agg #[.bool n1, v1], .agg #[.bool n2, v2]] w (Yes w) := by
  obtain ⟨p0, q0, rfl, -, -, -⟩ := h0.open
  obtain ⟨p1, q1, rfl, -, -, -⟩ := h1.open
  obtain ⟨p2, q2, rfl, -, -, -⟩ := h2.open
  obtain ⟨lb, hlb⟩ : ∃ b, (decide (10 < A0.length) || (decide (10 < A1.length) || decide (10 < A2.length))) = b := ⟨_, rfl⟩
  cases lb with
  | true =>
    have HLB := Lib.hid hlb
    clear hlb
    go_enter Tryd.func9, Tryd.ntmps9
    go_wp2_with fail
    refine (ilong3_calls (h0.ext ((((Ext.refl _).alloc _).alloc _).alloc _)) (h1.ext ((((Ext.refl _).alloc _).alloc _).alloc _)) (h2.ext ((((Ext.refl _).alloc _).alloc _).alloc _)) n0 n1 n2 true HLB.out (by simp)).mono ?_
    rintro e w1_ ⟨rfl, rfl⟩
    go_wp2_with fail
    refine (lawake_calls _).mono ?_
    rintro e w1 ⟨rfl, x1⟩
    have y1 := Ext.trans (((((Ext.refl _).alloc _).alloc _).alloc _).alloc _) x1
    have b0_0 : Hid (At (w.heap.size) 0 (.bool n0) w1) := At.ext (At.n0 (by rfl)) (((((Ext.refl _).alloc _).alloc _).alloc _).trans x1)
    have b0_1 : Hid (At (w.heap.size) 1 (.slice p0 A0.length q0) w1) := At.ext (At.n0 (by rfl)) (((((Ext.refl _).alloc _).alloc _).alloc _).trans x1)
    have b1_0 : Hid (At (w.heap.size + 1) 0 (.bool n1) w1) := At.ext (At.n1 (by rfl)) ((((Ext.refl _).alloc _).alloc _).trans x1)
    have b1_1 : Hid (At (w.heap.size + 1) 1 (.slice p1 A1.length q1) w1) := At.ext (At.n1 (by rfl)) ((((Ext.refl _).alloc _).alloc _).trans x1)
    have b2_0 : Hid (At (w.heap.size + 1 + 1) 0 (.bool n2) w1) := At.ext (At.n2 (by rfl)) (((Ext.refl _).alloc _).trans x1)
    have b2_1 : Hid (At (w.heap.size + 1 + 1) 1 (.slice p2 A2.length q2) w1) := At.ext (At.n2 (by rfl)) (((Ext.refl _).alloc _).trans x1)
    go_wp2_with fail
    go_ret
    exact ⟨rfl, y1⟩
  | false =>
    have HLB := Lib.hid hlb
    simp at hlb
    have i0 : InI w n0 (.slice p0 A0.length q0) 10 (iv n0 A0) := ⟨A0, h0, rfl, by omega⟩
    obtain ⟨z0, hz0⟩ : ∃ z, iv n0 A0 = z := ⟨_, rfl⟩
    rw [hz0] at i0
    have i1 : InI w n1 (.slice p1 A1.length q1) 10 (iv n1 A1) := ⟨A1, h1, rfl, by omega⟩
    obtain ⟨z1, hz1⟩ : ∃ z, iv n1 A1 = z := ⟨_, rfl⟩
    rw [hz1] at i1
    have i2 : InI w n2 (.slice p2 A2.length q2) 10 (iv n2 A2) := ⟨A2, h2, rfl, by omega⟩
    obtain ⟨z2, hz2⟩ : ∃ z, iv n2 A2 = z := ⟨_, rfl⟩
    rw [hz2] at i2
    clear hlb
    obtain ⟨c, hc⟩ : ∃ c, cmpI z0 z1 = c := ⟨_, rfl⟩
    obtain ⟨d, hd⟩ : ∃ c, cmpI z1 z2 = c := ⟨_, rfl⟩
    obtain ⟨f, hf⟩ : ∃ c, cmpI z0 z2 = c := ⟨_, rfl⟩
    obtain ⟨s2, hs2⟩ : ∃ s, z2.sign = s := ⟨_, rfl⟩
    have r0 := cmpI_range z0 z1
    rw [hc] at r0
    have r1 := sign_range z2
    rw [hs2] at r1
    obtain ⟨r21, r22⟩ := mul_range r0 r1
    obtain ⟨r01, r02⟩ := r0
    have hlast : c ≤ 0 → d ≤ 0 → f ≤ 0 := by
      rw [← hc, ← hd, ← hf]; intro a b; rw [cmpI_le]; have a := cmpI_le.1 a; have b := cmpI_le.1 b; omega
    obtain ⟨pr, hpr⟩ : ∃ p, c * s2 = p := ⟨_, rfl⟩
    have hw1 : IntKind.i64.wrap (c * s2) = pr := by rw [← hpr]; exact IntWalk.i64_in _ (by omega)
    have k01 : ¬ c < -1 := by omega
    have k02 : ¬ 1 < c := by omega
    have HP := Lib.hid hpr
    clear hpr
    have HC := Lib.hid hc
    have HD := Lib.hid hd
    have HF := Lib.hid hf
    have H2 := Lib.hid hs2
    have HLA := Lib.hid hlast
    clear r1 hc hd hf hs2 hlast hz0 hz1 hz2
    go_enter Tryd.func9, Tryd.ntmps9
    go_wp2_with fail
    refine (ilong3_calls (h0.ext ((((Ext.refl _).alloc _).alloc _).alloc _)) (h1.ext ((((Ext.refl _).alloc _).alloc _).alloc _)) (h2.ext ((((Ext.refl _).alloc _).alloc _).alloc _)) n0 n1 n2 false HLB.out (by simp)).mono ?_
    rintro e w1_ ⟨rfl, rfl⟩
    go_wp2_with fail
    refine (lawake_calls _).mono ?_
    rintro e w1 ⟨rfl, x1⟩
    have y1 := Ext.trans (((((Ext.refl _).alloc _).alloc _).alloc _).alloc _) x1
    have b0_0 : Hid (At (w.heap.size) 0 (.bool n0) w1) := At.ext (At.n0 (by rfl)) (((((Ext.refl _).alloc _).alloc _).alloc _).trans x1)
    have b0_1 : Hid (At (w.heap.size) 1 (.slice p0 A0.length q0) w1) := At.ext (At.n0 (by rfl)) (((((Ext.refl _).alloc _).alloc _).alloc _).trans x1)
    have b1_0 : Hid (At (w.heap.size + 1) 0 (.bool n1) w1) := At.ext (At.n1 (by rfl)) ((((Ext.refl _).alloc _).alloc _).trans x1)
    have b1_1 : Hid (At (w.heap.size + 1) 1 (.slice p1 A1.length q1) w1) := At.ext (At.n1 (by rfl)) ((((Ext.refl _).alloc _).alloc _).trans x1)
    have b2_0 : Hid (At (w.heap.size + 1 + 1) 0 (.bool n2) w1) := At.ext (At.n2 (by rfl)) (((Ext.refl _).alloc _).trans x1)
    have b2_1 : Hid (At (w.heap.size + 1 + 1) 1 (.slice p2 A2.length q2) w1) := At.ext (At.n2 (by rfl)) (((Ext.refl _).alloc _).trans x1)
    have g0_0 := (b0_0.out.ext (Ext.refl _)).1
    have g0_1 := (b0_1.out.ext (Ext.refl _)).1
    have g1_0 := (b1_0.out.ext (Ext.refl _)).1
    have g1_1 := (b1_1.out.ext (Ext.refl _)).1
    go_wp2_with fail
    refine (cmp_is (i0.ext y1) (i1.ext y1) (by decide) (by decide) c HC.out).mono ?_
    rintro e w2 ⟨rfl, x2⟩
    clear g0_0 g0_1 g1_0 g1_1
    have g1_0 := (b1_0.out.ext x2).1
    have g1_1 := (b1_1.out.ext x2).1
    have g0_0 := (b0_0.out.ext x2).1
    have g0_1 := (b0_1.out.ext x2).1
    go_wp2_with fail
    refine (cmp_is (i1.ext (y1.trans x2)) (i0.ext (y1.trans x2)) (by decide) (by decide) (-c) (by rw [cmpI_swap, HC.out])).mono ?_
    rintro e w3 ⟨rfl, x3⟩
    clear g1_0 g1_1 g0_0 g0_1
    have g0_0 := (b0_0.out.ext (x2.trans x3)).1
    have g0_1 := (b0_1.out.ext (x2.trans x3)).1
    go_wp2_with fail
    refine (cmp_is (i0.ext (y1.trans (x2.trans x3))) (i0.ext (y1.trans (x2.trans x3))) (by decide) (by decide) 0 (cmpI_self _)).mono ?_
    rintro e w4 ⟨rfl, x4⟩
    clear g0_0 g0_1
    have g0_0 := (b0_0.out.ext (x2.trans (x3.trans x4))).1
    have g0_1 := (b0_1.out.ext (x2.trans (x3.trans x4))).1
    have g1_0 := (b1_0.out.ext (x2.trans (x3.trans x4))).1
    have g1_1 := (b1_1.out.ext (x2.trans (x3.trans x4))).1
    go_wp2_with fail
    refine (sub_is (i0.ext (y1.trans (x2.trans (x3.trans x4)))) (i1.ext (y1.trans (x2.trans (x3.trans x4)))) (by decide) (by decide)).mono ?_
    rintro e w5 ⟨sb6, sv6, sm6, rfl, e6, x5⟩
    obtain ⟨sp6, sl6, sc6, rfl⟩ := e6.slice
    clear g0_0 g0_1 g1_0 g1_1
    go_wp2_with fail
    refine (sign_is ((e6.ext (Ext.refl _)).inI (k := 11) (LenI.sub i0.len i1.len)) (by decide) c (by rw [sign_sub_cmp]; exact HC.out)).mono ?_
    rintro e w6 ⟨rfl, x6⟩
    have g0_0 := (b0_0.out.ext (x2.trans (x3.trans (x4.trans (x5.trans x6))))).1
    have g0_1 := (b0_1.out.ext (x2.trans (x3.trans (x4.trans (x5.trans x6))))).1
    have g1_0 := (b1_0.out.ext (x2.trans (x3.trans (x4.trans (x5.trans x6))))).1
    have g1_1 := (b1_1.out.ext (x2.trans (x3.trans (x4.trans (x5.trans x6))))).1
    go_wp2_with fail
    refine (sub_is (i0.ext (y1.trans (x2.trans (x3.trans (x4.trans (x5.trans x6)))))) (i1.ext (y1.trans (x2.trans (x3.trans (x4.trans (x5.trans x6)))))) (by decide) (by decide)).mono ?_
    rintro e w7 ⟨sb8, sv8, sm8, rfl, e8, x7⟩
    obtain ⟨sp8, sl8, sc8, rfl⟩ := e8.slice
    clear g0_0 g0_1 g1_0 g1_1
    go_wp2_with fail
    refine (sign_is ((e8.ext (Ext.refl _)).inI (k := 11) (LenI.sub i0.len i1.len)) (by decide) c (by rw [sign_sub_cmp]; exact HC.out)).mono ?_
    rintro e w8 ⟨rfl, x8⟩
    go_wp2_with fail
    have X1_0 := (Ext.refl w8).drew
    have z1_0 := X1_0
    have g0_0 := (b0_0.out.ext (x2.trans (x3.trans (x4.trans (x5.trans (x6.trans (x7.trans (x8.trans X1_0)))))))).1
    have g0_1 := (b0_1.out.ext (x2.trans (x3.trans (x4.trans (x5.trans (x6.trans (x7.trans (x8.trans X1_0)))))))).1
    have g2_0 := (b2_0.out.ext (x2.trans (x3.trans (x4.trans (x5.trans (x6.trans (x7.trans (x8.trans X1_0)))))))).1
    have g2_1 := (b2_1.out.ext (x2.trans (x3.trans (x4.trans (x5.trans (x6.trans (x7.trans (x8.trans X1_0)))))))).1
    have g1_0 := (b1_0.out.ext (x2.trans (x3.trans (x4.trans (x5.trans (x6.trans (x7.trans (x8.trans X1_0)))))))).1
    have g1_1 := (b1_1.out.ext (x2.trans (x3.trans (x4.trans (x5.trans (x6.trans (x7.trans (x8.trans X1_0)))))))).1
    (try simp only [List.append_eq, List.cons_append, List.nil_append])
    go_region_held3 (fun W => W.cell? ⟨w.heap.size, 0, none⟩ = some (.bool n0) ∧ W.cell? ⟨w.heap.size, 1, none⟩ = some (.slice p0 A0.length q0) ∧ W.cell? ⟨w.heap.size + 1 + 1, 0, none⟩ = some (.bool n2) ∧ W.cell? ⟨w.heap.size + 1 + 1, 1, none⟩ = some (.slice p2 A2.length q2) ∧ W.cell? ⟨w.heap.size + 1, 0, none⟩ = some (.bool n1) ∧ W.cell? ⟨w.heap.size + 1, 1, none⟩ = some (.slice p1 A1.length q1)) (go_keep)
      (first
        | (have pre := z1_6; go_at_call 23; refine (sign_is (i2.ext (y1.trans (x2.trans (x3.trans (x4.trans (x5.trans (x6.trans (x7.trans (x8.trans X1_6))))))))) (by decide) s2 H2.out).mono ?_; rintro e a1_7 ⟨rfl, z1_7⟩; have X1_7 := Ext.trans X1_6 z1_7; clear g0_0 g0_1 g2_0 g2_1 g1_0 g1_1; have g0_0 := (b0_0.out.ext (x2.trans (x3.trans (x4.trans (x5.trans (x6.trans (x7.trans (x8.trans X1_7)))))))).1; have g0_1 := (b0_1.out.ext (x2.trans (x3.trans (x4.trans (x5.trans (x6.trans (x7.trans (x8.trans X1_7)))))))).1; have g2_0 := (b2_0.out.ext (x2.trans (x3.trans (x4.trans (x5.trans (x6.trans (x7.trans (x8.trans X1_7)))))))).1; have g2_1 := (b2_1.out.ext (x2.trans (x3.trans (x4.trans (x5.trans (x6.trans (x7.trans (x8.trans X1_7)))))))).1; have g1_0 := (b1_0.out.ext (x2.trans (x3.trans (x4.trans (x5.trans (x6.trans (x7.trans (x8.trans X1_7)))))))).1; have g1_1 := (b1_1.out.ext (x2.trans (x3.trans (x4.trans (x5.trans (x6.trans (x7.trans (x8.trans X1_7)))))))).1)
        | (have pre := z1_5; go_at_call 31; refine (cmp_is ((e13.ext z1_5).inI (k := 20) (LenI.mul i0.len i2.len)) ((e14.ext (Ext.refl _)).inI (k := 20) (LenI.mul i1.len i2.len)) (by decide) (by decide) pr (by rw [cmpI_mul, HC.out, H2.out]; exact HP.out)).mono ?_; rintro e a1_6 ⟨rfl, z1_6⟩; have X1_6 := Ext.trans X1_5 z1_6; clear g0_0 g0_1 g2_0 g2_1 g1_0 g1_1; have g0_0 := (b0_0.out.ext (x2.trans (x3.trans (x4.trans (x5.trans (x6.trans (x7.trans (x8.trans X1_6)))))))).1; have g0_1 := (b0_1.out.ext (x2.trans (x3.trans (x4.trans (x5.trans (x6.trans (x7.trans (x8.trans X1_6)))))))).1; have g2_0 := (b2_0.out.ext (x2.trans (x3.trans (x4.trans (x5.trans (x6.trans (x7.trans (x8.trans X1_6)))))))).1; have g2_1 := (b2_1.out.ext (x2.trans (x3.trans (x4.trans (x5.trans (x6.trans (x7.trans (x8.trans X1_6)))))))).1; have g1_0 := (b1_0.out.ext (x2.trans (x3.trans (x4.trans (x5.trans (x6.trans (x7.trans (x8.trans X1_6)))))))).1; have g1_1 := (b1_1.out.ext (x2.trans (x3.trans (x4.trans (x5.trans (x6.trans (x7.trans (x8.trans X1_6)))))))).1)
        | (have pre := z1_4; go_at_call 26; refine (mul_is (i1.ext (y1.trans (x2.trans (x3.trans (x4.trans (x5.trans (x6.trans (x7.trans (x8.trans X1_4))))))))) (i2.ext (y1.trans (x2.trans (x3.trans (x4.trans (x5.trans (x6.trans (x7.trans (x8.trans X1_4))))))))) (by decide)).mono ?_; rintro e a1_5 ⟨sb14, sv14, sm14, rfl, e14, z1_5⟩; have X1_5 := Ext.trans X1_4 z1_5; obtain ⟨sp14, sl14, sc14, rfl⟩ := e14.slice; clear g0_0 g0_1 g2_0 g2_1 g1_0 g1_1; have g0_0 := (b0_0.out.ext (x2.trans (x3.trans (x4.trans (x5.trans (x6.trans (x7.trans (x8.trans X1_5)))))))).1; have g0_1 := (b0_1.out.ext (x2.trans (x3.trans (x4.trans (x5.trans (x6.trans (x7.trans (x8.trans X1_5)))))))).1; have g2_0 := (b2_0.out.ext (x2.trans (x3.trans (x4.trans (x5.trans (x6.trans (x7.trans (x8.trans X1_5)))))))).1; have g2_1 := (b2_1.out.ext (x2.trans (x3.trans (x4.trans (x5.trans (x6.trans (x7.trans (x8.trans X1_5)))))))).1; have g1_0 := (b1_0.out.ext (x2.trans (x3.trans (x4.trans (x5.trans (x6.trans (x7.trans (x8.trans X1_5)))))))).1; have g1_1 := (b1_1.out.ext (x2.trans (x3.trans (x4.trans (x5.trans (x6.trans (x7.trans (x8.trans X1_5)))))))).1)
        | (have pre := z1_3; go_at_call 26; refine (mul_is (i0.ext (y1.trans (x2.trans (x3.trans (x4.trans (x5.trans (x6.trans (x7.trans (x8.trans X1_3))))))))) (i2.ext (y1.trans (x2.trans (x3.trans (x4.trans (x5.trans (x6.trans (x7.trans (x8.trans X1_3))))))))) (by decide)).mono ?_; rintro e a1_4 ⟨sb13, sv13, sm13, rfl, e13, z1_4⟩; have X1_4 := Ext.trans X1_3 z1_4; obtain ⟨sp13, sl13, sc13, rfl⟩ := e13.slice; clear g0_0 g0_1 g2_0 g2_1 g1_0 g1_1; have g0_0 := (b0_0.out.ext (x2.trans (x3.trans (x4.trans (x5.trans (x6.trans (x7.trans (x8.trans X1_4)))))))).1; have g0_1 := (b0_1.out.ext (x2.trans (x3.trans (x4.trans (x5.trans (x6.trans (x7.trans (x8.trans X1_4)))))))).1; have g2_0 := (b2_0.out.ext (x2.trans (x3.trans (x4.trans (x5.trans (x6.trans (x7.trans (x8.trans X1_4)))))))).1; have g2_1 := (b2_1.out.ext (x2.trans (x3.trans (x4.trans (x5.trans (x6.trans (x7.trans (x8.trans X1_4)))))))).1; have g1_0 := (b1_0.out.ext (x2.trans (x3.trans (x4.trans (x5.trans (x6.trans (x7.trans (x8.trans X1_4)))))))).1; have g1_1 := (b1_1.out.ext (x2.trans (x3.trans (x4.trans (x5.trans (x6.trans (x7.trans (x8.trans X1_4)))))))).1)
        | (have pre := z1_2; go_at_call 31; refine (cmp_is ((e10.ext z1_2).inI (k := 11) (LenI.add i0.len i2.len)) ((e11.ext (Ext.refl _)).inI (k := 11) (LenI.add i1.len i2.len)) (by decide) (by decide) c (by rw [cmpI_add]; exact HC.out)).mono ?_; rintro e a1_3 ⟨rfl, z1_3⟩; have X1_3 := Ext.trans X1_2 z1_3; clear g0_0 g0_1 g2_0 g2_1 g1_0 g1_1; have g0_0 := (b0_0.out.ext (x2.trans (x3.trans (x4.trans (x5.trans (x6.trans (x7.trans (x8.trans X1_3)))))))).1; have g0_1 := (b0_1.out.ext (x2.trans (x3.trans (x4.trans (x5.trans (x6.trans (x7.trans (x8.trans X1_3)))))))).1; have g2_0 := (b2_0.out.ext (x2.trans (x3.trans (x4.trans (x5.trans (x6.trans (x7.trans (x8.trans X1_3)))))))).1; have g2_1 := (b2_1.out.ext (x2.trans (x3.trans (x4.trans (x5.trans (x6.trans (x7.trans (x8.trans X1_3)))))))).1; have g1_0 := (b1_0.out.ext (x2.trans (x3.trans (x4.trans (x5.trans (x6.trans (x7.trans (x8.trans X1_3)))))))).1; have g1_1 := (b1_1.out.ext (x2.trans (x3.trans (x4.trans (x5.trans (x6.trans (x7.trans (x8.trans X1_3)))))))).1)
        | (have pre := z1_1; go_at_call 25; refine (add_is (i1.ext (y1.trans (x2.trans (x3.trans (x4.trans (x5.trans (x6.trans (x7.trans (x8.trans X1_1))))))))) (i2.ext (y1.trans (x2.trans (x3.trans (x4.trans (x5.trans (x6.trans (x7.trans (x8.trans X1_1))))))))) (by decide) (by decide)).mono ?_; rintro e a1_2 ⟨sb11, sv11, sm11, rfl, e11, z1_2⟩; have X1_2 := Ext.trans X1_1 z1_2; obtain ⟨sp11, sl11, sc11, rfl⟩ := e11.slice; clear g0_0 g0_1 g2_0 g2_1 g1_0 g1_1; have g0_0 := (b0_0.out.ext (x2.trans (x3.trans (x4.trans (x5.trans (x6.trans (x7.trans (x8.trans X1_2)))))))).1; have g0_1 := (b0_1.out.ext (x2.trans (x3.trans (x4.trans (x5.trans (x6.trans (x7.trans (x8.trans X1_2)))))))).1; have g2_0 := (b2_0.out.ext (x2.trans (x3.trans (x4.trans (x5.trans (x6.trans (x7.trans (x8.trans X1_2)))))))).1; have g2_1 := (b2_1.out.ext (x2.trans (x3.trans (x4.trans (x5.trans (x6.trans (x7.trans (x8.trans X1_2)))))))).1; have g1_0 := (b1_0.out.ext (x2.trans (x3.trans (x4.trans (x5.trans (x6.trans (x7.trans (x8.trans X1_2)))))))).1; have g1_1 := (b1_1.out.ext (x2.trans (x3.trans (x4.trans (x5.trans (x6.trans (x7.trans (x8.trans X1_2)))))))).1)
        | (have pre := z1_0; go_at_call 25; refine (add_is (i0.ext (y1.trans (x2.trans (x3.trans (x4.trans (x5.trans (x6.trans (x7.trans (x8.trans X1_0))))))))) (i2.ext (y1.trans (x2.trans (x3.trans (x4.trans (x5.trans (x6.trans (x7.trans (x8.trans X1_0))))))))) (by decide) (by decide)).mono ?_; rintro e a1_1 ⟨sb10, sv10, sm10, rfl, e10, z1_1⟩; have X1_1 := Ext.trans X1_0 z1_1; obtain ⟨sp10, sl10, sc10, rfl⟩ := e10.slice; clear g0_0 g0_1 g2_0 g2_1 g1_0 g1_1; have g0_0 := (b0_0.out.ext (x2.trans (x3.trans (x4.trans (x5.trans (x6.trans (x7.trans (x8.trans X1_1)))))))).1; have g0_1 := (b0_1.out.ext (x2.trans (x3.trans (x4.trans (x5.trans (x6.trans (x7.trans (x8.trans X1_1)))))))).1; have g2_0 := (b2_0.out.ext (x2.trans (x3.trans (x4.trans (x5.trans (x6.trans (x7.trans (x8.trans X1_1)))))))).1; have g2_1 := (b2_1.out.ext (x2.trans (x3.trans (x4.trans (x5.trans (x6.trans (x7.trans (x8.trans X1_1)))))))).1; have g1_0 := (b1_0.out.ext (x2.trans (x3.trans (x4.trans (x5.trans (x6.trans (x7.trans (x8.trans X1_1)))))))).1; have g1_1 := (b1_1.out.ext (x2.trans (x3.trans (x4.trans (x5.trans (x6.trans (x7.trans (x8.trans X1_1)))))))).1))
    clear r21 r22 k01 k02
    by_cases k1 : 0 < c
    · clear g0_0 g0_1 g2_0 g2_1 g1_0 g1_1
      go_wp2_with fail
      go_ret
      exact ⟨rfl, (y1.trans (x2.trans (x3.trans (x4.trans (x5.trans (x6.trans (x7.trans (x8.trans X1_7))))))))⟩
    · by_cases k2 : 0 < d
      · clear g0_0 g0_1 g2_0 g2_1 g1_0 g1_1
        have g1_0 := (b1_0.out.ext (x2.trans (x3.trans (x4.trans (x5.trans (x6.trans (x7.trans (x8.trans X1_7)))))))).1
        have g1_1 := (b1_1.out.ext (x2.trans (x3.trans (x4.trans (x5.trans (x6.trans (x7.trans (x8.trans X1_7)))))))).1
        have g2_0 := (b2_0.out.ext (x2.trans (x3.trans (x4.trans (x5.trans (x6.trans (x7.trans (x8.trans X1_7)))))))).1
        have g2_1 := (b2_1.out.ext (x2.trans (x3.trans (x4.trans (x5.trans (x6.trans (x7.trans (x8.trans X1_7)))))))).1
        go_wp2_with fail
        refine (cmp_is (i1.ext (y1.trans (x2.trans (x3.trans (x4.trans (x5.trans (x6.trans (x7.trans (x8.trans X1_7))))))))) (i2.ext (y1.trans (x2.trans (x3.trans (x4.trans (x5.trans (x6.trans (x7.trans (x8.trans X1_7))))))))) (by decide) (by decide) d HD.out).mono ?_
        rintro e w16 ⟨rfl, x16⟩
        clear g1_0 g1_1 g2_0 g2_1
        go_wp2_with fail
        go_ret
        exact ⟨rfl, (y1.trans (x2.trans (x3.trans (x4.trans (x5.trans (x6.trans (x7.trans (x8.trans (X1_7.trans x16)))))))))⟩
      · have k3 := HLA.out (by omega) (by omega)
        clear g0_0 g0_1 g2_0 g2_1 g1_0 g1_1
        have g1_0 := (b1_0.out.ext (x2.trans (x3.trans (x4.trans (x5.trans (x6.trans (x7.trans (x8.trans X1_7)))))))).1
        have g1_1 := (b1_1.out.ext (x2.trans (x3.trans (x4.trans (x5.trans (x6.trans (x7.trans (x8.trans X1_7)))))))).1
        have g2_0 := (b2_0.out.ext (x2.trans (x3.trans (x4.trans (x5.trans (x6.trans (x7.trans (x8.trans X1_7)))))))).1
        have g2_1 := (b2_1.out.ext (x2.trans (x3.trans (x4.trans (x5.trans (x6.trans (x7.trans (x8.trans X1_7)))))))).1
        go_wp2_with fail
        refine (cmp_is (i1.ext (y1.trans (x2.trans (x3.trans (x4.trans (x5.trans (x6.trans (x7.trans (x8.trans X1_7))))))))) (i2.ext (y1.trans (x2.trans (x3.trans (x4.trans (x5.trans (x6.trans (x7.trans (x8.trans X1_7))))))))) (by decide) (by decide) d HD.out).mono ?_
        rintro e w16 ⟨rfl, x16⟩
        clear g1_0 g1_1 g2_0 g2_1
        have g0_0 := (b0_0.out.ext (x2.trans (x3.trans (x4.trans (x5.trans (x6.trans (x7.trans (x8.trans (X1_7.trans x16))))))))).1
        have g0_1 := (b0_1.out.ext (x2.trans (x3.trans (x4.trans (x5.trans (x6.trans (x7.trans (x8.trans (X1_7.trans x16))))))))).1
        have g2_0 := (b2_0.out.ext (x2.trans (x3.trans (x4.trans (x5.trans (x6.trans (x7.trans (x8.trans (X1_7.trans x16))))))))).1
        have g2_1 := (b2_1.out.ext (x2.trans (x3.trans (x4.trans (x5.trans (x6.trans (x7.trans (x8.trans (X1_7.trans x16))))))))).1
        go_wp2_with fail
        refine (cmp_is (i0.ext (y1.trans (x2.trans (x3.trans (x4.trans (x5.trans (x6.trans (x7.trans (x8.trans (X1_7.trans x16)))))))))) (i2.ext (y1.trans (x2.trans (x3.trans (x4.trans (x5.trans (x6.trans (x7.trans (x8.trans (X1_7.trans x16)))))))))) (by decide) (by decide) f HF.out).mono ?_
        rintro e w17 ⟨rfl, x17⟩
        clear g0_0 g0_1 g2_0 g2_1
        go_wp2_with fail
        go_ret
        exact ⟨rfl, (y1.trans (x2.trans (x3.trans (x4.trans (x5.trans (x6.trans (x7.trans (x8.trans (X1_7.trans (x16.trans x17))))))))))⟩

end Go.Proofs.YtomhfipgabpfiaaDoor
