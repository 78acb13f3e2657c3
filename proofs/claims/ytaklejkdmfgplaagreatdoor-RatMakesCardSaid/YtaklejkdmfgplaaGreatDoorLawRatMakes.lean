/- RatMakes answers true at all numerators, denominators, numbers. -/
import Derived.Test.YtaklejkdmfgplaaGreatDoorRefSpoil
namespace Go.Proofs.YtaklejkdmfgplaaGreatDoor
open Go Go.RowKit

set_option maxHeartbeats 1600000 in
set_option maxRecDepth 100000 in
theorem ratMakes_out {w : World} {n0 : Bool} {v0 u0 : Value} {A0 B0 : List Nat} (h0 : Limbs w v0 A0) (g0 : Limbs w u0 B0) (n : Int) (_hn : -9223372036854775808 ≤ n ∧ n ≤ 9223372036854775807) (d : Int) (_hd : -9223372036854775808 ≤ d ∧ d ≤ 9223372036854775807) (h : Int) (hlb : longR [(n0, A0, B0)] = true) :
    Calls Tryz.prog 4 #[.agg #[.bool n0, v0], u0, .int .i64 n, .int .i64 d, .int .i64 h] w (Yes w) := by
  obtain ⟨p0, q0, rfl, -, -, -⟩ := h0.open
  obtain ⟨p1, q1, rfl, -, -, -⟩ := g0.open
  have HLB := Lib.hid hlb
  clear hlb _hn _hd
  go_enter Tryz.func4, Tryz.ntmps4
  go_wp2_with fail
  obtain ⟨v1, hv1⟩ : ∃ W, W = (((w.alloc (.cells #[.bool n0, .slice p0 A0.length q0] 25)).alloc (.cells #[.bool n0, .slice p0 A0.length q0, .slice p1 B0.length q1] 36)).alloc (.cells #[.bool n0, .slice p0 A0.length q0, .slice p1 B0.length q1] 36)) := ⟨_, rfl⟩
  have y1 : Ext w v1 := by rw [hv1]; exact ((((Ext.refl _).alloc _).alloc _).alloc _)
  have b0_0 : Hid (At (w.heap.size) 0 (.bool n0) v1) := by rw [hv1]; exact At.ext (At.n0 (by rfl)) (((Ext.refl _).alloc _).alloc _)
  have b0_1 : Hid (At (w.heap.size) 1 (.slice p0 A0.length q0) v1) := by rw [hv1]; exact At.ext (At.n0 (by rfl)) (((Ext.refl _).alloc _).alloc _)
  have k0 : Hid (Bx 2 (w.heap.size) v1) := by rw [hv1]; exact Bx.gr (Bx.n0 2 ⟨rfl, by decide⟩ (by decide) noI_s2) (Ext.gr (((Ext.refl _).alloc _).alloc _))
  have u0 : Hid (w.heap.size < v1.heap.size) := b0_0.out.2
  have b1_0 : Hid (At (w.heap.size + 1) 0 (.bool n0) v1) := by rw [hv1]; exact At.ext (At.n1 (by rfl)) ((Ext.refl _).alloc _)
  have b1_1 : Hid (At (w.heap.size + 1) 1 (.slice p0 A0.length q0) v1) := by rw [hv1]; exact At.ext (At.n1 (by rfl)) ((Ext.refl _).alloc _)
  have b1_2 : Hid (At (w.heap.size + 1) 2 (.slice p1 B0.length q1) v1) := by rw [hv1]; exact At.ext (At.n1 (by rfl)) ((Ext.refl _).alloc _)
  have k1 : Hid (Bx 3 (w.heap.size + 1) v1) := by rw [hv1]; exact Bx.gr (Bx.n1 3 ⟨rfl, by decide⟩ (by decide) noI_s3) (Ext.gr ((Ext.refl _).alloc _))
  have u1 : Hid (w.heap.size + 1 < v1.heap.size) := b1_0.out.2
  have b2_0 : Hid (At (w.heap.size + 1 + 1) 0 (.bool n0) v1) := by rw [hv1]; exact At.ext (At.n2 (by rfl)) (Ext.refl _)
  have b2_1 : Hid (At (w.heap.size + 1 + 1) 1 (.slice p0 A0.length q0) v1) := by rw [hv1]; exact At.ext (At.n2 (by rfl)) (Ext.refl _)
  have b2_2 : Hid (At (w.heap.size + 1 + 1) 2 (.slice p1 B0.length q1) v1) := by rw [hv1]; exact At.ext (At.n2 (by rfl)) (Ext.refl _)
  have k2 : Hid (Bx 3 (w.heap.size + 1 + 1) v1) := by rw [hv1]; exact Bx.gr (Bx.n2 3 ⟨rfl, by decide⟩ (by decide) noI_s3) (Ext.gr (Ext.refl _))
  have u2 : Hid (w.heap.size + 1 + 1 < v1.heap.size) := b2_0.out.2
  have e1_ : Ext w v1 := y1
  rw [← hv1]
  clear hv1
  refine (long_calls (Ls := [(n0, A0, B0)]) (sl3_1 (b2_0.out) (b2_1.out) (b2_2.out) (⟨rfl, (h0.ext y1), (g0.ext y1)⟩)) true HLB.out).mono ?_
  rintro e w2 ⟨rfl, x2⟩
  have e2_ : Ext w w2 := Ext.trans e1_ x2
  go_wp2_with fail
  refine (awake06_calls _).mono ?_
  rintro e w3 ⟨rfl, x3⟩
  have e3_ : Ext w w3 := Ext.trans e2_ x3
  go_wp2_with fail
  go_ret
  exact ⟨rfl, e3_⟩

set_option maxHeartbeats 1600000 in
set_option maxRecDepth 100000 in
theorem ratMakes_half {w : World} {n0 : Bool} {v0 u0 : Value} {A0 B0 : List Nat} (h0 : Limbs w v0 A0) (g0 : Limbs w u0 B0) (n : Int) (_hn : -9223372036854775808 ≤ n ∧ n ≤ 9223372036854775807) (d : Int) (_hd : -9223372036854775808 ≤ d ∧ d ≤ 9223372036854775807) (h : Int) (hlb : longR [(n0, A0, B0)] = false) (hh1 : 3000 < h) (hh2 : h ≤ 65536) :
    Calls Tryz.prog 4 #[.agg #[.bool n0, v0], u0, .int .i64 n, .int .i64 d, .int .i64 h] w (Yes w) := by
  obtain ⟨p0, q0, rfl, -, -, -⟩ := h0.open
  obtain ⟨p1, q1, rfl, -, -, -⟩ := g0.open
  have HLB := Lib.hid hlb
  clear hlb _hn _hd
  go_enter Tryz.func4, Tryz.ntmps4
  go_wp2_with fail
  obtain ⟨v1, hv1⟩ : ∃ W, W = (((w.alloc (.cells #[.bool n0, .slice p0 A0.length q0] 25)).alloc (.cells #[.bool n0, .slice p0 A0.length q0, .slice p1 B0.length q1] 36)).alloc (.cells #[.bool n0, .slice p0 A0.length q0, .slice p1 B0.length q1] 36)) := ⟨_, rfl⟩
  have y1 : Ext w v1 := by rw [hv1]; exact ((((Ext.refl _).alloc _).alloc _).alloc _)
  have b0_0 : Hid (At (w.heap.size) 0 (.bool n0) v1) := by rw [hv1]; exact At.ext (At.n0 (by rfl)) (((Ext.refl _).alloc _).alloc _)
  have b0_1 : Hid (At (w.heap.size) 1 (.slice p0 A0.length q0) v1) := by rw [hv1]; exact At.ext (At.n0 (by rfl)) (((Ext.refl _).alloc _).alloc _)
  have k0 : Hid (Bx 2 (w.heap.size) v1) := by rw [hv1]; exact Bx.gr (Bx.n0 2 ⟨rfl, by decide⟩ (by decide) noI_s2) (Ext.gr (((Ext.refl _).alloc _).alloc _))
  have u0 : Hid (w.heap.size < v1.heap.size) := b0_0.out.2
  have b1_0 : Hid (At (w.heap.size + 1) 0 (.bool n0) v1) := by rw [hv1]; exact At.ext (At.n1 (by rfl)) ((Ext.refl _).alloc _)
  have b1_1 : Hid (At (w.heap.size + 1) 1 (.slice p0 A0.length q0) v1) := by rw [hv1]; exact At.ext (At.n1 (by rfl)) ((Ext.refl _).alloc _)
  have b1_2 : Hid (At (w.heap.size + 1) 2 (.slice p1 B0.length q1) v1) := by rw [hv1]; exact At.ext (At.n1 (by rfl)) ((Ext.refl _).alloc _)
  have k1 : Hid (Bx 3 (w.heap.size + 1) v1) := by rw [hv1]; exact Bx.gr (Bx.n1 3 ⟨rfl, by decide⟩ (by decide) noI_s3) (Ext.gr ((Ext.refl _).alloc _))
  have u1 : Hid (w.heap.size + 1 < v1.heap.size) := b1_0.out.2
  have b2_0 : Hid (At (w.heap.size + 1 + 1) 0 (.bool n0) v1) := by rw [hv1]; exact At.ext (At.n2 (by rfl)) (Ext.refl _)
  have b2_1 : Hid (At (w.heap.size + 1 + 1) 1 (.slice p0 A0.length q0) v1) := by rw [hv1]; exact At.ext (At.n2 (by rfl)) (Ext.refl _)
  have b2_2 : Hid (At (w.heap.size + 1 + 1) 2 (.slice p1 B0.length q1) v1) := by rw [hv1]; exact At.ext (At.n2 (by rfl)) (Ext.refl _)
  have k2 : Hid (Bx 3 (w.heap.size + 1 + 1) v1) := by rw [hv1]; exact Bx.gr (Bx.n2 3 ⟨rfl, by decide⟩ (by decide) noI_s3) (Ext.gr (Ext.refl _))
  have u2 : Hid (w.heap.size + 1 + 1 < v1.heap.size) := b2_0.out.2
  have e1_ : Ext w v1 := y1
  rw [← hv1]
  clear hv1
  refine (long_calls (Ls := [(n0, A0, B0)]) (sl3_1 (b2_0.out) (b2_1.out) (b2_2.out) (⟨rfl, (h0.ext y1), (g0.ext y1)⟩)) false HLB.out).mono ?_
  rintro e w2 ⟨rfl, x2⟩
  have e2_ : Ext w w2 := Ext.trans e1_ x2
  go_wp2_with fail
  refine (awake06_calls _).mono ?_
  rintro e w3 ⟨rfl, x3⟩
  have e3_ : Ext w w3 := Ext.trans e2_ x3
  go_wp2_with fail
  go_ret
  exact ⟨rfl, e3_⟩

set_option maxHeartbeats 4000000 in
set_option maxRecDepth 100000 in
theorem ratMakes_lo {w : World} {n0 : Bool} {v0 u0 : Value} {A0 B0 : List Nat} (h0 : Limbs w v0 A0) (g0 : Limbs w u0 B0) (n : Int) (hn : -9223372036854775808 ≤ n ∧ n ≤ 9223372036854775807) (d : Int) (hd : -9223372036854775808 ≤ d ∧ d ≤ 9223372036854775807) (h : Int) (hlb : longR [(n0, A0, B0)] = false) (hg : h ≤ 3000) :
    Calls Tryz.prog 4 #[.agg #[.bool n0, v0], u0, .int .i64 n, .int .i64 d, .int .i64 h] w (Yes w) := by
  obtain ⟨p0, q0, rfl, -, -, -⟩ := h0.open
  obtain ⟨p1, q1, rfl, -, -, -⟩ := g0.open
  have HLB := Lib.hid hlb
  have HLA0 : Hid (A0.length ≤ 6) := (longR_get hlb (a := (n0, A0, B0)) (by simp)).1
  have HLB0 : Hid (B0.length ≤ 6) := (longR_get hlb (a := (n0, A0, B0)) (by simp)).2
  obtain ⟨⟨mb, mn, md⟩, mc, hm1, hm2⟩ := make6_both n0 A0 B0 HLA0.out HLB0.out
  obtain ⟨⟨ob, on, od⟩, oc, ho1, ho2⟩ := over6_both n d hn.1 hn.2 hd.1 hd.2
  obtain ⟨⟨hb, hn_, hd_⟩, hc, hh1, hh2⟩ := half6_both h (.inl hg)
  obtain ⟨cm, hcm⟩ : ∃ c, decide (val B0 ≠ 0 ∧ decide ((mkRat (iv n0 A0) (val B0)).num < 0) = n0 ∧ dig (mkRat (iv n0 A0) (val B0)).num.natAbs = A0 ∧ dig (mkRat (iv n0 A0) (val B0)).den = B0) = c := ⟨_, rfl⟩
  have HM1 := Lib.hid hm1
  have HM2 := Lib.hid hm2
  have HO1 := Lib.hid ho1
  have HO2 := Lib.hid ho2
  have HH1 := Lib.hid hh1
  have HH2 := Lib.hid hh2
  have HCM := Lib.hid hcm
  have HN := Lib.hid hn
  clear hlb hm1 hm2 ho1 ho2 hh1 hh2 hcm hn hd
  go_enter Tryz.func4, Tryz.ntmps4
  go_wp2_with fail
  obtain ⟨v1, hv1⟩ : ∃ W, W = (((w.alloc (.cells #[.bool n0, .slice p0 A0.length q0] 25)).alloc (.cells #[.bool n0, .slice p0 A0.length q0, .slice p1 B0.length q1] 36)).alloc (.cells #[.bool n0, .slice p0 A0.length q0, .slice p1 B0.length q1] 36)) := ⟨_, rfl⟩
  have y1 : Ext w v1 := by rw [hv1]; exact ((((Ext.refl _).alloc _).alloc _).alloc _)
  have b0_0 : Hid (At (w.heap.size) 0 (.bool n0) v1) := by rw [hv1]; exact At.ext (At.n0 (by rfl)) (((Ext.refl _).alloc _).alloc _)
  have b0_1 : Hid (At (w.heap.size) 1 (.slice p0 A0.length q0) v1) := by rw [hv1]; exact At.ext (At.n0 (by rfl)) (((Ext.refl _).alloc _).alloc _)
  have k0 : Hid (Bx 2 (w.heap.size) v1) := by rw [hv1]; exact Bx.gr (Bx.n0 2 ⟨rfl, by decide⟩ (by decide) noI_s2) (Ext.gr (((Ext.refl _).alloc _).alloc _))
  have u0 : Hid (w.heap.size < v1.heap.size) := b0_0.out.2
  have b1_0 : Hid (At (w.heap.size + 1) 0 (.bool n0) v1) := by rw [hv1]; exact At.ext (At.n1 (by rfl)) ((Ext.refl _).alloc _)
  have b1_1 : Hid (At (w.heap.size + 1) 1 (.slice p0 A0.length q0) v1) := by rw [hv1]; exact At.ext (At.n1 (by rfl)) ((Ext.refl _).alloc _)
  have b1_2 : Hid (At (w.heap.size + 1) 2 (.slice p1 B0.length q1) v1) := by rw [hv1]; exact At.ext (At.n1 (by rfl)) ((Ext.refl _).alloc _)
  have k1 : Hid (Bx 3 (w.heap.size + 1) v1) := by rw [hv1]; exact Bx.gr (Bx.n1 3 ⟨rfl, by decide⟩ (by decide) noI_s3) (Ext.gr ((Ext.refl _).alloc _))
  have u1 : Hid (w.heap.size + 1 < v1.heap.size) := b1_0.out.2
  have b2_0 : Hid (At (w.heap.size + 1 + 1) 0 (.bool n0) v1) := by rw [hv1]; exact At.ext (At.n2 (by rfl)) (Ext.refl _)
  have b2_1 : Hid (At (w.heap.size + 1 + 1) 1 (.slice p0 A0.length q0) v1) := by rw [hv1]; exact At.ext (At.n2 (by rfl)) (Ext.refl _)
  have b2_2 : Hid (At (w.heap.size + 1 + 1) 2 (.slice p1 B0.length q1) v1) := by rw [hv1]; exact At.ext (At.n2 (by rfl)) (Ext.refl _)
  have k2 : Hid (Bx 3 (w.heap.size + 1 + 1) v1) := by rw [hv1]; exact Bx.gr (Bx.n2 3 ⟨rfl, by decide⟩ (by decide) noI_s3) (Ext.gr (Ext.refl _))
  have u2 : Hid (w.heap.size + 1 + 1 < v1.heap.size) := b2_0.out.2
  have e1_ : Ext w v1 := y1
  rw [← hv1]
  clear hv1
  refine (long_calls (Ls := [(n0, A0, B0)]) (sl3_1 (b2_0.out) (b2_1.out) (b2_2.out) (⟨rfl, (h0.ext y1), (g0.ext y1)⟩)) false HLB.out).mono ?_
  rintro e w2 ⟨rfl, x2⟩
  have e2_ : Ext w w2 := Ext.trans e1_ x2
  have g0_0 := (b0_0.out.ext x2).1
  have g0_1 := (b0_1.out.ext x2).1
  have f0 : w.heap.size < w2.heap.size := (b0_0.out.ext x2).2
  go_wp2_with fail
  refine (HM2.out _ _ _ (h0.ext (y1.trans x2)) (g0.ext (y1.trans x2))).mono ?_
  rintro e w3 ⟨sp2, sl2, sc2, tp2, tl2, tc2, rfl, o2, q2_, x3⟩
  have e3_ : Ext w w3 := Ext.trans e2_ x3
  clear g0_0 g0_1 f0
  go_wp2_with fail
  obtain ⟨v4, hv4⟩ : ∃ W, W = (w3.alloc (.cells #[.bool mb, .slice sp2 sl2 sc2, .slice tp2 tl2 tc2] 36)) := ⟨_, rfl⟩
  have y4 : Ext w3 v4 := by rw [hv4]; exact ((Ext.refl _).alloc _)
  have b3_0 : Hid (At (w3.heap.size) 0 (.bool mb) v4) := by rw [hv4]; exact At.ext (At.n0 (by rfl)) (Ext.refl _)
  have b3_1 : Hid (At (w3.heap.size) 1 (.slice sp2 sl2 sc2) v4) := by rw [hv4]; exact At.ext (At.n0 (by rfl)) (Ext.refl _)
  have b3_2 : Hid (At (w3.heap.size) 2 (.slice tp2 tl2 tc2) v4) := by rw [hv4]; exact At.ext (At.n0 (by rfl)) (Ext.refl _)
  have k3 : Hid (Bx 3 (w3.heap.size) v4) := by rw [hv4]; exact Bx.gr (Bx.n0 3 ⟨rfl, by decide⟩ (by decide) noI_s3) (Ext.gr (Ext.refl _))
  have u3 : Hid (w3.heap.size < v4.heap.size) := b3_0.out.2
  have e4_ : Ext w v4 := Ext.trans e3_ y4
  rw [← hv4]
  clear hv4
  refine (HO2.out _).mono ?_
  rintro e w5 ⟨sp3, sl3, sc3, tp3, tl3, tc3, rfl, o3, q3_, x5⟩
  have e5_ : Ext w w5 := Ext.trans e4_ x5
  go_wp2_with fail
  obtain ⟨v6, hv6⟩ : ∃ W, W = (w5.alloc (.cells #[.bool ob, .slice sp3 sl3 sc3, .slice tp3 tl3 tc3] 36)) := ⟨_, rfl⟩
  have y6 : Ext w5 v6 := by rw [hv6]; exact ((Ext.refl _).alloc _)
  have b4_0 : Hid (At (w5.heap.size) 0 (.bool ob) v6) := by rw [hv6]; exact At.ext (At.n0 (by rfl)) (Ext.refl _)
  have b4_1 : Hid (At (w5.heap.size) 1 (.slice sp3 sl3 sc3) v6) := by rw [hv6]; exact At.ext (At.n0 (by rfl)) (Ext.refl _)
  have b4_2 : Hid (At (w5.heap.size) 2 (.slice tp3 tl3 tc3) v6) := by rw [hv6]; exact At.ext (At.n0 (by rfl)) (Ext.refl _)
  have k4 : Hid (Bx 3 (w5.heap.size) v6) := by rw [hv6]; exact Bx.gr (Bx.n0 3 ⟨rfl, by decide⟩ (by decide) noI_s3) (Ext.gr (Ext.refl _))
  have u4 : Hid (w5.heap.size < v6.heap.size) := b4_0.out.2
  have e6_ : Ext w v6 := Ext.trans e5_ y6
  rw [← hv6]
  clear hv6
  refine (HH2.out _).mono ?_
  rintro e w7 ⟨sp4, sl4, sc4, tp4, tl4, tc4, rfl, o4, q4_, x7⟩
  have e7_ : Ext w w7 := Ext.trans e6_ x7
  go_wp2_with fail
  obtain ⟨v8, hv8⟩ : ∃ W, W = (w7.alloc (.cells #[.bool hb, .slice sp4 sl4 sc4, .slice tp4 tl4 tc4] 36)) := ⟨_, rfl⟩
  have y8 : Ext w7 v8 := by rw [hv8]; exact ((Ext.refl _).alloc _)
  have b5_0 : Hid (At (w7.heap.size) 0 (.bool hb) v8) := by rw [hv8]; exact At.ext (At.n0 (by rfl)) (Ext.refl _)
  have b5_1 : Hid (At (w7.heap.size) 1 (.slice sp4 sl4 sc4) v8) := by rw [hv8]; exact At.ext (At.n0 (by rfl)) (Ext.refl _)
  have b5_2 : Hid (At (w7.heap.size) 2 (.slice tp4 tl4 tc4) v8) := by rw [hv8]; exact At.ext (At.n0 (by rfl)) (Ext.refl _)
  have k5 : Hid (Bx 3 (w7.heap.size) v8) := by rw [hv8]; exact Bx.gr (Bx.n0 3 ⟨rfl, by decide⟩ (by decide) noI_s3) (Ext.gr (Ext.refl _))
  have u5 : Hid (w7.heap.size < v8.heap.size) := b5_0.out.2
  have e8_ : Ext w v8 := Ext.trans e7_ y8
  rw [← hv8]
  clear hv8
  have C5_0 := Lib.hid (b0_0.out.ext (x2.trans (x3.trans (y4.trans (x5.trans (y6.trans (x7.trans y8)))))))
  have C5_1 := Lib.hid (b0_1.out.ext (x2.trans (x3.trans (y4.trans (x5.trans (y6.trans (x7.trans y8)))))))
  have CK5 := Lib.hid (k0.out.gr (x2.gr.trans (x3.gr.trans (y4.gr.trans (x5.gr.trans (y6.gr.trans (x7.gr.trans y8.gr)))))))
  have C11_0 := Lib.hid (b1_0.out.ext (x2.trans (x3.trans (y4.trans (x5.trans (y6.trans (x7.trans y8)))))))
  have C11_1 := Lib.hid (b1_1.out.ext (x2.trans (x3.trans (y4.trans (x5.trans (y6.trans (x7.trans y8)))))))
  have C11_2 := Lib.hid (b1_2.out.ext (x2.trans (x3.trans (y4.trans (x5.trans (y6.trans (x7.trans y8)))))))
  have CK11 := Lib.hid (k1.out.gr (x2.gr.trans (x3.gr.trans (y4.gr.trans (x5.gr.trans (y6.gr.trans (x7.gr.trans y8.gr)))))))
  have C12_0 := Lib.hid (b3_0.out.ext (x5.trans (y6.trans (x7.trans y8))))
  have C12_1 := Lib.hid (b3_1.out.ext (x5.trans (y6.trans (x7.trans y8))))
  have C12_2 := Lib.hid (b3_2.out.ext (x5.trans (y6.trans (x7.trans y8))))
  have CK12 := Lib.hid (k3.out.gr (x5.gr.trans (y6.gr.trans (x7.gr.trans y8.gr))))
  have C14_0 := Lib.hid (b4_0.out.ext (x7.trans y8))
  have C14_1 := Lib.hid (b4_1.out.ext (x7.trans y8))
  have C14_2 := Lib.hid (b4_2.out.ext (x7.trans y8))
  have CK14 := Lib.hid (k4.out.gr (x7.gr.trans y8.gr))
  have C16_0 := Lib.hid b5_0.out
  have C16_1 := Lib.hid b5_1.out
  have C16_2 := Lib.hid b5_2.out
  have CK16 := Lib.hid k5.out
  have FA12 := Lib.hid (o2.limbs.ext (y4.trans (x5.trans (y6.trans (x7.trans y8)))))
  have FU12 := Lib.hid (q2_.limbs.ext (y4.trans (x5.trans (y6.trans (x7.trans y8)))))
  have FA14 := Lib.hid (o3.limbs.ext (y6.trans (x7.trans y8)))
  have FU14 := Lib.hid (q3_.limbs.ext (y6.trans (x7.trans y8)))
  have FA16 := Lib.hid (o4.limbs.ext y8)
  have FU16 := Lib.hid (q4_.limbs.ext y8)
  have H0 := Lib.hid (h0.ext (y1.trans (x2.trans (x3.trans (y4.trans (x5.trans (y6.trans (x7.trans y8))))))))
  have G0 := Lib.hid (g0.ext (y1.trans (x2.trans (x3.trans (y4.trans (x5.trans (y6.trans (x7.trans y8))))))))
  have EW : Hid (Ext w v8) := e8_
  obtain ⟨W4, rfl⟩ : ∃ W, W = v8 := ⟨_, rfl⟩
  obtain ⟨sb11, hsb11⟩ : ∃ s, w.heap.size + 1 = s := ⟨_, rfl⟩
  rw [hsb11] at C11_0 C11_1 C11_2 CK11
  (try rw [hsb11])
  obtain ⟨sb12, hsb12⟩ : ∃ s, w3.heap.size = s := ⟨_, rfl⟩
  rw [hsb12] at C12_0 C12_1 C12_2 CK12
  (try rw [hsb12])
  obtain ⟨sb14, hsb14⟩ : ∃ s, w5.heap.size = s := ⟨_, rfl⟩
  rw [hsb14] at C14_0 C14_1 C14_2 CK14
  (try rw [hsb14])
  obtain ⟨sb16, hsb16⟩ : ∃ s, w7.heap.size = s := ⟨_, rfl⟩
  rw [hsb16] at C16_0 C16_1 C16_2 CK16
  (try rw [hsb16])
  obtain ⟨sb5, hsb5⟩ : ∃ s, w.heap.size = s := ⟨_, rfl⟩
  rw [hsb5] at C5_0 C5_1 CK5
  (try rw [hsb5])
  clear hsb5 hsb11 hsb12 hsb14 hsb16
  go_loopw [18] (fun v18 wr => ∃ i : Nat, v18 = .int .i64 (i : Int) ∧ i ≤ 2 ∧ Ext W4 wr) (fun v18 _ => 2 - (intOf v18).toNat)
  case atStart => exact ⟨0, rfl, Nat.zero_le _, Ext.refl _⟩
  case round =>
    obtain ⟨i, rfl, hi, hx⟩ := hrel
    have XX := Lib.hid hx
    clear hx
    have b105_0 := Lib.hid (C5_0.out.ext XX.out)
    have b105_1 := Lib.hid (C5_1.out.ext XX.out)
    have k105 := Lib.hid (CK5.out.gr XX.out.gr)
    have u105 := Lib.hid b105_0.out.2
    have b111_0 := Lib.hid (C11_0.out.ext XX.out)
    have b111_1 := Lib.hid (C11_1.out.ext XX.out)
    have b111_2 := Lib.hid (C11_2.out.ext XX.out)
    have k111 := Lib.hid (CK11.out.gr XX.out.gr)
    have u111 := Lib.hid b111_0.out.2
    have b112_0 := Lib.hid (C12_0.out.ext XX.out)
    have b112_1 := Lib.hid (C12_1.out.ext XX.out)
    have b112_2 := Lib.hid (C12_2.out.ext XX.out)
    have k112 := Lib.hid (CK12.out.gr XX.out.gr)
    have u112 := Lib.hid b112_0.out.2
    have b114_0 := Lib.hid (C14_0.out.ext XX.out)
    have b114_1 := Lib.hid (C14_1.out.ext XX.out)
    have b114_2 := Lib.hid (C14_2.out.ext XX.out)
    have k114 := Lib.hid (CK14.out.gr XX.out.gr)
    have u114 := Lib.hid b114_0.out.2
    have b116_0 := Lib.hid (C16_0.out.ext XX.out)
    have b116_1 := Lib.hid (C16_1.out.ext XX.out)
    have b116_2 := Lib.hid (C16_2.out.ext XX.out)
    have k116 := Lib.hid (CK16.out.gr XX.out.gr)
    have u116 := Lib.hid b116_0.out.2
    have fa12 := Lib.hid (FA12.out.ext XX.out)
    have fu12 := Lib.hid (FU12.out.ext XX.out)
    have fa14 := Lib.hid (FA14.out.ext XX.out)
    have fu14 := Lib.hid (FU14.out.ext XX.out)
    have fa16 := Lib.hid (FA16.out.ext XX.out)
    have fu16 := Lib.hid (FU16.out.ext XX.out)
    have h0 := H0.out.ext XX.out
    have g0 := G0.out.ext XX.out
    by_cases hi2 : i < 2
    · have LT := Lib.hid hi2
      have t3 : (i : Int) ≤ 1 := by omega
      clear hi
      have g105_0 := b105_0.out.1
      have g105_1 := b105_1.out.1
      have f105 : sb5 < wr.heap.size := b105_0.out.2
      go_wp2_with fail
      refine (HM1.out _ _ _ h0 g0).mono ?_
      rintro e w1 ⟨sp51, sl51, sc51, tp51, tl51, tc51, rfl, o51, q51_, x1⟩
      have e1_ : Ext W4 w1 := Ext.trans XX.out x1
      clear g105_0 g105_1 f105
      go_wp2_with fail
      obtain ⟨v2, hv2⟩ : ∃ W, W = (w1.alloc (.cells #[.bool mb, .slice sp51 sl51 sc51, .slice tp51 tl51 tc51] 36)) := ⟨_, rfl⟩
      have y2 : Ext w1 v2 := by rw [hv2]; exact ((Ext.refl _).alloc _)
      have b0_0 : Hid (At (w1.heap.size) 0 (.bool mb) v2) := by rw [hv2]; exact At.ext (At.n0 (by rfl)) (Ext.refl _)
      have b0_1 : Hid (At (w1.heap.size) 1 (.slice sp51 sl51 sc51) v2) := by rw [hv2]; exact At.ext (At.n0 (by rfl)) (Ext.refl _)
      have b0_2 : Hid (At (w1.heap.size) 2 (.slice tp51 tl51 tc51) v2) := by rw [hv2]; exact At.ext (At.n0 (by rfl)) (Ext.refl _)
      have k0 : Hid (Bx 3 (w1.heap.size) v2) := by rw [hv2]; exact Bx.gr (Bx.n0 3 ⟨rfl, by decide⟩ (by decide) noI_s3) (Ext.gr (Ext.refl _))
      have u0 : Hid (w1.heap.size < v2.heap.size) := b0_0.out.2
      have e2_ : Ext W4 v2 := Ext.trans e1_ y2
      rw [← hv2]
      clear hv2
      refine (HO1.out _).mono ?_
      rintro e w3 ⟨sp52, sl52, sc52, tp52, tl52, tc52, rfl, o52, q52_, x3⟩
      have e3_ : Ext W4 w3 := Ext.trans e2_ x3
      go_wp2_with fail
      obtain ⟨v4, hv4⟩ : ∃ W, W = (w3.alloc (.cells #[.bool ob, .slice sp52 sl52 sc52, .slice tp52 tl52 tc52] 36)) := ⟨_, rfl⟩
      have y4 : Ext w3 v4 := by rw [hv4]; exact ((Ext.refl _).alloc _)
      have b1_0 : Hid (At (w3.heap.size) 0 (.bool ob) v4) := by rw [hv4]; exact At.ext (At.n0 (by rfl)) (Ext.refl _)
      have b1_1 : Hid (At (w3.heap.size) 1 (.slice sp52 sl52 sc52) v4) := by rw [hv4]; exact At.ext (At.n0 (by rfl)) (Ext.refl _)
      have b1_2 : Hid (At (w3.heap.size) 2 (.slice tp52 tl52 tc52) v4) := by rw [hv4]; exact At.ext (At.n0 (by rfl)) (Ext.refl _)
      have k1 : Hid (Bx 3 (w3.heap.size) v4) := by rw [hv4]; exact Bx.gr (Bx.n0 3 ⟨rfl, by decide⟩ (by decide) noI_s3) (Ext.gr (Ext.refl _))
      have u1 : Hid (w3.heap.size < v4.heap.size) := b1_0.out.2
      have e4_ : Ext W4 v4 := Ext.trans e3_ y4
      rw [← hv4]
      clear hv4
      refine (HH1.out _).mono ?_
      rintro e w5 ⟨sp53, sl53, sc53, tp53, tl53, tc53, rfl, o53, q53_, x5⟩
      have e5_ : Ext W4 w5 := Ext.trans e4_ x5
      go_wp2_with fail
      obtain ⟨v6, hv6⟩ : ∃ W, W = (w5.alloc (.cells #[.bool hb, .slice sp53 sl53 sc53, .slice tp53 tl53 tc53] 36)) := ⟨_, rfl⟩
      have y6 : Ext w5 v6 := by rw [hv6]; exact ((Ext.refl _).alloc _)
      have b2_0 : Hid (At (w5.heap.size) 0 (.bool hb) v6) := by rw [hv6]; exact At.ext (At.n0 (by rfl)) (Ext.refl _)
      have b2_1 : Hid (At (w5.heap.size) 1 (.slice sp53 sl53 sc53) v6) := by rw [hv6]; exact At.ext (At.n0 (by rfl)) (Ext.refl _)
      have b2_2 : Hid (At (w5.heap.size) 2 (.slice tp53 tl53 tc53) v6) := by rw [hv6]; exact At.ext (At.n0 (by rfl)) (Ext.refl _)
      have k2 : Hid (Bx 3 (w5.heap.size) v6) := by rw [hv6]; exact Bx.gr (Bx.n0 3 ⟨rfl, by decide⟩ (by decide) noI_s3) (Ext.gr (Ext.refl _))
      have u2 : Hid (w5.heap.size < v6.heap.size) := b2_0.out.2
      have e6_ : Ext W4 v6 := Ext.trans e5_ y6
      rw [← hv6]
      clear hv6
      refine (rof_is _ n HN.out.1 HN.out.2).mono ?_
      rintro e w7 ⟨sb54, sv54, su54, sm54, sd54, rfl, e54, o54, x7⟩
      have e7_ : Ext W4 w7 := Ext.trans e6_ x7
      obtain ⟨sp54, sl54, sc54, tp54, tl54, tc54, rfl, rfl⟩ := e54.slice
      go_wp2_with fail
      obtain ⟨v8, hv8⟩ : ∃ W, W = (w7.alloc (.cells #[.bool sb54, .slice sp54 sl54 sc54, .slice tp54 tl54 tc54] 36)) := ⟨_, rfl⟩
      have y8 : Ext w7 v8 := by rw [hv8]; exact ((Ext.refl _).alloc _)
      have b3_0 : Hid (At (w7.heap.size) 0 (.bool sb54) v8) := by rw [hv8]; exact At.ext (At.n0 (by rfl)) (Ext.refl _)
      have b3_1 : Hid (At (w7.heap.size) 1 (.slice sp54 sl54 sc54) v8) := by rw [hv8]; exact At.ext (At.n0 (by rfl)) (Ext.refl _)
      have b3_2 : Hid (At (w7.heap.size) 2 (.slice tp54 tl54 tc54) v8) := by rw [hv8]; exact At.ext (At.n0 (by rfl)) (Ext.refl _)
      have k3 : Hid (Bx 3 (w7.heap.size) v8) := by rw [hv8]; exact Bx.gr (Bx.n0 3 ⟨rfl, by decide⟩ (by decide) noI_s3) (Ext.gr (Ext.refl _))
      have u3 : Hid (w7.heap.size < v8.heap.size) := b3_0.out.2
      have e8_ : Ext W4 v8 := Ext.trans e7_ y8
      rw [← hv8]
      clear hv8
      have hkeep51 : AllAt' ([(sb5, 0, .bool n0), (sb5, 1, .slice p0 A0.length q0), (sb11, 0, .bool n0), (sb11, 1, .slice p0 A0.length q0), (sb11, 2, .slice p1 B0.length q1), (sb12, 0, .bool mb), (sb12, 1, .slice sp2 sl2 sc2), (sb12, 2, .slice tp2 tl2 tc2), (sb14, 0, .bool ob), (sb14, 1, .slice sp3 sl3 sc3), (sb14, 2, .slice tp3 tl3 tc3), (sb16, 0, .bool hb), (sb16, 1, .slice sp4 sl4 sc4), (sb16, 2, .slice tp4 tl4 tc4), (w1.heap.size, 0, .bool mb), (w1.heap.size, 1, .slice sp51 sl51 sc51), (w1.heap.size, 2, .slice tp51 tl51 tc51), (w3.heap.size, 0, .bool ob), (w3.heap.size, 1, .slice sp52 sl52 sc52), (w3.heap.size, 2, .slice tp52 tl52 tc52), (w5.heap.size, 0, .bool hb), (w5.heap.size, 1, .slice sp53 sl53 sc53), (w5.heap.size, 2, .slice tp53 tl53 tc53), (w7.heap.size, 0, .bool sb54), (w7.heap.size, 1, .slice sp54 sl54 sc54), (w7.heap.size, 2, .slice tp54 tl54 tc54)] : List (Nat × Nat × Value)) v8 := AllAt'.cons (b105_0.out.ext (x1.trans (y2.trans (x3.trans (y4.trans (x5.trans (y6.trans (x7.trans y8)))))))) (AllAt'.cons (b105_1.out.ext (x1.trans (y2.trans (x3.trans (y4.trans (x5.trans (y6.trans (x7.trans y8)))))))) (AllAt'.cons (b111_0.out.ext (x1.trans (y2.trans (x3.trans (y4.trans (x5.trans (y6.trans (x7.trans y8)))))))) (AllAt'.cons (b111_1.out.ext (x1.trans (y2.trans (x3.trans (y4.trans (x5.trans (y6.trans (x7.trans y8)))))))) (AllAt'.cons (b111_2.out.ext (x1.trans (y2.trans (x3.trans (y4.trans (x5.trans (y6.trans (x7.trans y8)))))))) (AllAt'.cons (b112_0.out.ext (x1.trans (y2.trans (x3.trans (y4.trans (x5.trans (y6.trans (x7.trans y8)))))))) (AllAt'.cons (b112_1.out.ext (x1.trans (y2.trans (x3.trans (y4.trans (x5.trans (y6.trans (x7.trans y8)))))))) (AllAt'.cons (b112_2.out.ext (x1.trans (y2.trans (x3.trans (y4.trans (x5.trans (y6.trans (x7.trans y8)))))))) (AllAt'.cons (b114_0.out.ext (x1.trans (y2.trans (x3.trans (y4.trans (x5.trans (y6.trans (x7.trans y8)))))))) (AllAt'.cons (b114_1.out.ext (x1.trans (y2.trans (x3.trans (y4.trans (x5.trans (y6.trans (x7.trans y8)))))))) (AllAt'.cons (b114_2.out.ext (x1.trans (y2.trans (x3.trans (y4.trans (x5.trans (y6.trans (x7.trans y8)))))))) (AllAt'.cons (b116_0.out.ext (x1.trans (y2.trans (x3.trans (y4.trans (x5.trans (y6.trans (x7.trans y8)))))))) (AllAt'.cons (b116_1.out.ext (x1.trans (y2.trans (x3.trans (y4.trans (x5.trans (y6.trans (x7.trans y8)))))))) (AllAt'.cons (b116_2.out.ext (x1.trans (y2.trans (x3.trans (y4.trans (x5.trans (y6.trans (x7.trans y8)))))))) (AllAt'.cons (b0_0.out.ext (x3.trans (y4.trans (x5.trans (y6.trans (x7.trans y8)))))) (AllAt'.cons (b0_1.out.ext (x3.trans (y4.trans (x5.trans (y6.trans (x7.trans y8)))))) (AllAt'.cons (b0_2.out.ext (x3.trans (y4.trans (x5.trans (y6.trans (x7.trans y8)))))) (AllAt'.cons (b1_0.out.ext (x5.trans (y6.trans (x7.trans y8)))) (AllAt'.cons (b1_1.out.ext (x5.trans (y6.trans (x7.trans y8)))) (AllAt'.cons (b1_2.out.ext (x5.trans (y6.trans (x7.trans y8)))) (AllAt'.cons (b2_0.out.ext (x7.trans y8)) (AllAt'.cons (b2_1.out.ext (x7.trans y8)) (AllAt'.cons (b2_2.out.ext (x7.trans y8)) (AllAt'.cons b3_0.out (AllAt'.cons b3_1.out (AllAt'.cons b3_2.out (AllAt'.nil _))))))))))))))))))))))))))
      have hob51 : ObOk W4.heap.size v8 (([(sb5, 0, .bool n0), (sb5, 1, .slice p0 A0.length q0), (sb11, 0, .bool n0), (sb11, 1, .slice p0 A0.length q0), (sb11, 2, .slice p1 B0.length q1), (sb12, 0, .bool mb), (sb12, 1, .slice sp2 sl2 sc2), (sb12, 2, .slice tp2 tl2 tc2), (sb14, 0, .bool ob), (sb14, 1, .slice sp3 sl3 sc3), (sb14, 2, .slice tp3 tl3 tc3), (sb16, 0, .bool hb), (sb16, 1, .slice sp4 sl4 sc4), (sb16, 2, .slice tp4 tl4 tc4), (w1.heap.size, 0, .bool mb), (w1.heap.size, 1, .slice sp51 sl51 sc51), (w1.heap.size, 2, .slice tp51 tl51 tc51), (w3.heap.size, 0, .bool ob), (w3.heap.size, 1, .slice sp52 sl52 sc52), (w3.heap.size, 2, .slice tp52 tl52 tc52), (w5.heap.size, 0, .bool hb), (w5.heap.size, 1, .slice sp53 sl53 sc53), (w5.heap.size, 2, .slice tp53 tl53 tc53), (w7.heap.size, 0, .bool sb54), (w7.heap.size, 1, .slice sp54 sl54 sc54), (w7.heap.size, 2, .slice tp54 tl54 tc54)] : List (Nat × Nat × Value)).map (·.1)) ([] : List (Nat × List (Nat × Value))) := trivial
      have hne51 : AllNe (([] : List (Nat × List (Nat × Value))).map (·.1)) := trivial
      (try simp only [List.append_eq, List.cons_append, List.nil_append])
      refine wp_region_gen ⟨[81, 82, 83, 84, 85, 86, 87, 88, 89, 90, 91, 92, 93, 94, 95, 96, 97, 98, 99, 100, 101, 102, 103, 104, 105, 106, 107, 108, 109, 110, 111, 112, 113, 114, 115, 116, 117, 118], fun i => false, fun i => ([none, none, none, none, none, none, none, none, none, none, none, none, none, none, none, none, none, none, none, none, none, none, none, none, none, none, none, none, none, none, none, none, none, none, none, none, none, none] : List (Option (BoxRef × Nat))).getD i none, fun i => ([Sg.val (.int .i64 (mc : Int)), Sg.val (.int .i64 (mc : Int)), Sg.val (.bool false), Sg.val (.bool false), Sg.val (.int .i64 (oc : Int)), Sg.val (.int .i64 (oc : Int)), Sg.val (.bool false), Sg.val (.bool false), Sg.val (.bool false), Sg.val (.int .i64 (hc : Int)), Sg.val (.int .i64 (hc : Int)), Sg.val (.bool false), Sg.val (.bool false), Sg.val (.bool false), Sg.val (.agg #[.bool mb, .slice sp51 sl51 sc51, .slice tp51 tl51 tc51]), Sg.val (.agg #[.bool mb, .slice sp2 sl2 sc2, .slice tp2 tl2 tc2]), Sg.val (.bool true), Sg.val (.bool false), Sg.val (.bool false), Sg.val (.bool false), Sg.val (.agg #[.bool ob, .slice sp52 sl52 sc52, .slice tp52 tl52 tc52]), Sg.val (.agg #[.bool ob, .slice sp3 sl3 sc3, .slice tp3 tl3 tc3]), Sg.val (.bool true), Sg.val (.bool false), Sg.val (.bool false), Sg.val (.bool false), Sg.val (.agg #[.bool hb, .slice sp53 sl53 sc53, .slice tp53 tl53 tc53]), Sg.val (.agg #[.bool hb, .slice sp4 sl4 sc4, .slice tp4 tl4 tc4]), Sg.val (.bool true), Sg.val (.bool false), Sg.val (.bool false), Sg.val (.bool false), Sg.ratO W4.heap.size ((n : Int) : Rat), Sg.val (.int .i64 n), Sg.ratO W4.heap.size ((n : Int) : Rat), Sg.val (.bool true), Sg.val (.bool false), Sg.val (.bool false)] : List Sg).getD i Sg.any, [(sb5, 0, .bool n0), (sb5, 1, .slice p0 A0.length q0), (sb11, 0, .bool n0), (sb11, 1, .slice p0 A0.length q0), (sb11, 2, .slice p1 B0.length q1), (sb12, 0, .bool mb), (sb12, 1, .slice sp2 sl2 sc2), (sb12, 2, .slice tp2 tl2 tc2), (sb14, 0, .bool ob), (sb14, 1, .slice sp3 sl3 sc3), (sb14, 2, .slice tp3 tl3 tc3), (sb16, 0, .bool hb), (sb16, 1, .slice sp4 sl4 sc4), (sb16, 2, .slice tp4 tl4 tc4), (w1.heap.size, 0, .bool mb), (w1.heap.size, 1, .slice sp51 sl51 sc51), (w1.heap.size, 2, .slice tp51 tl51 tc51), (w3.heap.size, 0, .bool ob), (w3.heap.size, 1, .slice sp52 sl52 sc52), (w3.heap.size, 2, .slice tp52 tl52 tc52), (w5.heap.size, 0, .bool hb), (w5.heap.size, 1, .slice sp53 sl53 sc53), (w5.heap.size, 2, .slice tp53 tl53 tc53), (w7.heap.size, 0, .bool sb54), (w7.heap.size, 1, .slice sp54 sl54 sc54), (w7.heap.size, 2, .slice tp54 tl54 tc54)], []⟩ W4.heap.size (by kernel_rfl) (by kernel_rfl) e8_.size ?hfr hkeep51 hob51 hne51 ?hs ?he
      case hfr =>
        intro i v wk hi hst hv
        exact absurd hi (by simp)
      case hs =>
        refine ⟨?_, ?_, ?_, ?_, ?_, ?_, ?_, ?_, ?_, ?_, ?_, ?_, ?_, ?_, ?_, ?_, ?_, ?_, ?_, ?_, ?_, ?_, ?_, ?_, ?_, ?_, ?_, ?_, ?_, ?_, ?_, ?_, ?_, ?_, ?_, ?_, ?_, ?_, trivial⟩
        · refine RStep.op rfl rfl (fun ac wk hp K hK => ?_)
          have t20_ : ac.tmps[20]?.getD undef = .int .i64 (mc : Int) := hp.slot 20 rfl rfl
          have HP := Lib.hid hp
          clear hp
          go_simp
          refine hK.out _ _ ?_ (Ext.refl _) (fun h => absurd h (by simp))
          exact rfl
        · refine RStep.op rfl rfl (fun ac wk hp K hK => ?_)
          have t13_ : ac.tmps[13]?.getD undef = .int .i64 (mc : Int) := hp.slot 13 rfl rfl
          have HP := Lib.hid hp
          clear hp
          go_simp
          refine hK.out _ _ ?_ (Ext.refl _) (fun h => absurd h (by simp))
          exact rfl
        · refine RStep.op rfl rfl (fun ac wk hp K hK => ?_)
          have u0e := hp.get 0 (by decide +kernel) rfl
          have t81_ : ac.tmps[81]?.getD undef = .int .i64 (mc : Int) := slot_is' u0e
          have u1e := hp.get 1 (by decide +kernel) rfl
          have t82_ : ac.tmps[82]?.getD undef = .int .i64 (mc : Int) := slot_is' u1e
          have HP := Lib.hid hp
          clear hp
          go_simp
          refine hK.out _ _ ?_ (Ext.refl _) (fun h => absurd h (by simp))
          exact (by first | rfl | (apply congrArg Value.bool; simp; done) | (apply congrArg Value.bool; simp; omega) | (simp [*]; done))
        · refine RStep.op rfl rfl (fun ac wk hp K hK => ?_)
          have u2e := hp.get 2 (by decide +kernel) rfl
          have t83_ : ac.tmps[83]?.getD undef = .bool false := slot_is' u2e
          have HP := Lib.hid hp
          clear hp
          go_simp
          refine hK.out _ _ ?_ (Ext.refl _) (fun h => absurd h (by simp))
          exact rfl
        · refine RStep.yes 3 false rfl rfl (by decide +kernel) rfl rfl (fun ac wk hp K hK => ?_)
          have t22_ : ac.tmps[22]?.getD undef = .int .i64 (oc : Int) := hp.slot 22 rfl rfl
          have HP := Lib.hid hp
          clear hp
          go_simp
          refine hK.out _ _ ?_ (Ext.refl _) (fun h => absurd h (by simp))
          exact rfl
        · refine RStep.yes 3 false rfl rfl (by decide +kernel) rfl rfl (fun ac wk hp K hK => ?_)
          have t15_ : ac.tmps[15]?.getD undef = .int .i64 (oc : Int) := hp.slot 15 rfl rfl
          have HP := Lib.hid hp
          clear hp
          go_simp
          refine hK.out _ _ ?_ (Ext.refl _) (fun h => absurd h (by simp))
          exact rfl
        · refine RStep.yes 3 false rfl rfl (by decide +kernel) rfl rfl (fun ac wk hp K hK => ?_)
          have u4e := hp.get 4 (by decide +kernel) rfl
          have t85_ : ac.tmps[85]?.getD undef = .int .i64 (oc : Int) := slot_is' u4e
          have u5e := hp.get 5 (by decide +kernel) rfl
          have t86_ : ac.tmps[86]?.getD undef = .int .i64 (oc : Int) := slot_is' u5e
          have HP := Lib.hid hp
          clear hp
          go_simp
          refine hK.out _ _ ?_ (Ext.refl _) (fun h => absurd h (by simp))
          exact (by first | rfl | (apply congrArg Value.bool; simp; done) | (apply congrArg Value.bool; simp; omega) | (simp [*]; done))
        · refine RStep.op rfl rfl (fun ac wk hp K hK => ?_)
          have u3e := hp.get 3 (by decide +kernel) rfl
          have t84_ : ac.tmps[84]?.getD undef = .bool false := slot_is' u3e
          have u6e := hp.get 6 (by decide +kernel) rfl
          have t87_ : ac.tmps[87]?.getD undef = .bool false := slot_is' u6e
          have HP := Lib.hid hp
          clear hp
          go_simp
          refine hK.out _ _ ?_ (Ext.refl _) (fun h => absurd h (by simp))
          exact rfl
        · refine RStep.op rfl rfl (fun ac wk hp K hK => ?_)
          have u7e := hp.get 7 (by decide +kernel) rfl
          have t88_ : ac.tmps[88]?.getD undef = .bool false := slot_is' u7e
          have HP := Lib.hid hp
          clear hp
          go_simp
          refine hK.out _ _ ?_ (Ext.refl _) (fun h => absurd h (by simp))
          exact rfl
        · refine RStep.yes 8 false rfl rfl (by decide +kernel) rfl rfl (fun ac wk hp K hK => ?_)
          have t24_ : ac.tmps[24]?.getD undef = .int .i64 (hc : Int) := hp.slot 24 rfl rfl
          have HP := Lib.hid hp
          clear hp
          go_simp
          refine hK.out _ _ ?_ (Ext.refl _) (fun h => absurd h (by simp))
          exact rfl
        · refine RStep.yes 8 false rfl rfl (by decide +kernel) rfl rfl (fun ac wk hp K hK => ?_)
          have t17_ : ac.tmps[17]?.getD undef = .int .i64 (hc : Int) := hp.slot 17 rfl rfl
          have HP := Lib.hid hp
          clear hp
          go_simp
          refine hK.out _ _ ?_ (Ext.refl _) (fun h => absurd h (by simp))
          exact rfl
        · refine RStep.yes 8 false rfl rfl (by decide +kernel) rfl rfl (fun ac wk hp K hK => ?_)
          have u9e := hp.get 9 (by decide +kernel) rfl
          have t90_ : ac.tmps[90]?.getD undef = .int .i64 (hc : Int) := slot_is' u9e
          have u10e := hp.get 10 (by decide +kernel) rfl
          have t91_ : ac.tmps[91]?.getD undef = .int .i64 (hc : Int) := slot_is' u10e
          have HP := Lib.hid hp
          clear hp
          go_simp
          refine hK.out _ _ ?_ (Ext.refl _) (fun h => absurd h (by simp))
          exact (by first | rfl | (apply congrArg Value.bool; simp; done) | (apply congrArg Value.bool; simp; omega) | (simp [*]; done))
        · refine RStep.op rfl rfl (fun ac wk hp K hK => ?_)
          have u8e := hp.get 8 (by decide +kernel) rfl
          have t89_ : ac.tmps[89]?.getD undef = .bool false := slot_is' u8e
          have u11e := hp.get 11 (by decide +kernel) rfl
          have t92_ : ac.tmps[92]?.getD undef = .bool false := slot_is' u11e
          have HP := Lib.hid hp
          clear hp
          go_simp
          refine hK.out _ _ ?_ (Ext.refl _) (fun h => absurd h (by simp))
          exact rfl
        · refine RStep.op rfl rfl (fun ac wk hp K hK => ?_)
          have u12e := hp.get 12 (by decide +kernel) rfl
          have t93_ : ac.tmps[93]?.getD undef = .bool false := slot_is' u12e
          have HP := Lib.hid hp
          clear hp
          go_simp
          refine hK.out _ _ ?_ (Ext.refl _) (fun h => absurd h (by simp))
          exact rfl
        · refine RStep.yes 13 false rfl rfl (by decide +kernel) rfl rfl (fun ac wk hp K hK => ?_)
          have t19_ : ac.tmps[19]?.getD undef = .pointer (some ⟨w1.heap.size, 0, none⟩) := hp.slot 19 rfl rfl
          have c0_ := hp.cell 14 rfl
          have c1_ := hp.cell 15 rfl
          have c2_ := hp.cell 16 rfl
          have HP := Lib.hid hp
          clear hp
          go_simp
          refine hK.out _ _ ?_ (Ext.refl _) (fun h => absurd h (by simp))
          exact rfl
        · refine RStep.yes 13 false rfl rfl (by decide +kernel) rfl rfl (fun ac wk hp K hK => ?_)
          have t12_ : ac.tmps[12]?.getD undef = .pointer (some ⟨sb12, 0, none⟩) := hp.slot 12 rfl rfl
          have c0_ := hp.cell 5 rfl
          have c1_ := hp.cell 6 rfl
          have c2_ := hp.cell 7 rfl
          have HP := Lib.hid hp
          clear hp
          go_simp
          refine hK.out _ _ ?_ (Ext.refl _) (fun h => absurd h (by simp))
          exact rfl
        · refine RStep.yes 13 false rfl rfl (by decide +kernel) rfl rfl (fun ac wk hp K hK => ?_)
          have u14e := hp.get 14 (by decide +kernel) rfl
          have t95_ : ac.tmps[95]?.getD undef = .agg #[.bool mb, .slice sp51 sl51 sc51, .slice tp51 tl51 tc51] := slot_is' u14e
          have u15e := hp.get 15 (by decide +kernel) rfl
          have t96_ : ac.tmps[96]?.getD undef = .agg #[.bool mb, .slice sp2 sl2 sc2, .slice tp2 tl2 tc2] := slot_is' u15e
          have HP := Lib.hid hp
          clear hp
          go_simp
          refine (is_raw (o51.limbs.gr ((y2.gr.trans (x3.gr.trans (y4.gr.trans (x5.gr.trans (y6.gr.trans (x7.gr.trans y8.gr)))))).trans HP.out.gr)) (q51_.limbs.gr ((y2.gr.trans (x3.gr.trans (y4.gr.trans (x5.gr.trans (y6.gr.trans (x7.gr.trans y8.gr)))))).trans HP.out.gr)) (fa12.out.gr ((x1.gr.trans (y2.gr.trans (x3.gr.trans (y4.gr.trans (x5.gr.trans (y6.gr.trans (x7.gr.trans y8.gr))))))).trans HP.out.gr)) (fu12.out.gr ((x1.gr.trans (y2.gr.trans (x3.gr.trans (y4.gr.trans (x5.gr.trans (y6.gr.trans (x7.gr.trans y8.gr))))))).trans HP.out.gr)) mb mb true (by simp)).mono ?_
          rintro e wk' ⟨rfl, ix⟩
          refine hK.out _ _ ?_ ix (fun h => absurd h (by simp))
          exact rfl
        · refine RStep.yes 13 false rfl rfl (by decide +kernel) rfl rfl (fun ac wk hp K hK => ?_)
          have u16e := hp.get 16 (by decide +kernel) rfl
          have t97_ : ac.tmps[97]?.getD undef = .bool true := slot_is' u16e
          have HP := Lib.hid hp
          clear hp
          go_simp
          refine hK.out _ _ ?_ (Ext.refl _) (fun h => absurd h (by simp))
          exact rfl
        · refine RStep.op rfl rfl (fun ac wk hp K hK => ?_)
          have u13e := hp.get 13 (by decide +kernel) rfl
          have t94_ : ac.tmps[94]?.getD undef = .bool false := slot_is' u13e
          have u17e := hp.get 17 (by decide +kernel) rfl
          have t98_ : ac.tmps[98]?.getD undef = .bool false := slot_is' u17e
          have HP := Lib.hid hp
          clear hp
          go_simp
          refine hK.out _ _ ?_ (Ext.refl _) (fun h => absurd h (by simp))
          exact rfl
        · refine RStep.op rfl rfl (fun ac wk hp K hK => ?_)
          have u18e := hp.get 18 (by decide +kernel) rfl
          have t99_ : ac.tmps[99]?.getD undef = .bool false := slot_is' u18e
          have HP := Lib.hid hp
          clear hp
          go_simp
          refine hK.out _ _ ?_ (Ext.refl _) (fun h => absurd h (by simp))
          exact rfl
        · refine RStep.yes 19 false rfl rfl (by decide +kernel) rfl rfl (fun ac wk hp K hK => ?_)
          have t21_ : ac.tmps[21]?.getD undef = .pointer (some ⟨w3.heap.size, 0, none⟩) := hp.slot 21 rfl rfl
          have c0_ := hp.cell 17 rfl
          have c1_ := hp.cell 18 rfl
          have c2_ := hp.cell 19 rfl
          have HP := Lib.hid hp
          clear hp
          go_simp
          refine hK.out _ _ ?_ (Ext.refl _) (fun h => absurd h (by simp))
          exact rfl
        · refine RStep.yes 19 false rfl rfl (by decide +kernel) rfl rfl (fun ac wk hp K hK => ?_)
          have t14_ : ac.tmps[14]?.getD undef = .pointer (some ⟨sb14, 0, none⟩) := hp.slot 14 rfl rfl
          have c0_ := hp.cell 8 rfl
          have c1_ := hp.cell 9 rfl
          have c2_ := hp.cell 10 rfl
          have HP := Lib.hid hp
          clear hp
          go_simp
          refine hK.out _ _ ?_ (Ext.refl _) (fun h => absurd h (by simp))
          exact rfl
        · refine RStep.yes 19 false rfl rfl (by decide +kernel) rfl rfl (fun ac wk hp K hK => ?_)
          have u20e := hp.get 20 (by decide +kernel) rfl
          have t101_ : ac.tmps[101]?.getD undef = .agg #[.bool ob, .slice sp52 sl52 sc52, .slice tp52 tl52 tc52] := slot_is' u20e
          have u21e := hp.get 21 (by decide +kernel) rfl
          have t102_ : ac.tmps[102]?.getD undef = .agg #[.bool ob, .slice sp3 sl3 sc3, .slice tp3 tl3 tc3] := slot_is' u21e
          have HP := Lib.hid hp
          clear hp
          go_simp
          refine (is_raw (o52.limbs.gr ((y4.gr.trans (x5.gr.trans (y6.gr.trans (x7.gr.trans y8.gr)))).trans HP.out.gr)) (q52_.limbs.gr ((y4.gr.trans (x5.gr.trans (y6.gr.trans (x7.gr.trans y8.gr)))).trans HP.out.gr)) (fa14.out.gr ((x1.gr.trans (y2.gr.trans (x3.gr.trans (y4.gr.trans (x5.gr.trans (y6.gr.trans (x7.gr.trans y8.gr))))))).trans HP.out.gr)) (fu14.out.gr ((x1.gr.trans (y2.gr.trans (x3.gr.trans (y4.gr.trans (x5.gr.trans (y6.gr.trans (x7.gr.trans y8.gr))))))).trans HP.out.gr)) ob ob true (by simp)).mono ?_
          rintro e wk' ⟨rfl, ix⟩
          refine hK.out _ _ ?_ ix (fun h => absurd h (by simp))
          exact rfl
        · refine RStep.yes 19 false rfl rfl (by decide +kernel) rfl rfl (fun ac wk hp K hK => ?_)
          have u22e := hp.get 22 (by decide +kernel) rfl
          have t103_ : ac.tmps[103]?.getD undef = .bool true := slot_is' u22e
          have HP := Lib.hid hp
          clear hp
          go_simp
          refine hK.out _ _ ?_ (Ext.refl _) (fun h => absurd h (by simp))
          exact rfl
        · refine RStep.op rfl rfl (fun ac wk hp K hK => ?_)
          have u19e := hp.get 19 (by decide +kernel) rfl
          have t100_ : ac.tmps[100]?.getD undef = .bool false := slot_is' u19e
          have u23e := hp.get 23 (by decide +kernel) rfl
          have t104_ : ac.tmps[104]?.getD undef = .bool false := slot_is' u23e
          have HP := Lib.hid hp
          clear hp
          go_simp
          refine hK.out _ _ ?_ (Ext.refl _) (fun h => absurd h (by simp))
          exact rfl
        · refine RStep.op rfl rfl (fun ac wk hp K hK => ?_)
          have u24e := hp.get 24 (by decide +kernel) rfl
          have t105_ : ac.tmps[105]?.getD undef = .bool false := slot_is' u24e
          have HP := Lib.hid hp
          clear hp
          go_simp
          refine hK.out _ _ ?_ (Ext.refl _) (fun h => absurd h (by simp))
          exact rfl
        · refine RStep.yes 25 false rfl rfl (by decide +kernel) rfl rfl (fun ac wk hp K hK => ?_)
          have t23_ : ac.tmps[23]?.getD undef = .pointer (some ⟨w5.heap.size, 0, none⟩) := hp.slot 23 rfl rfl
          have c0_ := hp.cell 20 rfl
          have c1_ := hp.cell 21 rfl
          have c2_ := hp.cell 22 rfl
          have HP := Lib.hid hp
          clear hp
          go_simp
          refine hK.out _ _ ?_ (Ext.refl _) (fun h => absurd h (by simp))
          exact rfl
        · refine RStep.yes 25 false rfl rfl (by decide +kernel) rfl rfl (fun ac wk hp K hK => ?_)
          have t16_ : ac.tmps[16]?.getD undef = .pointer (some ⟨sb16, 0, none⟩) := hp.slot 16 rfl rfl
          have c0_ := hp.cell 11 rfl
          have c1_ := hp.cell 12 rfl
          have c2_ := hp.cell 13 rfl
          have HP := Lib.hid hp
          clear hp
          go_simp
          refine hK.out _ _ ?_ (Ext.refl _) (fun h => absurd h (by simp))
          exact rfl
        · refine RStep.yes 25 false rfl rfl (by decide +kernel) rfl rfl (fun ac wk hp K hK => ?_)
          have u26e := hp.get 26 (by decide +kernel) rfl
          have t107_ : ac.tmps[107]?.getD undef = .agg #[.bool hb, .slice sp53 sl53 sc53, .slice tp53 tl53 tc53] := slot_is' u26e
          have u27e := hp.get 27 (by decide +kernel) rfl
          have t108_ : ac.tmps[108]?.getD undef = .agg #[.bool hb, .slice sp4 sl4 sc4, .slice tp4 tl4 tc4] := slot_is' u27e
          have HP := Lib.hid hp
          clear hp
          go_simp
          refine (is_raw (o53.limbs.gr ((y6.gr.trans (x7.gr.trans y8.gr)).trans HP.out.gr)) (q53_.limbs.gr ((y6.gr.trans (x7.gr.trans y8.gr)).trans HP.out.gr)) (fa16.out.gr ((x1.gr.trans (y2.gr.trans (x3.gr.trans (y4.gr.trans (x5.gr.trans (y6.gr.trans (x7.gr.trans y8.gr))))))).trans HP.out.gr)) (fu16.out.gr ((x1.gr.trans (y2.gr.trans (x3.gr.trans (y4.gr.trans (x5.gr.trans (y6.gr.trans (x7.gr.trans y8.gr))))))).trans HP.out.gr)) hb hb true (by simp)).mono ?_
          rintro e wk' ⟨rfl, ix⟩
          refine hK.out _ _ ?_ ix (fun h => absurd h (by simp))
          exact rfl
        · refine RStep.yes 25 false rfl rfl (by decide +kernel) rfl rfl (fun ac wk hp K hK => ?_)
          have u28e := hp.get 28 (by decide +kernel) rfl
          have t109_ : ac.tmps[109]?.getD undef = .bool true := slot_is' u28e
          have HP := Lib.hid hp
          clear hp
          go_simp
          refine hK.out _ _ ?_ (Ext.refl _) (fun h => absurd h (by simp))
          exact rfl
        · refine RStep.op rfl rfl (fun ac wk hp K hK => ?_)
          have u25e := hp.get 25 (by decide +kernel) rfl
          have t106_ : ac.tmps[106]?.getD undef = .bool false := slot_is' u25e
          have u29e := hp.get 29 (by decide +kernel) rfl
          have t110_ : ac.tmps[110]?.getD undef = .bool false := slot_is' u29e
          have HP := Lib.hid hp
          clear hp
          go_simp
          refine hK.out _ _ ?_ (Ext.refl _) (fun h => absurd h (by simp))
          exact rfl
        · refine RStep.op rfl rfl (fun ac wk hp K hK => ?_)
          have u30e := hp.get 30 (by decide +kernel) rfl
          have t111_ : ac.tmps[111]?.getD undef = .bool false := slot_is' u30e
          have HP := Lib.hid hp
          clear hp
          go_simp
          refine hK.out _ _ ?_ (Ext.refl _) (fun h => absurd h (by simp))
          exact rfl
        · refine RStep.yes 31 false rfl rfl (by decide +kernel) rfl rfl (fun ac wk hp K hK => ?_)
          have t25_ : ac.tmps[25]?.getD undef = .pointer (some ⟨w7.heap.size, 0, none⟩) := hp.slot 25 rfl rfl
          have c0_ := hp.cell 23 rfl
          have c1_ := hp.cell 24 rfl
          have c2_ := hp.cell 25 rfl
          have HP := Lib.hid hp
          clear hp
          go_simp
          refine hK.out _ _ ?_ (Ext.refl _) (fun h => absurd h (by simp))
          exact ⟨_, _, _, _, _, _, _, _, _, rfl, (e54.gr (y8.gr.trans HP.out.gr)), ((o54.gr (y8.gr.trans HP.out.gr)).mono e6_.size)⟩
        · refine RStep.yes 31 false rfl rfl (by decide +kernel) rfl rfl (fun ac wk hp K hK => ?_)
          have t2_ : ac.tmps[2]?.getD undef = .int .i64 n := hp.slot 2 rfl rfl
          have HP := Lib.hid hp
          clear hp
          go_simp
          refine hK.out _ _ ?_ (Ext.refl _) (fun h => absurd h (by simp))
          exact rfl
        · refine RStep.yes 31 false rfl rfl (by decide +kernel) rfl rfl (fun ac wk hp K hK => ?_)
          have u33e := hp.get 33 (by decide +kernel) rfl
          have t114_ : ac.tmps[114]?.getD undef = .int .i64 n := slot_is' u33e
          have HP := Lib.hid hp
          clear hp
          go_simp
          refine (of06_is _ n HN.out.1 HN.out.2).mono ?_
          rintro e wk' ⟨sb58, sv58, su58, sm58, sd58, rfl, e58, o58, ix⟩
          obtain ⟨sp58, sl58, sc58, tp58, tl58, tc58, rfl, rfl⟩ := e58.slice
          refine hK.out _ _ ?_ ix (fun h => absurd h (by simp))
          exact ⟨_, _, _, _, _, _, _, _, _, rfl, e58, (o58.mono (Nat.le_trans e8_.size HP.out.gr.size))⟩
        · refine RStep.yes 31 false rfl rfl (by decide +kernel) rfl rfl (fun ac wk hp K hK => ?_)
          obtain ⟨u32b, u32p, u32n, u32c, u32q, u32k, u32d, u32m, u32l, u32e, u32i, u32o⟩ := hp.get 32 (by decide +kernel) rfl
          have t113_ : ac.tmps[113]?.getD undef = .agg #[.bool u32b, .slice u32p u32n u32c, .slice u32q u32k u32d] := slot_is' u32e
          obtain ⟨u34b, u34p, u34n, u34c, u34q, u34k, u34d, u34m, u34l, u34e, u34i, u34o⟩ := hp.get 34 (by decide +kernel) rfl
          have t115_ : ac.tmps[115]?.getD undef = .agg #[.bool u34b, .slice u34p u34n u34c, .slice u34q u34k u34d] := slot_is' u34e
          have HP := Lib.hid hp
          clear hp
          go_simp
          refine (is_is u32i u34i true (decide_eq_true (show (((n : Int) : Rat) : Rat) = ((n : Int) : Rat) from rfl))).mono ?_
          rintro e wk' ⟨rfl, ix⟩
          refine hK.out _ _ ?_ ix (fun h => absurd h (by simp))
          exact rfl
        · refine RStep.yes 31 false rfl rfl (by decide +kernel) rfl rfl (fun ac wk hp K hK => ?_)
          have u35e := hp.get 35 (by decide +kernel) rfl
          have t116_ : ac.tmps[116]?.getD undef = .bool true := slot_is' u35e
          have HP := Lib.hid hp
          clear hp
          go_simp
          refine hK.out _ _ ?_ (Ext.refl _) (fun h => absurd h (by simp))
          exact rfl
        · refine RStep.op rfl rfl (fun ac wk hp K hK => ?_)
          have u31e := hp.get 31 (by decide +kernel) rfl
          have t112_ : ac.tmps[112]?.getD undef = .bool false := slot_is' u31e
          have u36e := hp.get 36 (by decide +kernel) rfl
          have t117_ : ac.tmps[117]?.getD undef = .bool false := slot_is' u36e
          have HP := Lib.hid hp
          clear hp
          go_simp
          refine hK.out _ _ ?_ (Ext.refl _) (fun h => absurd h (by simp))
          exact rfl
      case he =>
        intro ac v9 hM
        have y51_0e := hM.post 0 rfl rfl
        have y51_1e := hM.post 1 rfl rfl
        have y51_2e := hM.post 2 rfl rfl
        have y51_3e := hM.post 3 rfl rfl
        have y51_4e := hM.post 4 rfl rfl
        have y51_5e := hM.post 5 rfl rfl
        have y51_6e := hM.post 6 rfl rfl
        have y51_7e := hM.post 7 rfl rfl
        have y51_8e := hM.post 8 rfl rfl
        have y51_9e := hM.post 9 rfl rfl
        have y51_10e := hM.post 10 rfl rfl
        have y51_11e := hM.post 11 rfl rfl
        have y51_12e := hM.post 12 rfl rfl
        have y51_13e := hM.post 13 rfl rfl
        have y51_14e := hM.post 14 rfl rfl
        have y51_15e := hM.post 15 rfl rfl
        have y51_16e := hM.post 16 rfl rfl
        have y51_17e := hM.post 17 rfl rfl
        have y51_18e := hM.post 18 rfl rfl
        have y51_19e := hM.post 19 rfl rfl
        have y51_20e := hM.post 20 rfl rfl
        have y51_21e := hM.post 21 rfl rfl
        have y51_22e := hM.post 22 rfl rfl
        have y51_23e := hM.post 23 rfl rfl
        have y51_24e := hM.post 24 rfl rfl
        have y51_25e := hM.post 25 rfl rfl
        have y51_26e := hM.post 26 rfl rfl
        have y51_27e := hM.post 27 rfl rfl
        have y51_28e := hM.post 28 rfl rfl
        have y51_29e := hM.post 29 rfl rfl
        have y51_30e := hM.post 30 rfl rfl
        have y51_31e := hM.post 31 rfl rfl
        obtain ⟨y51_32b, y51_32p, y51_32n, y51_32c, y51_32q, y51_32k, y51_32d, y51_32m, y51_32l, y51_32e, y51_32i, y51_32o⟩ := hM.post 32 rfl rfl
        have y51_33e := hM.post 33 rfl rfl
        obtain ⟨y51_34b, y51_34p, y51_34n, y51_34c, y51_34q, y51_34k, y51_34d, y51_34m, y51_34l, y51_34e, y51_34i, y51_34o⟩ := hM.post 34 rfl rfl
        have y51_35e := hM.post 35 rfl rfl
        have y51_36e := hM.post 36 rfl rfl
        have y51_37e := hM.post 37 rfl rfl
        have b105_0 : Hid (At (sb5) 0 (.bool n0) v9) := Lib.hid (hM.keep.at 0 rfl)
        have b105_1 : Hid (At (sb5) 1 (.slice p0 A0.length q0) v9) := Lib.hid (hM.keep.at 1 rfl)
        have b111_0 : Hid (At (sb11) 0 (.bool n0) v9) := Lib.hid (hM.keep.at 2 rfl)
        have b111_1 : Hid (At (sb11) 1 (.slice p0 A0.length q0) v9) := Lib.hid (hM.keep.at 3 rfl)
        have b111_2 : Hid (At (sb11) 2 (.slice p1 B0.length q1) v9) := Lib.hid (hM.keep.at 4 rfl)
        have b112_0 : Hid (At (sb12) 0 (.bool mb) v9) := Lib.hid (hM.keep.at 5 rfl)
        have b112_1 : Hid (At (sb12) 1 (.slice sp2 sl2 sc2) v9) := Lib.hid (hM.keep.at 6 rfl)
        have b112_2 : Hid (At (sb12) 2 (.slice tp2 tl2 tc2) v9) := Lib.hid (hM.keep.at 7 rfl)
        have b114_0 : Hid (At (sb14) 0 (.bool ob) v9) := Lib.hid (hM.keep.at 8 rfl)
        have b114_1 : Hid (At (sb14) 1 (.slice sp3 sl3 sc3) v9) := Lib.hid (hM.keep.at 9 rfl)
        have b114_2 : Hid (At (sb14) 2 (.slice tp3 tl3 tc3) v9) := Lib.hid (hM.keep.at 10 rfl)
        have b116_0 : Hid (At (sb16) 0 (.bool hb) v9) := Lib.hid (hM.keep.at 11 rfl)
        have b116_1 : Hid (At (sb16) 1 (.slice sp4 sl4 sc4) v9) := Lib.hid (hM.keep.at 12 rfl)
        have b116_2 : Hid (At (sb16) 2 (.slice tp4 tl4 tc4) v9) := Lib.hid (hM.keep.at 13 rfl)
        have b0_0 : Hid (At (w1.heap.size) 0 (.bool mb) v9) := Lib.hid (hM.keep.at 14 rfl)
        have b0_1 : Hid (At (w1.heap.size) 1 (.slice sp51 sl51 sc51) v9) := Lib.hid (hM.keep.at 15 rfl)
        have b0_2 : Hid (At (w1.heap.size) 2 (.slice tp51 tl51 tc51) v9) := Lib.hid (hM.keep.at 16 rfl)
        have b1_0 : Hid (At (w3.heap.size) 0 (.bool ob) v9) := Lib.hid (hM.keep.at 17 rfl)
        have b1_1 : Hid (At (w3.heap.size) 1 (.slice sp52 sl52 sc52) v9) := Lib.hid (hM.keep.at 18 rfl)
        have b1_2 : Hid (At (w3.heap.size) 2 (.slice tp52 tl52 tc52) v9) := Lib.hid (hM.keep.at 19 rfl)
        have b2_0 : Hid (At (w5.heap.size) 0 (.bool hb) v9) := Lib.hid (hM.keep.at 20 rfl)
        have b2_1 : Hid (At (w5.heap.size) 1 (.slice sp53 sl53 sc53) v9) := Lib.hid (hM.keep.at 21 rfl)
        have b2_2 : Hid (At (w5.heap.size) 2 (.slice tp53 tl53 tc53) v9) := Lib.hid (hM.keep.at 22 rfl)
        have b3_0 : Hid (At (w7.heap.size) 0 (.bool sb54) v9) := Lib.hid (hM.keep.at 23 rfl)
        have b3_1 : Hid (At (w7.heap.size) 1 (.slice sp54 sl54 sc54) v9) := Lib.hid (hM.keep.at 24 rfl)
        have b3_2 : Hid (At (w7.heap.size) 2 (.slice tp54 tl54 tc54) v9) := Lib.hid (hM.keep.at 25 rfl)
        have gv9 : Gr v8 v9 := hM.gr
        have e9_ : Ext W4 v9 := Ext.below e8_ hM.blw
        have z0_ : sl ac 81 = .int .i64 (mc : Int) := y51_0e
        have z1_ : sl ac 82 = .int .i64 (mc : Int) := y51_1e
        have z2_ : sl ac 83 = .bool false := y51_2e
        have z3_ : sl ac 84 = .bool false := y51_3e
        have z4_ : sl ac 85 = .int .i64 (oc : Int) := y51_4e
        have z5_ : sl ac 86 = .int .i64 (oc : Int) := y51_5e
        have z6_ : sl ac 87 = .bool false := y51_6e
        have z7_ : sl ac 88 = .bool false := y51_7e
        have z8_ : sl ac 89 = .bool false := y51_8e
        have z9_ : sl ac 90 = .int .i64 (hc : Int) := y51_9e
        have z10_ : sl ac 91 = .int .i64 (hc : Int) := y51_10e
        have z11_ : sl ac 92 = .bool false := y51_11e
        have z12_ : sl ac 93 = .bool false := y51_12e
        have z13_ : sl ac 94 = .bool false := y51_13e
        have z14_ : sl ac 95 = .agg #[.bool mb, .slice sp51 sl51 sc51, .slice tp51 tl51 tc51] := y51_14e
        have z15_ : sl ac 96 = .agg #[.bool mb, .slice sp2 sl2 sc2, .slice tp2 tl2 tc2] := y51_15e
        have z16_ : sl ac 97 = .bool true := y51_16e
        have z17_ : sl ac 98 = .bool false := y51_17e
        have z18_ : sl ac 99 = .bool false := y51_18e
        have z19_ : sl ac 100 = .bool false := y51_19e
        have z20_ : sl ac 101 = .agg #[.bool ob, .slice sp52 sl52 sc52, .slice tp52 tl52 tc52] := y51_20e
        have z21_ : sl ac 102 = .agg #[.bool ob, .slice sp3 sl3 sc3, .slice tp3 tl3 tc3] := y51_21e
        have z22_ : sl ac 103 = .bool true := y51_22e
        have z23_ : sl ac 104 = .bool false := y51_23e
        have z24_ : sl ac 105 = .bool false := y51_24e
        have z25_ : sl ac 106 = .bool false := y51_25e
        have z26_ : sl ac 107 = .agg #[.bool hb, .slice sp53 sl53 sc53, .slice tp53 tl53 tc53] := y51_26e
        have z27_ : sl ac 108 = .agg #[.bool hb, .slice sp4 sl4 sc4, .slice tp4 tl4 tc4] := y51_27e
        have z28_ : sl ac 109 = .bool true := y51_28e
        have z29_ : sl ac 110 = .bool false := y51_29e
        have z30_ : sl ac 111 = .bool false := y51_30e
        have z31_ : sl ac 112 = .bool false := y51_31e
        have z32_ : sl ac 113 = .agg #[.bool y51_32b, .slice y51_32p y51_32n y51_32c, .slice y51_32q y51_32k y51_32d] := y51_32e
        have z33_ : sl ac 114 = .int .i64 n := y51_33e
        have z34_ : sl ac 115 = .agg #[.bool y51_34b, .slice y51_34p y51_34n y51_34c, .slice y51_34q y51_34k y51_34d] := y51_34e
        have z35_ : sl ac 116 = .bool true := y51_35e
        have z36_ : sl ac 117 = .bool false := y51_36e
        have z37_ : sl ac 118 = .bool false := y51_37e
        rw [hM.ag.lay]
        simp only [lay, List.foldl_cons, List.foldl_nil, List.setIfInBounds_toArray, List.set_cons_zero, List.set_cons_succ, z0_, z1_, z2_, z3_, z4_, z5_, z6_, z7_, z8_, z9_, z10_, z11_, z12_, z13_, z14_, z15_, z16_, z17_, z18_, z19_, z20_, z21_, z22_, z23_, z24_, z25_, z26_, z27_, z28_, z29_, z30_, z31_, z32_, z33_, z34_, z35_, z36_, z37_]
        clear hM hkeep51 hob51 hne51 z0_ z1_ z2_ z3_ z4_ z5_ z6_ z7_ z8_ z9_ z10_ z11_ z12_ z13_ z14_ z15_ z16_ z17_ z18_ z19_ z20_ z21_ z22_ z23_ z24_ z25_ z26_ z27_ z28_ z29_ z30_ z31_ z32_ z33_ z34_ z35_ z36_ z37_ y51_0e y51_1e y51_2e y51_3e y51_4e y51_5e y51_6e y51_7e y51_8e y51_9e y51_10e y51_11e y51_12e y51_13e y51_14e y51_15e y51_16e y51_17e y51_18e y51_19e y51_20e y51_21e y51_22e y51_23e y51_24e y51_25e y51_26e y51_27e y51_28e y51_29e y51_30e y51_31e y51_32e y51_33e y51_34e y51_35e y51_36e y51_37e
        have A0_0 := Lib.hid b0_0.out
        have A0_1 := Lib.hid b0_1.out
        have A0_2 := Lib.hid b0_2.out
        have K0 := Lib.hid (k0.out.gr (x3.gr.trans (y4.gr.trans (x5.gr.trans (y6.gr.trans (x7.gr.trans (y8.gr.trans gv9)))))))
        have Wa0 := Lib.hid (((o51.gr (y2.gr.trans (x3.gr.trans (y4.gr.trans (x5.gr.trans (y6.gr.trans (x7.gr.trans (y8.gr.trans gv9)))))))).mono XX.out.size)).wr
        have La0 := Lib.hid (((o51.gr (y2.gr.trans (x3.gr.trans (y4.gr.trans (x5.gr.trans (y6.gr.trans (x7.gr.trans (y8.gr.trans gv9)))))))).mono XX.out.size)).len
        have Wu0 := Lib.hid (((q51_.gr (y2.gr.trans (x3.gr.trans (y4.gr.trans (x5.gr.trans (y6.gr.trans (x7.gr.trans (y8.gr.trans gv9)))))))).mono XX.out.size)).wr
        have Lu0 := Lib.hid (((q51_.gr (y2.gr.trans (x3.gr.trans (y4.gr.trans (x5.gr.trans (y6.gr.trans (x7.gr.trans (y8.gr.trans gv9)))))))).mono XX.out.size)).len
        have A1_0 := Lib.hid b1_0.out
        have A1_1 := Lib.hid b1_1.out
        have A1_2 := Lib.hid b1_2.out
        have K1 := Lib.hid (k1.out.gr (x5.gr.trans (y6.gr.trans (x7.gr.trans (y8.gr.trans gv9)))))
        have Wa1 := Lib.hid (((o52.gr (y4.gr.trans (x5.gr.trans (y6.gr.trans (x7.gr.trans (y8.gr.trans gv9)))))).mono e2_.size)).wr
        have La1 := Lib.hid (((o52.gr (y4.gr.trans (x5.gr.trans (y6.gr.trans (x7.gr.trans (y8.gr.trans gv9)))))).mono e2_.size)).len
        have Wu1 := Lib.hid (((q52_.gr (y4.gr.trans (x5.gr.trans (y6.gr.trans (x7.gr.trans (y8.gr.trans gv9)))))).mono e2_.size)).wr
        have Lu1 := Lib.hid (((q52_.gr (y4.gr.trans (x5.gr.trans (y6.gr.trans (x7.gr.trans (y8.gr.trans gv9)))))).mono e2_.size)).len
        have A2_0 := Lib.hid b2_0.out
        have A2_1 := Lib.hid b2_1.out
        have A2_2 := Lib.hid b2_2.out
        have K2 := Lib.hid (k2.out.gr (x7.gr.trans (y8.gr.trans gv9)))
        have Wa2 := Lib.hid (((o53.gr (y6.gr.trans (x7.gr.trans (y8.gr.trans gv9)))).mono e4_.size)).wr
        have La2 := Lib.hid (((o53.gr (y6.gr.trans (x7.gr.trans (y8.gr.trans gv9)))).mono e4_.size)).len
        have Wu2 := Lib.hid (((q53_.gr (y6.gr.trans (x7.gr.trans (y8.gr.trans gv9)))).mono e4_.size)).wr
        have Lu2 := Lib.hid (((q53_.gr (y6.gr.trans (x7.gr.trans (y8.gr.trans gv9)))).mono e4_.size)).len
        have A3_0 := Lib.hid b3_0.out
        have A3_1 := Lib.hid b3_1.out
        have A3_2 := Lib.hid b3_2.out
        have K3 := Lib.hid (k3.out.gr gv9)
        have Wa3 := Lib.hid (((o54.gr (y8.gr.trans gv9)).1.mono e6_.size)).wr
        have La3 := Lib.hid (((o54.gr (y8.gr.trans gv9)).1.mono e6_.size)).len
        have Wu3 := Lib.hid (((o54.gr (y8.gr.trans gv9)).2.mono e6_.size)).wr
        have Lu3 := Lib.hid (((o54.gr (y8.gr.trans gv9)).2.mono e6_.size)).len
        have XS : Hid (Ext W4 v9) := e9_
        have g0 := A0_0.out.1
        have g1 := A0_1.out.1
        have g2 := A0_2.out.1
        go_wp2_with fail
        refine (spoil06_calls (B := W4.heap.size) Wa0.out Wu0.out XS.out.size La0.out Lu0.out).mono ?_
        rintro e ws0 ⟨rfl, sp_⟩
        have XS : Hid (Ext W4 ws0) := Ext.below XS.out sp_.below
        have A1_0 := Lib.hid (A1_0.out.spl K1.out sp_)
        have A1_1 := Lib.hid (A1_1.out.spl K1.out sp_)
        have A1_2 := Lib.hid (A1_2.out.spl K1.out sp_)
        have K1 := Lib.hid (K1.out.spl sp_)
        have Wa1 := Lib.hid (Wa1.out.spl sp_)
        have Wu1 := Lib.hid (Wu1.out.spl sp_)
        have A2_0 := Lib.hid (A2_0.out.spl K2.out sp_)
        have A2_1 := Lib.hid (A2_1.out.spl K2.out sp_)
        have A2_2 := Lib.hid (A2_2.out.spl K2.out sp_)
        have K2 := Lib.hid (K2.out.spl sp_)
        have Wa2 := Lib.hid (Wa2.out.spl sp_)
        have Wu2 := Lib.hid (Wu2.out.spl sp_)
        have A3_0 := Lib.hid (A3_0.out.spl K3.out sp_)
        have A3_1 := Lib.hid (A3_1.out.spl K3.out sp_)
        have A3_2 := Lib.hid (A3_2.out.spl K3.out sp_)
        have K3 := Lib.hid (K3.out.spl sp_)
        have Wa3 := Lib.hid (Wa3.out.spl sp_)
        have Wu3 := Lib.hid (Wu3.out.spl sp_)
        clear sp_ g0 g1 g2
        have g0 := A1_0.out.1
        have g1 := A1_1.out.1
        have g2 := A1_2.out.1
        go_wp2_with fail
        refine (spoil06_calls (B := W4.heap.size) Wa1.out Wu1.out XS.out.size La1.out Lu1.out).mono ?_
        rintro e ws1 ⟨rfl, sp_⟩
        have XS : Hid (Ext W4 ws1) := Ext.below XS.out sp_.below
        have A2_0 := Lib.hid (A2_0.out.spl K2.out sp_)
        have A2_1 := Lib.hid (A2_1.out.spl K2.out sp_)
        have A2_2 := Lib.hid (A2_2.out.spl K2.out sp_)
        have K2 := Lib.hid (K2.out.spl sp_)
        have Wa2 := Lib.hid (Wa2.out.spl sp_)
        have Wu2 := Lib.hid (Wu2.out.spl sp_)
        have A3_0 := Lib.hid (A3_0.out.spl K3.out sp_)
        have A3_1 := Lib.hid (A3_1.out.spl K3.out sp_)
        have A3_2 := Lib.hid (A3_2.out.spl K3.out sp_)
        have K3 := Lib.hid (K3.out.spl sp_)
        have Wa3 := Lib.hid (Wa3.out.spl sp_)
        have Wu3 := Lib.hid (Wu3.out.spl sp_)
        clear sp_ g0 g1 g2
        have g0 := A2_0.out.1
        have g1 := A2_1.out.1
        have g2 := A2_2.out.1
        go_wp2_with fail
        refine (spoil06_calls (B := W4.heap.size) Wa2.out Wu2.out XS.out.size La2.out Lu2.out).mono ?_
        rintro e ws2 ⟨rfl, sp_⟩
        have XS : Hid (Ext W4 ws2) := Ext.below XS.out sp_.below
        have A3_0 := Lib.hid (A3_0.out.spl K3.out sp_)
        have A3_1 := Lib.hid (A3_1.out.spl K3.out sp_)
        have A3_2 := Lib.hid (A3_2.out.spl K3.out sp_)
        have K3 := Lib.hid (K3.out.spl sp_)
        have Wa3 := Lib.hid (Wa3.out.spl sp_)
        have Wu3 := Lib.hid (Wu3.out.spl sp_)
        clear sp_ g0 g1 g2
        have g0 := A3_0.out.1
        have g1 := A3_1.out.1
        have g2 := A3_2.out.1
        go_wp2_with fail
        refine (spoil06_calls (B := W4.heap.size) Wa3.out Wu3.out XS.out.size La3.out Lu3.out).mono ?_
        rintro e ws3 ⟨rfl, sp_⟩
        have XS : Hid (Ext W4 ws3) := Ext.below XS.out sp_.below
        clear sp_ g0 g1 g2
        go_wp2_with fail
        exact ⟨⟨i + 1, by first | rfl | go_num, LT.out, XS.out⟩, by simp [intOf]; have := LT.out; omega⟩
    · have t3 : (2 : Int) ≤ (i : Int) := by omega
      clear hi hi2
      go_wp2_with fail
      have hkeep51 : AllAt' ([(sb5, 0, .bool n0), (sb5, 1, .slice p0 A0.length q0), (sb11, 0, .bool n0), (sb11, 1, .slice p0 A0.length q0), (sb11, 2, .slice p1 B0.length q1), (sb12, 0, .bool mb), (sb12, 1, .slice sp2 sl2 sc2), (sb12, 2, .slice tp2 tl2 tc2), (sb14, 0, .bool ob), (sb14, 1, .slice sp3 sl3 sc3), (sb14, 2, .slice tp3 tl3 tc3), (sb16, 0, .bool hb), (sb16, 1, .slice sp4 sl4 sc4), (sb16, 2, .slice tp4 tl4 tc4)] : List (Nat × Nat × Value)) wr := AllAt'.cons b105_0.out (AllAt'.cons b105_1.out (AllAt'.cons b111_0.out (AllAt'.cons b111_1.out (AllAt'.cons b111_2.out (AllAt'.cons b112_0.out (AllAt'.cons b112_1.out (AllAt'.cons b112_2.out (AllAt'.cons b114_0.out (AllAt'.cons b114_1.out (AllAt'.cons b114_2.out (AllAt'.cons b116_0.out (AllAt'.cons b116_1.out (AllAt'.cons b116_2.out (AllAt'.nil _))))))))))))))
      have hob51 : ObOk W4.heap.size wr (([(sb5, 0, .bool n0), (sb5, 1, .slice p0 A0.length q0), (sb11, 0, .bool n0), (sb11, 1, .slice p0 A0.length q0), (sb11, 2, .slice p1 B0.length q1), (sb12, 0, .bool mb), (sb12, 1, .slice sp2 sl2 sc2), (sb12, 2, .slice tp2 tl2 tc2), (sb14, 0, .bool ob), (sb14, 1, .slice sp3 sl3 sc3), (sb14, 2, .slice tp3 tl3 tc3), (sb16, 0, .bool hb), (sb16, 1, .slice sp4 sl4 sc4), (sb16, 2, .slice tp4 tl4 tc4)] : List (Nat × Nat × Value)).map (·.1)) ([] : List (Nat × List (Nat × Value))) := trivial
      have hne51 : AllNe (([] : List (Nat × List (Nat × Value))).map (·.1)) := trivial
      (try simp only [List.append_eq, List.cons_append, List.nil_append])
      refine wp_region_gen ⟨[127, 128, 129, 130, 131, 132, 133, 134, 10], fun i => false, fun i => ([none, none, none, none, none, none, none, none, none] : List (Option (BoxRef × Nat))).getD i none, fun i => ([Sg.val (.agg #[.bool n0, .slice p0 A0.length q0, .slice p1 B0.length q1]), Sg.val (.bool cm), Sg.val (.agg #[.bool n0, .slice p0 A0.length q0, .slice p1 B0.length q1]), Sg.val (.bool cm), Sg.val (.bool true), Sg.val (.bool true), Sg.val (.bool true), Sg.val (.bool true), Sg.val (.bool true)] : List Sg).getD i Sg.any, [(sb5, 0, .bool n0), (sb5, 1, .slice p0 A0.length q0), (sb11, 0, .bool n0), (sb11, 1, .slice p0 A0.length q0), (sb11, 2, .slice p1 B0.length q1), (sb12, 0, .bool mb), (sb12, 1, .slice sp2 sl2 sc2), (sb12, 2, .slice tp2 tl2 tc2), (sb14, 0, .bool ob), (sb14, 1, .slice sp3 sl3 sc3), (sb14, 2, .slice tp3 tl3 tc3), (sb16, 0, .bool hb), (sb16, 1, .slice sp4 sl4 sc4), (sb16, 2, .slice tp4 tl4 tc4)], []⟩ W4.heap.size (by kernel_rfl) (by kernel_rfl) XX.out.size ?hfr hkeep51 hob51 hne51 ?hs ?he
      case hfr =>
        intro i v wk hi hst hv
        exact absurd hi (by simp)
      case hs =>
        refine ⟨?_, ?_, ?_, ?_, ?_, ?_, ?_, ?_, ?_, trivial⟩
        · refine RStep.op rfl rfl (fun ac wk hp K hK => ?_)
          have t11_ : ac.tmps[11]?.getD undef = .pointer (some ⟨sb11, 0, none⟩) := hp.slot 11 rfl rfl
          have c0_ := hp.cell 2 rfl
          have c1_ := hp.cell 3 rfl
          have c2_ := hp.cell 4 rfl
          have HP := Lib.hid hp
          clear hp
          go_simp
          refine hK.out _ _ ?_ (Ext.refl _) (fun h => absurd h (by simp))
          exact rfl
        · refine RStep.op rfl rfl (fun ac wk hp K hK => ?_)
          have u0e := hp.get 0 (by decide +kernel) rfl
          have t127_ : ac.tmps[127]?.getD undef = .agg #[.bool n0, .slice p0 A0.length q0, .slice p1 B0.length q1] := slot_is' u0e
          have HP := Lib.hid hp
          clear hp
          go_simp
          refine (rmay_raw (h0.gr HP.out.gr) (g0.gr HP.out.gr) rfl HLA0.out HLB0.out (by decide) (by decide) cm HCM.out).mono ?_
          rintro e wk' ⟨rfl, ix⟩
          refine hK.out _ _ ?_ ix (fun h => absurd h (by simp))
          exact rfl
        · refine RStep.op rfl rfl (fun ac wk hp K hK => ?_)
          have t11_ : ac.tmps[11]?.getD undef = .pointer (some ⟨sb11, 0, none⟩) := hp.slot 11 rfl rfl
          have c0_ := hp.cell 2 rfl
          have c1_ := hp.cell 3 rfl
          have c2_ := hp.cell 4 rfl
          have HP := Lib.hid hp
          clear hp
          go_simp
          refine hK.out _ _ ?_ (Ext.refl _) (fun h => absurd h (by simp))
          exact rfl
        · refine RStep.op rfl rfl (fun ac wk hp K hK => ?_)
          have u2e := hp.get 2 (by decide +kernel) rfl
          have t129_ : ac.tmps[129]?.getD undef = .agg #[.bool n0, .slice p0 A0.length q0, .slice p1 B0.length q1] := slot_is' u2e
          have HP := Lib.hid hp
          clear hp
          go_simp
          refine (rmay06_raw (h0.gr HP.out.gr) (g0.gr HP.out.gr) rfl HLA0.out HLB0.out (by decide) (by decide) cm HCM.out).mono ?_
          rintro e wk' ⟨rfl, ix⟩
          refine hK.out _ _ ?_ ix (fun h => absurd h (by simp))
          exact rfl
        · refine RStep.op rfl rfl (fun ac wk hp K hK => ?_)
          have u1e := hp.get 1 (by decide +kernel) rfl
          have t128_ : ac.tmps[128]?.getD undef = .bool cm := slot_is' u1e
          have u3e := hp.get 3 (by decide +kernel) rfl
          have t130_ : ac.tmps[130]?.getD undef = .bool cm := slot_is' u3e
          have HP := Lib.hid hp
          clear hp
          go_simp
          refine hK.out _ _ ?_ (Ext.refl _) (fun h => absurd h (by simp))
          exact (by first | rfl | (apply congrArg Value.bool; simp; done) | (apply congrArg Value.bool; simp; omega) | (simp [*]; done))
        · refine RStep.op rfl rfl (fun ac wk hp K hK => ?_)
          have u4e := hp.get 4 (by decide +kernel) rfl
          have t131_ : ac.tmps[131]?.getD undef = .bool true := slot_is' u4e
          have HP := Lib.hid hp
          clear hp
          go_simp
          refine hK.out _ _ ?_ (Ext.refl _) (fun h => absurd h (by simp))
          exact rfl
        · refine RStep.yes 5 true rfl rfl (by decide +kernel) rfl rfl (fun ac wk hp K hK => ?_)
          have HP := Lib.hid hp
          clear hp
          go_simp
          refine (awake06_calls _).mono ?_
          rintro e wk' ⟨rfl, ix⟩
          refine hK.out _ _ ?_ ix (fun h => absurd h (by simp))
          exact rfl
        · refine RStep.op rfl rfl (fun ac wk hp K hK => ?_)
          have u5e := hp.get 5 (by decide +kernel) rfl
          have t132_ : ac.tmps[132]?.getD undef = .bool true := slot_is' u5e
          have u6e := hp.get 6 (by decide +kernel) rfl
          have t133_ : ac.tmps[133]?.getD undef = .bool true := slot_is' u6e
          have HP := Lib.hid hp
          clear hp
          go_simp
          refine hK.out _ _ ?_ (Ext.refl _) (fun h => absurd h (by simp))
          exact rfl
        · refine RStep.op rfl rfl (fun ac wk hp K hK => ?_)
          have u7e := hp.get 7 (by decide +kernel) rfl
          have t134_ : ac.tmps[134]?.getD undef = .bool true := slot_is' u7e
          have HP := Lib.hid hp
          clear hp
          go_simp
          refine hK.out _ _ ?_ (Ext.refl _) (fun h => absurd h (by simp))
          exact rfl
      case he =>
        intro ac v1 hM
        have y51_0e := hM.post 0 rfl rfl
        have y51_1e := hM.post 1 rfl rfl
        have y51_2e := hM.post 2 rfl rfl
        have y51_3e := hM.post 3 rfl rfl
        have y51_4e := hM.post 4 rfl rfl
        have y51_5e := hM.post 5 rfl rfl
        have y51_6e := hM.post 6 rfl rfl
        have y51_7e := hM.post 7 rfl rfl
        have y51_8e := hM.post 8 rfl rfl
        have b105_0 : Hid (At (sb5) 0 (.bool n0) v1) := Lib.hid (hM.keep.at 0 rfl)
        have b105_1 : Hid (At (sb5) 1 (.slice p0 A0.length q0) v1) := Lib.hid (hM.keep.at 1 rfl)
        have b111_0 : Hid (At (sb11) 0 (.bool n0) v1) := Lib.hid (hM.keep.at 2 rfl)
        have b111_1 : Hid (At (sb11) 1 (.slice p0 A0.length q0) v1) := Lib.hid (hM.keep.at 3 rfl)
        have b111_2 : Hid (At (sb11) 2 (.slice p1 B0.length q1) v1) := Lib.hid (hM.keep.at 4 rfl)
        have b112_0 : Hid (At (sb12) 0 (.bool mb) v1) := Lib.hid (hM.keep.at 5 rfl)
        have b112_1 : Hid (At (sb12) 1 (.slice sp2 sl2 sc2) v1) := Lib.hid (hM.keep.at 6 rfl)
        have b112_2 : Hid (At (sb12) 2 (.slice tp2 tl2 tc2) v1) := Lib.hid (hM.keep.at 7 rfl)
        have b114_0 : Hid (At (sb14) 0 (.bool ob) v1) := Lib.hid (hM.keep.at 8 rfl)
        have b114_1 : Hid (At (sb14) 1 (.slice sp3 sl3 sc3) v1) := Lib.hid (hM.keep.at 9 rfl)
        have b114_2 : Hid (At (sb14) 2 (.slice tp3 tl3 tc3) v1) := Lib.hid (hM.keep.at 10 rfl)
        have b116_0 : Hid (At (sb16) 0 (.bool hb) v1) := Lib.hid (hM.keep.at 11 rfl)
        have b116_1 : Hid (At (sb16) 1 (.slice sp4 sl4 sc4) v1) := Lib.hid (hM.keep.at 12 rfl)
        have b116_2 : Hid (At (sb16) 2 (.slice tp4 tl4 tc4) v1) := Lib.hid (hM.keep.at 13 rfl)
        have gv1 : Gr wr v1 := hM.gr
        have e1_ : Ext W4 v1 := Ext.below XX.out hM.blw
        have z0_ : sl ac 127 = .agg #[.bool n0, .slice p0 A0.length q0, .slice p1 B0.length q1] := y51_0e
        have z1_ : sl ac 128 = .bool cm := y51_1e
        have z2_ : sl ac 129 = .agg #[.bool n0, .slice p0 A0.length q0, .slice p1 B0.length q1] := y51_2e
        have z3_ : sl ac 130 = .bool cm := y51_3e
        have z4_ : sl ac 131 = .bool true := y51_4e
        have z5_ : sl ac 132 = .bool true := y51_5e
        have z6_ : sl ac 133 = .bool true := y51_6e
        have z7_ : sl ac 134 = .bool true := y51_7e
        have z8_ : sl ac 10 = .bool true := y51_8e
        rw [hM.ag.lay]
        simp only [lay, List.foldl_cons, List.foldl_nil, List.setIfInBounds_toArray, List.set_cons_zero, List.set_cons_succ, z0_, z1_, z2_, z3_, z4_, z5_, z6_, z7_, z8_]
        clear hM hkeep51 hob51 hne51 z0_ z1_ z2_ z3_ z4_ z5_ z6_ z7_ z8_ y51_0e y51_1e y51_2e y51_3e y51_4e y51_5e y51_6e y51_7e y51_8e
        go_wp2_with fail
        go_ret
        exact ⟨rfl, EW.out.trans e1_⟩

set_option maxHeartbeats 4000000 in
set_option maxRecDepth 100000 in
theorem ratMakes_hi {w : World} {n0 : Bool} {v0 u0 : Value} {A0 B0 : List Nat} (h0 : Limbs w v0 A0) (g0 : Limbs w u0 B0) (n : Int) (hn : -9223372036854775808 ≤ n ∧ n ≤ 9223372036854775807) (d : Int) (hd : -9223372036854775808 ≤ d ∧ d ≤ 9223372036854775807) (h : Int) (hlb : longR [(n0, A0, B0)] = false) (hg : 65536 < h) :
    Calls Tryz.prog 4 #[.agg #[.bool n0, v0], u0, .int .i64 n, .int .i64 d, .int .i64 h] w (Yes w) := by
  obtain ⟨p0, q0, rfl, -, -, -⟩ := h0.open
  obtain ⟨p1, q1, rfl, -, -, -⟩ := g0.open
  have HLB := Lib.hid hlb
  have HLA0 : Hid (A0.length ≤ 6) := (longR_get hlb (a := (n0, A0, B0)) (by simp)).1
  have HLB0 : Hid (B0.length ≤ 6) := (longR_get hlb (a := (n0, A0, B0)) (by simp)).2
  obtain ⟨⟨mb, mn, md⟩, mc, hm1, hm2⟩ := make6_both n0 A0 B0 HLA0.out HLB0.out
  obtain ⟨⟨ob, on, od⟩, oc, ho1, ho2⟩ := over6_both n d hn.1 hn.2 hd.1 hd.2
  obtain ⟨⟨hb, hn_, hd_⟩, hc, hh1, hh2⟩ := half6_both h (.inr hg)
  obtain ⟨cm, hcm⟩ : ∃ c, decide (val B0 ≠ 0 ∧ decide ((mkRat (iv n0 A0) (val B0)).num < 0) = n0 ∧ dig (mkRat (iv n0 A0) (val B0)).num.natAbs = A0 ∧ dig (mkRat (iv n0 A0) (val B0)).den = B0) = c := ⟨_, rfl⟩
  have HM1 := Lib.hid hm1
  have HM2 := Lib.hid hm2
  have HO1 := Lib.hid ho1
  have HO2 := Lib.hid ho2
  have HH1 := Lib.hid hh1
  have HH2 := Lib.hid hh2
  have HCM := Lib.hid hcm
  have HN := Lib.hid hn
  clear hlb hm1 hm2 ho1 ho2 hh1 hh2 hcm hn hd
  go_enter Tryz.func4, Tryz.ntmps4
  go_wp2_with fail
  obtain ⟨v1, hv1⟩ : ∃ W, W = (((w.alloc (.cells #[.bool n0, .slice p0 A0.length q0] 25)).alloc (.cells #[.bool n0, .slice p0 A0.length q0, .slice p1 B0.length q1] 36)).alloc (.cells #[.bool n0, .slice p0 A0.length q0, .slice p1 B0.length q1] 36)) := ⟨_, rfl⟩
  have y1 : Ext w v1 := by rw [hv1]; exact ((((Ext.refl _).alloc _).alloc _).alloc _)
  have b0_0 : Hid (At (w.heap.size) 0 (.bool n0) v1) := by rw [hv1]; exact At.ext (At.n0 (by rfl)) (((Ext.refl _).alloc _).alloc _)
  have b0_1 : Hid (At (w.heap.size) 1 (.slice p0 A0.length q0) v1) := by rw [hv1]; exact At.ext (At.n0 (by rfl)) (((Ext.refl _).alloc _).alloc _)
  have k0 : Hid (Bx 2 (w.heap.size) v1) := by rw [hv1]; exact Bx.gr (Bx.n0 2 ⟨rfl, by decide⟩ (by decide) noI_s2) (Ext.gr (((Ext.refl _).alloc _).alloc _))
  have u0 : Hid (w.heap.size < v1.heap.size) := b0_0.out.2
  have b1_0 : Hid (At (w.heap.size + 1) 0 (.bool n0) v1) := by rw [hv1]; exact At.ext (At.n1 (by rfl)) ((Ext.refl _).alloc _)
  have b1_1 : Hid (At (w.heap.size + 1) 1 (.slice p0 A0.length q0) v1) := by rw [hv1]; exact At.ext (At.n1 (by rfl)) ((Ext.refl _).alloc _)
  have b1_2 : Hid (At (w.heap.size + 1) 2 (.slice p1 B0.length q1) v1) := by rw [hv1]; exact At.ext (At.n1 (by rfl)) ((Ext.refl _).alloc _)
  have k1 : Hid (Bx 3 (w.heap.size + 1) v1) := by rw [hv1]; exact Bx.gr (Bx.n1 3 ⟨rfl, by decide⟩ (by decide) noI_s3) (Ext.gr ((Ext.refl _).alloc _))
  have u1 : Hid (w.heap.size + 1 < v1.heap.size) := b1_0.out.2
  have b2_0 : Hid (At (w.heap.size + 1 + 1) 0 (.bool n0) v1) := by rw [hv1]; exact At.ext (At.n2 (by rfl)) (Ext.refl _)
  have b2_1 : Hid (At (w.heap.size + 1 + 1) 1 (.slice p0 A0.length q0) v1) := by rw [hv1]; exact At.ext (At.n2 (by rfl)) (Ext.refl _)
  have b2_2 : Hid (At (w.heap.size + 1 + 1) 2 (.slice p1 B0.length q1) v1) := by rw [hv1]; exact At.ext (At.n2 (by rfl)) (Ext.refl _)
  have k2 : Hid (Bx 3 (w.heap.size + 1 + 1) v1) := by rw [hv1]; exact Bx.gr (Bx.n2 3 ⟨rfl, by decide⟩ (by decide) noI_s3) (Ext.gr (Ext.refl _))
  have u2 : Hid (w.heap.size + 1 + 1 < v1.heap.size) := b2_0.out.2
  have e1_ : Ext w v1 := y1
  rw [← hv1]
  clear hv1
  refine (long_calls (Ls := [(n0, A0, B0)]) (sl3_1 (b2_0.out) (b2_1.out) (b2_2.out) (⟨rfl, (h0.ext y1), (g0.ext y1)⟩)) false HLB.out).mono ?_
  rintro e w2 ⟨rfl, x2⟩
  have e2_ : Ext w w2 := Ext.trans e1_ x2
  have g0_0 := (b0_0.out.ext x2).1
  have g0_1 := (b0_1.out.ext x2).1
  have f0 : w.heap.size < w2.heap.size := (b0_0.out.ext x2).2
  go_wp2_with fail
  refine (HM2.out _ _ _ (h0.ext (y1.trans x2)) (g0.ext (y1.trans x2))).mono ?_
  rintro e w3 ⟨sp2, sl2, sc2, tp2, tl2, tc2, rfl, o2, q2_, x3⟩
  have e3_ : Ext w w3 := Ext.trans e2_ x3
  clear g0_0 g0_1 f0
  go_wp2_with fail
  obtain ⟨v4, hv4⟩ : ∃ W, W = (w3.alloc (.cells #[.bool mb, .slice sp2 sl2 sc2, .slice tp2 tl2 tc2] 36)) := ⟨_, rfl⟩
  have y4 : Ext w3 v4 := by rw [hv4]; exact ((Ext.refl _).alloc _)
  have b3_0 : Hid (At (w3.heap.size) 0 (.bool mb) v4) := by rw [hv4]; exact At.ext (At.n0 (by rfl)) (Ext.refl _)
  have b3_1 : Hid (At (w3.heap.size) 1 (.slice sp2 sl2 sc2) v4) := by rw [hv4]; exact At.ext (At.n0 (by rfl)) (Ext.refl _)
  have b3_2 : Hid (At (w3.heap.size) 2 (.slice tp2 tl2 tc2) v4) := by rw [hv4]; exact At.ext (At.n0 (by rfl)) (Ext.refl _)
  have k3 : Hid (Bx 3 (w3.heap.size) v4) := by rw [hv4]; exact Bx.gr (Bx.n0 3 ⟨rfl, by decide⟩ (by decide) noI_s3) (Ext.gr (Ext.refl _))
  have u3 : Hid (w3.heap.size < v4.heap.size) := b3_0.out.2
  have e4_ : Ext w v4 := Ext.trans e3_ y4
  rw [← hv4]
  clear hv4
  refine (HO2.out _).mono ?_
  rintro e w5 ⟨sp3, sl3, sc3, tp3, tl3, tc3, rfl, o3, q3_, x5⟩
  have e5_ : Ext w w5 := Ext.trans e4_ x5
  go_wp2_with fail
  obtain ⟨v6, hv6⟩ : ∃ W, W = (w5.alloc (.cells #[.bool ob, .slice sp3 sl3 sc3, .slice tp3 tl3 tc3] 36)) := ⟨_, rfl⟩
  have y6 : Ext w5 v6 := by rw [hv6]; exact ((Ext.refl _).alloc _)
  have b4_0 : Hid (At (w5.heap.size) 0 (.bool ob) v6) := by rw [hv6]; exact At.ext (At.n0 (by rfl)) (Ext.refl _)
  have b4_1 : Hid (At (w5.heap.size) 1 (.slice sp3 sl3 sc3) v6) := by rw [hv6]; exact At.ext (At.n0 (by rfl)) (Ext.refl _)
  have b4_2 : Hid (At (w5.heap.size) 2 (.slice tp3 tl3 tc3) v6) := by rw [hv6]; exact At.ext (At.n0 (by rfl)) (Ext.refl _)
  have k4 : Hid (Bx 3 (w5.heap.size) v6) := by rw [hv6]; exact Bx.gr (Bx.n0 3 ⟨rfl, by decide⟩ (by decide) noI_s3) (Ext.gr (Ext.refl _))
  have u4 : Hid (w5.heap.size < v6.heap.size) := b4_0.out.2
  have e6_ : Ext w v6 := Ext.trans e5_ y6
  rw [← hv6]
  clear hv6
  refine (HH2.out _).mono ?_
  rintro e w7 ⟨sp4, sl4, sc4, tp4, tl4, tc4, rfl, o4, q4_, x7⟩
  have e7_ : Ext w w7 := Ext.trans e6_ x7
  go_wp2_with fail
  obtain ⟨v8, hv8⟩ : ∃ W, W = (w7.alloc (.cells #[.bool hb, .slice sp4 sl4 sc4, .slice tp4 tl4 tc4] 36)) := ⟨_, rfl⟩
  have y8 : Ext w7 v8 := by rw [hv8]; exact ((Ext.refl _).alloc _)
  have b5_0 : Hid (At (w7.heap.size) 0 (.bool hb) v8) := by rw [hv8]; exact At.ext (At.n0 (by rfl)) (Ext.refl _)
  have b5_1 : Hid (At (w7.heap.size) 1 (.slice sp4 sl4 sc4) v8) := by rw [hv8]; exact At.ext (At.n0 (by rfl)) (Ext.refl _)
  have b5_2 : Hid (At (w7.heap.size) 2 (.slice tp4 tl4 tc4) v8) := by rw [hv8]; exact At.ext (At.n0 (by rfl)) (Ext.refl _)
  have k5 : Hid (Bx 3 (w7.heap.size) v8) := by rw [hv8]; exact Bx.gr (Bx.n0 3 ⟨rfl, by decide⟩ (by decide) noI_s3) (Ext.gr (Ext.refl _))
  have u5 : Hid (w7.heap.size < v8.heap.size) := b5_0.out.2
  have e8_ : Ext w v8 := Ext.trans e7_ y8
  rw [← hv8]
  clear hv8
  have C5_0 := Lib.hid (b0_0.out.ext (x2.trans (x3.trans (y4.trans (x5.trans (y6.trans (x7.trans y8)))))))
  have C5_1 := Lib.hid (b0_1.out.ext (x2.trans (x3.trans (y4.trans (x5.trans (y6.trans (x7.trans y8)))))))
  have CK5 := Lib.hid (k0.out.gr (x2.gr.trans (x3.gr.trans (y4.gr.trans (x5.gr.trans (y6.gr.trans (x7.gr.trans y8.gr)))))))
  have C11_0 := Lib.hid (b1_0.out.ext (x2.trans (x3.trans (y4.trans (x5.trans (y6.trans (x7.trans y8)))))))
  have C11_1 := Lib.hid (b1_1.out.ext (x2.trans (x3.trans (y4.trans (x5.trans (y6.trans (x7.trans y8)))))))
  have C11_2 := Lib.hid (b1_2.out.ext (x2.trans (x3.trans (y4.trans (x5.trans (y6.trans (x7.trans y8)))))))
  have CK11 := Lib.hid (k1.out.gr (x2.gr.trans (x3.gr.trans (y4.gr.trans (x5.gr.trans (y6.gr.trans (x7.gr.trans y8.gr)))))))
  have C12_0 := Lib.hid (b3_0.out.ext (x5.trans (y6.trans (x7.trans y8))))
  have C12_1 := Lib.hid (b3_1.out.ext (x5.trans (y6.trans (x7.trans y8))))
  have C12_2 := Lib.hid (b3_2.out.ext (x5.trans (y6.trans (x7.trans y8))))
  have CK12 := Lib.hid (k3.out.gr (x5.gr.trans (y6.gr.trans (x7.gr.trans y8.gr))))
  have C14_0 := Lib.hid (b4_0.out.ext (x7.trans y8))
  have C14_1 := Lib.hid (b4_1.out.ext (x7.trans y8))
  have C14_2 := Lib.hid (b4_2.out.ext (x7.trans y8))
  have CK14 := Lib.hid (k4.out.gr (x7.gr.trans y8.gr))
  have C16_0 := Lib.hid b5_0.out
  have C16_1 := Lib.hid b5_1.out
  have C16_2 := Lib.hid b5_2.out
  have CK16 := Lib.hid k5.out
  have FA12 := Lib.hid (o2.limbs.ext (y4.trans (x5.trans (y6.trans (x7.trans y8)))))
  have FU12 := Lib.hid (q2_.limbs.ext (y4.trans (x5.trans (y6.trans (x7.trans y8)))))
  have FA14 := Lib.hid (o3.limbs.ext (y6.trans (x7.trans y8)))
  have FU14 := Lib.hid (q3_.limbs.ext (y6.trans (x7.trans y8)))
  have FA16 := Lib.hid (o4.limbs.ext y8)
  have FU16 := Lib.hid (q4_.limbs.ext y8)
  have H0 := Lib.hid (h0.ext (y1.trans (x2.trans (x3.trans (y4.trans (x5.trans (y6.trans (x7.trans y8))))))))
  have G0 := Lib.hid (g0.ext (y1.trans (x2.trans (x3.trans (y4.trans (x5.trans (y6.trans (x7.trans y8))))))))
  have EW : Hid (Ext w v8) := e8_
  obtain ⟨W4, rfl⟩ : ∃ W, W = v8 := ⟨_, rfl⟩
  obtain ⟨sb11, hsb11⟩ : ∃ s, w.heap.size + 1 = s := ⟨_, rfl⟩
  rw [hsb11] at C11_0 C11_1 C11_2 CK11
  (try rw [hsb11])
  obtain ⟨sb12, hsb12⟩ : ∃ s, w3.heap.size = s := ⟨_, rfl⟩
  rw [hsb12] at C12_0 C12_1 C12_2 CK12
  (try rw [hsb12])
  obtain ⟨sb14, hsb14⟩ : ∃ s, w5.heap.size = s := ⟨_, rfl⟩
  rw [hsb14] at C14_0 C14_1 C14_2 CK14
  (try rw [hsb14])
  obtain ⟨sb16, hsb16⟩ : ∃ s, w7.heap.size = s := ⟨_, rfl⟩
  rw [hsb16] at C16_0 C16_1 C16_2 CK16
  (try rw [hsb16])
  obtain ⟨sb5, hsb5⟩ : ∃ s, w.heap.size = s := ⟨_, rfl⟩
  rw [hsb5] at C5_0 C5_1 CK5
  (try rw [hsb5])
  clear hsb5 hsb11 hsb12 hsb14 hsb16
  go_loopw [18] (fun v18 wr => ∃ i : Nat, v18 = .int .i64 (i : Int) ∧ i ≤ 2 ∧ Ext W4 wr) (fun v18 _ => 2 - (intOf v18).toNat)
  case atStart => exact ⟨0, rfl, Nat.zero_le _, Ext.refl _⟩
  case round =>
    obtain ⟨i, rfl, hi, hx⟩ := hrel
    have XX := Lib.hid hx
    clear hx
    have b105_0 := Lib.hid (C5_0.out.ext XX.out)
    have b105_1 := Lib.hid (C5_1.out.ext XX.out)
    have k105 := Lib.hid (CK5.out.gr XX.out.gr)
    have u105 := Lib.hid b105_0.out.2
    have b111_0 := Lib.hid (C11_0.out.ext XX.out)
    have b111_1 := Lib.hid (C11_1.out.ext XX.out)
    have b111_2 := Lib.hid (C11_2.out.ext XX.out)
    have k111 := Lib.hid (CK11.out.gr XX.out.gr)
    have u111 := Lib.hid b111_0.out.2
    have b112_0 := Lib.hid (C12_0.out.ext XX.out)
    have b112_1 := Lib.hid (C12_1.out.ext XX.out)
    have b112_2 := Lib.hid (C12_2.out.ext XX.out)
    have k112 := Lib.hid (CK12.out.gr XX.out.gr)
    have u112 := Lib.hid b112_0.out.2
    have b114_0 := Lib.hid (C14_0.out.ext XX.out)
    have b114_1 := Lib.hid (C14_1.out.ext XX.out)
    have b114_2 := Lib.hid (C14_2.out.ext XX.out)
    have k114 := Lib.hid (CK14.out.gr XX.out.gr)
    have u114 := Lib.hid b114_0.out.2
    have b116_0 := Lib.hid (C16_0.out.ext XX.out)
    have b116_1 := Lib.hid (C16_1.out.ext XX.out)
    have b116_2 := Lib.hid (C16_2.out.ext XX.out)
    have k116 := Lib.hid (CK16.out.gr XX.out.gr)
    have u116 := Lib.hid b116_0.out.2
    have fa12 := Lib.hid (FA12.out.ext XX.out)
    have fu12 := Lib.hid (FU12.out.ext XX.out)
    have fa14 := Lib.hid (FA14.out.ext XX.out)
    have fu14 := Lib.hid (FU14.out.ext XX.out)
    have fa16 := Lib.hid (FA16.out.ext XX.out)
    have fu16 := Lib.hid (FU16.out.ext XX.out)
    have h0 := H0.out.ext XX.out
    have g0 := G0.out.ext XX.out
    by_cases hi2 : i < 2
    · have LT := Lib.hid hi2
      have t3 : (i : Int) ≤ 1 := by omega
      clear hi
      have g105_0 := b105_0.out.1
      have g105_1 := b105_1.out.1
      have f105 : sb5 < wr.heap.size := b105_0.out.2
      go_wp2_with fail
      refine (HM1.out _ _ _ h0 g0).mono ?_
      rintro e w1 ⟨sp51, sl51, sc51, tp51, tl51, tc51, rfl, o51, q51_, x1⟩
      have e1_ : Ext W4 w1 := Ext.trans XX.out x1
      clear g105_0 g105_1 f105
      go_wp2_with fail
      obtain ⟨v2, hv2⟩ : ∃ W, W = (w1.alloc (.cells #[.bool mb, .slice sp51 sl51 sc51, .slice tp51 tl51 tc51] 36)) := ⟨_, rfl⟩
      have y2 : Ext w1 v2 := by rw [hv2]; exact ((Ext.refl _).alloc _)
      have b0_0 : Hid (At (w1.heap.size) 0 (.bool mb) v2) := by rw [hv2]; exact At.ext (At.n0 (by rfl)) (Ext.refl _)
      have b0_1 : Hid (At (w1.heap.size) 1 (.slice sp51 sl51 sc51) v2) := by rw [hv2]; exact At.ext (At.n0 (by rfl)) (Ext.refl _)
      have b0_2 : Hid (At (w1.heap.size) 2 (.slice tp51 tl51 tc51) v2) := by rw [hv2]; exact At.ext (At.n0 (by rfl)) (Ext.refl _)
      have k0 : Hid (Bx 3 (w1.heap.size) v2) := by rw [hv2]; exact Bx.gr (Bx.n0 3 ⟨rfl, by decide⟩ (by decide) noI_s3) (Ext.gr (Ext.refl _))
      have u0 : Hid (w1.heap.size < v2.heap.size) := b0_0.out.2
      have e2_ : Ext W4 v2 := Ext.trans e1_ y2
      rw [← hv2]
      clear hv2
      refine (HO1.out _).mono ?_
      rintro e w3 ⟨sp52, sl52, sc52, tp52, tl52, tc52, rfl, o52, q52_, x3⟩
      have e3_ : Ext W4 w3 := Ext.trans e2_ x3
      go_wp2_with fail
      obtain ⟨v4, hv4⟩ : ∃ W, W = (w3.alloc (.cells #[.bool ob, .slice sp52 sl52 sc52, .slice tp52 tl52 tc52] 36)) := ⟨_, rfl⟩
      have y4 : Ext w3 v4 := by rw [hv4]; exact ((Ext.refl _).alloc _)
      have b1_0 : Hid (At (w3.heap.size) 0 (.bool ob) v4) := by rw [hv4]; exact At.ext (At.n0 (by rfl)) (Ext.refl _)
      have b1_1 : Hid (At (w3.heap.size) 1 (.slice sp52 sl52 sc52) v4) := by rw [hv4]; exact At.ext (At.n0 (by rfl)) (Ext.refl _)
      have b1_2 : Hid (At (w3.heap.size) 2 (.slice tp52 tl52 tc52) v4) := by rw [hv4]; exact At.ext (At.n0 (by rfl)) (Ext.refl _)
      have k1 : Hid (Bx 3 (w3.heap.size) v4) := by rw [hv4]; exact Bx.gr (Bx.n0 3 ⟨rfl, by decide⟩ (by decide) noI_s3) (Ext.gr (Ext.refl _))
      have u1 : Hid (w3.heap.size < v4.heap.size) := b1_0.out.2
      have e4_ : Ext W4 v4 := Ext.trans e3_ y4
      rw [← hv4]
      clear hv4
      refine (HH1.out _).mono ?_
      rintro e w5 ⟨sp53, sl53, sc53, tp53, tl53, tc53, rfl, o53, q53_, x5⟩
      have e5_ : Ext W4 w5 := Ext.trans e4_ x5
      go_wp2_with fail
      obtain ⟨v6, hv6⟩ : ∃ W, W = (w5.alloc (.cells #[.bool hb, .slice sp53 sl53 sc53, .slice tp53 tl53 tc53] 36)) := ⟨_, rfl⟩
      have y6 : Ext w5 v6 := by rw [hv6]; exact ((Ext.refl _).alloc _)
      have b2_0 : Hid (At (w5.heap.size) 0 (.bool hb) v6) := by rw [hv6]; exact At.ext (At.n0 (by rfl)) (Ext.refl _)
      have b2_1 : Hid (At (w5.heap.size) 1 (.slice sp53 sl53 sc53) v6) := by rw [hv6]; exact At.ext (At.n0 (by rfl)) (Ext.refl _)
      have b2_2 : Hid (At (w5.heap.size) 2 (.slice tp53 tl53 tc53) v6) := by rw [hv6]; exact At.ext (At.n0 (by rfl)) (Ext.refl _)
      have k2 : Hid (Bx 3 (w5.heap.size) v6) := by rw [hv6]; exact Bx.gr (Bx.n0 3 ⟨rfl, by decide⟩ (by decide) noI_s3) (Ext.gr (Ext.refl _))
      have u2 : Hid (w5.heap.size < v6.heap.size) := b2_0.out.2
      have e6_ : Ext W4 v6 := Ext.trans e5_ y6
      rw [← hv6]
      clear hv6
      refine (rof_is _ n HN.out.1 HN.out.2).mono ?_
      rintro e w7 ⟨sb54, sv54, su54, sm54, sd54, rfl, e54, o54, x7⟩
      have e7_ : Ext W4 w7 := Ext.trans e6_ x7
      obtain ⟨sp54, sl54, sc54, tp54, tl54, tc54, rfl, rfl⟩ := e54.slice
      go_wp2_with fail
      obtain ⟨v8, hv8⟩ : ∃ W, W = (w7.alloc (.cells #[.bool sb54, .slice sp54 sl54 sc54, .slice tp54 tl54 tc54] 36)) := ⟨_, rfl⟩
      have y8 : Ext w7 v8 := by rw [hv8]; exact ((Ext.refl _).alloc _)
      have b3_0 : Hid (At (w7.heap.size) 0 (.bool sb54) v8) := by rw [hv8]; exact At.ext (At.n0 (by rfl)) (Ext.refl _)
      have b3_1 : Hid (At (w7.heap.size) 1 (.slice sp54 sl54 sc54) v8) := by rw [hv8]; exact At.ext (At.n0 (by rfl)) (Ext.refl _)
      have b3_2 : Hid (At (w7.heap.size) 2 (.slice tp54 tl54 tc54) v8) := by rw [hv8]; exact At.ext (At.n0 (by rfl)) (Ext.refl _)
      have k3 : Hid (Bx 3 (w7.heap.size) v8) := by rw [hv8]; exact Bx.gr (Bx.n0 3 ⟨rfl, by decide⟩ (by decide) noI_s3) (Ext.gr (Ext.refl _))
      have u3 : Hid (w7.heap.size < v8.heap.size) := b3_0.out.2
      have e8_ : Ext W4 v8 := Ext.trans e7_ y8
      rw [← hv8]
      clear hv8
      have hkeep51 : AllAt' ([(sb5, 0, .bool n0), (sb5, 1, .slice p0 A0.length q0), (sb11, 0, .bool n0), (sb11, 1, .slice p0 A0.length q0), (sb11, 2, .slice p1 B0.length q1), (sb12, 0, .bool mb), (sb12, 1, .slice sp2 sl2 sc2), (sb12, 2, .slice tp2 tl2 tc2), (sb14, 0, .bool ob), (sb14, 1, .slice sp3 sl3 sc3), (sb14, 2, .slice tp3 tl3 tc3), (sb16, 0, .bool hb), (sb16, 1, .slice sp4 sl4 sc4), (sb16, 2, .slice tp4 tl4 tc4), (w1.heap.size, 0, .bool mb), (w1.heap.size, 1, .slice sp51 sl51 sc51), (w1.heap.size, 2, .slice tp51 tl51 tc51), (w3.heap.size, 0, .bool ob), (w3.heap.size, 1, .slice sp52 sl52 sc52), (w3.heap.size, 2, .slice tp52 tl52 tc52), (w5.heap.size, 0, .bool hb), (w5.heap.size, 1, .slice sp53 sl53 sc53), (w5.heap.size, 2, .slice tp53 tl53 tc53), (w7.heap.size, 0, .bool sb54), (w7.heap.size, 1, .slice sp54 sl54 sc54), (w7.heap.size, 2, .slice tp54 tl54 tc54)] : List (Nat × Nat × Value)) v8 := AllAt'.cons (b105_0.out.ext (x1.trans (y2.trans (x3.trans (y4.trans (x5.trans (y6.trans (x7.trans y8)))))))) (AllAt'.cons (b105_1.out.ext (x1.trans (y2.trans (x3.trans (y4.trans (x5.trans (y6.trans (x7.trans y8)))))))) (AllAt'.cons (b111_0.out.ext (x1.trans (y2.trans (x3.trans (y4.trans (x5.trans (y6.trans (x7.trans y8)))))))) (AllAt'.cons (b111_1.out.ext (x1.trans (y2.trans (x3.trans (y4.trans (x5.trans (y6.trans (x7.trans y8)))))))) (AllAt'.cons (b111_2.out.ext (x1.trans (y2.trans (x3.trans (y4.trans (x5.trans (y6.trans (x7.trans y8)))))))) (AllAt'.cons (b112_0.out.ext (x1.trans (y2.trans (x3.trans (y4.trans (x5.trans (y6.trans (x7.trans y8)))))))) (AllAt'.cons (b112_1.out.ext (x1.trans (y2.trans (x3.trans (y4.trans (x5.trans (y6.trans (x7.trans y8)))))))) (AllAt'.cons (b112_2.out.ext (x1.trans (y2.trans (x3.trans (y4.trans (x5.trans (y6.trans (x7.trans y8)))))))) (AllAt'.cons (b114_0.out.ext (x1.trans (y2.trans (x3.trans (y4.trans (x5.trans (y6.trans (x7.trans y8)))))))) (AllAt'.cons (b114_1.out.ext (x1.trans (y2.trans (x3.trans (y4.trans (x5.trans (y6.trans (x7.trans y8)))))))) (AllAt'.cons (b114_2.out.ext (x1.trans (y2.trans (x3.trans (y4.trans (x5.trans (y6.trans (x7.trans y8)))))))) (AllAt'.cons (b116_0.out.ext (x1.trans (y2.trans (x3.trans (y4.trans (x5.trans (y6.trans (x7.trans y8)))))))) (AllAt'.cons (b116_1.out.ext (x1.trans (y2.trans (x3.trans (y4.trans (x5.trans (y6.trans (x7.trans y8)))))))) (AllAt'.cons (b116_2.out.ext (x1.trans (y2.trans (x3.trans (y4.trans (x5.trans (y6.trans (x7.trans y8)))))))) (AllAt'.cons (b0_0.out.ext (x3.trans (y4.trans (x5.trans (y6.trans (x7.trans y8)))))) (AllAt'.cons (b0_1.out.ext (x3.trans (y4.trans (x5.trans (y6.trans (x7.trans y8)))))) (AllAt'.cons (b0_2.out.ext (x3.trans (y4.trans (x5.trans (y6.trans (x7.trans y8)))))) (AllAt'.cons (b1_0.out.ext (x5.trans (y6.trans (x7.trans y8)))) (AllAt'.cons (b1_1.out.ext (x5.trans (y6.trans (x7.trans y8)))) (AllAt'.cons (b1_2.out.ext (x5.trans (y6.trans (x7.trans y8)))) (AllAt'.cons (b2_0.out.ext (x7.trans y8)) (AllAt'.cons (b2_1.out.ext (x7.trans y8)) (AllAt'.cons (b2_2.out.ext (x7.trans y8)) (AllAt'.cons b3_0.out (AllAt'.cons b3_1.out (AllAt'.cons b3_2.out (AllAt'.nil _))))))))))))))))))))))))))
      have hob51 : ObOk W4.heap.size v8 (([(sb5, 0, .bool n0), (sb5, 1, .slice p0 A0.length q0), (sb11, 0, .bool n0), (sb11, 1, .slice p0 A0.length q0), (sb11, 2, .slice p1 B0.length q1), (sb12, 0, .bool mb), (sb12, 1, .slice sp2 sl2 sc2), (sb12, 2, .slice tp2 tl2 tc2), (sb14, 0, .bool ob), (sb14, 1, .slice sp3 sl3 sc3), (sb14, 2, .slice tp3 tl3 tc3), (sb16, 0, .bool hb), (sb16, 1, .slice sp4 sl4 sc4), (sb16, 2, .slice tp4 tl4 tc4), (w1.heap.size, 0, .bool mb), (w1.heap.size, 1, .slice sp51 sl51 sc51), (w1.heap.size, 2, .slice tp51 tl51 tc51), (w3.heap.size, 0, .bool ob), (w3.heap.size, 1, .slice sp52 sl52 sc52), (w3.heap.size, 2, .slice tp52 tl52 tc52), (w5.heap.size, 0, .bool hb), (w5.heap.size, 1, .slice sp53 sl53 sc53), (w5.heap.size, 2, .slice tp53 tl53 tc53), (w7.heap.size, 0, .bool sb54), (w7.heap.size, 1, .slice sp54 sl54 sc54), (w7.heap.size, 2, .slice tp54 tl54 tc54)] : List (Nat × Nat × Value)).map (·.1)) ([] : List (Nat × List (Nat × Value))) := trivial
      have hne51 : AllNe (([] : List (Nat × List (Nat × Value))).map (·.1)) := trivial
      (try simp only [List.append_eq, List.cons_append, List.nil_append])
      refine wp_region_gen ⟨[81, 82, 83, 84, 85, 86, 87, 88, 89, 90, 91, 92, 93, 94, 95, 96, 97, 98, 99, 100, 101, 102, 103, 104, 105, 106, 107, 108, 109, 110, 111, 112, 113, 114, 115, 116, 117, 118], fun i => false, fun i => ([none, none, none, none, none, none, none, none, none, none, none, none, none, none, none, none, none, none, none, none, none, none, none, none, none, none, none, none, none, none, none, none, none, none, none, none, none, none] : List (Option (BoxRef × Nat))).getD i none, fun i => ([Sg.val (.int .i64 (mc : Int)), Sg.val (.int .i64 (mc : Int)), Sg.val (.bool false), Sg.val (.bool false), Sg.val (.int .i64 (oc : Int)), Sg.val (.int .i64 (oc : Int)), Sg.val (.bool false), Sg.val (.bool false), Sg.val (.bool false), Sg.val (.int .i64 (hc : Int)), Sg.val (.int .i64 (hc : Int)), Sg.val (.bool false), Sg.val (.bool false), Sg.val (.bool false), Sg.val (.agg #[.bool mb, .slice sp51 sl51 sc51, .slice tp51 tl51 tc51]), Sg.val (.agg #[.bool mb, .slice sp2 sl2 sc2, .slice tp2 tl2 tc2]), Sg.val (.bool true), Sg.val (.bool false), Sg.val (.bool false), Sg.val (.bool false), Sg.val (.agg #[.bool ob, .slice sp52 sl52 sc52, .slice tp52 tl52 tc52]), Sg.val (.agg #[.bool ob, .slice sp3 sl3 sc3, .slice tp3 tl3 tc3]), Sg.val (.bool true), Sg.val (.bool false), Sg.val (.bool false), Sg.val (.bool false), Sg.val (.agg #[.bool hb, .slice sp53 sl53 sc53, .slice tp53 tl53 tc53]), Sg.val (.agg #[.bool hb, .slice sp4 sl4 sc4, .slice tp4 tl4 tc4]), Sg.val (.bool true), Sg.val (.bool false), Sg.val (.bool false), Sg.val (.bool false), Sg.ratO W4.heap.size ((n : Int) : Rat), Sg.val (.int .i64 n), Sg.ratO W4.heap.size ((n : Int) : Rat), Sg.val (.bool true), Sg.val (.bool false), Sg.val (.bool false)] : List Sg).getD i Sg.any, [(sb5, 0, .bool n0), (sb5, 1, .slice p0 A0.length q0), (sb11, 0, .bool n0), (sb11, 1, .slice p0 A0.length q0), (sb11, 2, .slice p1 B0.length q1), (sb12, 0, .bool mb), (sb12, 1, .slice sp2 sl2 sc2), (sb12, 2, .slice tp2 tl2 tc2), (sb14, 0, .bool ob), (sb14, 1, .slice sp3 sl3 sc3), (sb14, 2, .slice tp3 tl3 tc3), (sb16, 0, .bool hb), (sb16, 1, .slice sp4 sl4 sc4), (sb16, 2, .slice tp4 tl4 tc4), (w1.heap.size, 0, .bool mb), (w1.heap.size, 1, .slice sp51 sl51 sc51), (w1.heap.size, 2, .slice tp51 tl51 tc51), (w3.heap.size, 0, .bool ob), (w3.heap.size, 1, .slice sp52 sl52 sc52), (w3.heap.size, 2, .slice tp52 tl52 tc52), (w5.heap.size, 0, .bool hb), (w5.heap.size, 1, .slice sp53 sl53 sc53), (w5.heap.size, 2, .slice tp53 tl53 tc53), (w7.heap.size, 0, .bool sb54), (w7.heap.size, 1, .slice sp54 sl54 sc54), (w7.heap.size, 2, .slice tp54 tl54 tc54)], []⟩ W4.heap.size (by kernel_rfl) (by kernel_rfl) e8_.size ?hfr hkeep51 hob51 hne51 ?hs ?he
      case hfr =>
        intro i v wk hi hst hv
        exact absurd hi (by simp)
      case hs =>
        refine ⟨?_, ?_, ?_, ?_, ?_, ?_, ?_, ?_, ?_, ?_, ?_, ?_, ?_, ?_, ?_, ?_, ?_, ?_, ?_, ?_, ?_, ?_, ?_, ?_, ?_, ?_, ?_, ?_, ?_, ?_, ?_, ?_, ?_, ?_, ?_, ?_, ?_, ?_, trivial⟩
        · refine RStep.op rfl rfl (fun ac wk hp K hK => ?_)
          have t20_ : ac.tmps[20]?.getD undef = .int .i64 (mc : Int) := hp.slot 20 rfl rfl
          have HP := Lib.hid hp
          clear hp
          go_simp
          refine hK.out _ _ ?_ (Ext.refl _) (fun h => absurd h (by simp))
          exact rfl
        · refine RStep.op rfl rfl (fun ac wk hp K hK => ?_)
          have t13_ : ac.tmps[13]?.getD undef = .int .i64 (mc : Int) := hp.slot 13 rfl rfl
          have HP := Lib.hid hp
          clear hp
          go_simp
          refine hK.out _ _ ?_ (Ext.refl _) (fun h => absurd h (by simp))
          exact rfl
        · refine RStep.op rfl rfl (fun ac wk hp K hK => ?_)
          have u0e := hp.get 0 (by decide +kernel) rfl
          have t81_ : ac.tmps[81]?.getD undef = .int .i64 (mc : Int) := slot_is' u0e
          have u1e := hp.get 1 (by decide +kernel) rfl
          have t82_ : ac.tmps[82]?.getD undef = .int .i64 (mc : Int) := slot_is' u1e
          have HP := Lib.hid hp
          clear hp
          go_simp
          refine hK.out _ _ ?_ (Ext.refl _) (fun h => absurd h (by simp))
          exact (by first | rfl | (apply congrArg Value.bool; simp; done) | (apply congrArg Value.bool; simp; omega) | (simp [*]; done))
        · refine RStep.op rfl rfl (fun ac wk hp K hK => ?_)
          have u2e := hp.get 2 (by decide +kernel) rfl
          have t83_ : ac.tmps[83]?.getD undef = .bool false := slot_is' u2e
          have HP := Lib.hid hp
          clear hp
          go_simp
          refine hK.out _ _ ?_ (Ext.refl _) (fun h => absurd h (by simp))
          exact rfl
        · refine RStep.yes 3 false rfl rfl (by decide +kernel) rfl rfl (fun ac wk hp K hK => ?_)
          have t22_ : ac.tmps[22]?.getD undef = .int .i64 (oc : Int) := hp.slot 22 rfl rfl
          have HP := Lib.hid hp
          clear hp
          go_simp
          refine hK.out _ _ ?_ (Ext.refl _) (fun h => absurd h (by simp))
          exact rfl
        · refine RStep.yes 3 false rfl rfl (by decide +kernel) rfl rfl (fun ac wk hp K hK => ?_)
          have t15_ : ac.tmps[15]?.getD undef = .int .i64 (oc : Int) := hp.slot 15 rfl rfl
          have HP := Lib.hid hp
          clear hp
          go_simp
          refine hK.out _ _ ?_ (Ext.refl _) (fun h => absurd h (by simp))
          exact rfl
        · refine RStep.yes 3 false rfl rfl (by decide +kernel) rfl rfl (fun ac wk hp K hK => ?_)
          have u4e := hp.get 4 (by decide +kernel) rfl
          have t85_ : ac.tmps[85]?.getD undef = .int .i64 (oc : Int) := slot_is' u4e
          have u5e := hp.get 5 (by decide +kernel) rfl
          have t86_ : ac.tmps[86]?.getD undef = .int .i64 (oc : Int) := slot_is' u5e
          have HP := Lib.hid hp
          clear hp
          go_simp
          refine hK.out _ _ ?_ (Ext.refl _) (fun h => absurd h (by simp))
          exact (by first | rfl | (apply congrArg Value.bool; simp; done) | (apply congrArg Value.bool; simp; omega) | (simp [*]; done))
        · refine RStep.op rfl rfl (fun ac wk hp K hK => ?_)
          have u3e := hp.get 3 (by decide +kernel) rfl
          have t84_ : ac.tmps[84]?.getD undef = .bool false := slot_is' u3e
          have u6e := hp.get 6 (by decide +kernel) rfl
          have t87_ : ac.tmps[87]?.getD undef = .bool false := slot_is' u6e
          have HP := Lib.hid hp
          clear hp
          go_simp
          refine hK.out _ _ ?_ (Ext.refl _) (fun h => absurd h (by simp))
          exact rfl
        · refine RStep.op rfl rfl (fun ac wk hp K hK => ?_)
          have u7e := hp.get 7 (by decide +kernel) rfl
          have t88_ : ac.tmps[88]?.getD undef = .bool false := slot_is' u7e
          have HP := Lib.hid hp
          clear hp
          go_simp
          refine hK.out _ _ ?_ (Ext.refl _) (fun h => absurd h (by simp))
          exact rfl
        · refine RStep.yes 8 false rfl rfl (by decide +kernel) rfl rfl (fun ac wk hp K hK => ?_)
          have t24_ : ac.tmps[24]?.getD undef = .int .i64 (hc : Int) := hp.slot 24 rfl rfl
          have HP := Lib.hid hp
          clear hp
          go_simp
          refine hK.out _ _ ?_ (Ext.refl _) (fun h => absurd h (by simp))
          exact rfl
        · refine RStep.yes 8 false rfl rfl (by decide +kernel) rfl rfl (fun ac wk hp K hK => ?_)
          have t17_ : ac.tmps[17]?.getD undef = .int .i64 (hc : Int) := hp.slot 17 rfl rfl
          have HP := Lib.hid hp
          clear hp
          go_simp
          refine hK.out _ _ ?_ (Ext.refl _) (fun h => absurd h (by simp))
          exact rfl
        · refine RStep.yes 8 false rfl rfl (by decide +kernel) rfl rfl (fun ac wk hp K hK => ?_)
          have u9e := hp.get 9 (by decide +kernel) rfl
          have t90_ : ac.tmps[90]?.getD undef = .int .i64 (hc : Int) := slot_is' u9e
          have u10e := hp.get 10 (by decide +kernel) rfl
          have t91_ : ac.tmps[91]?.getD undef = .int .i64 (hc : Int) := slot_is' u10e
          have HP := Lib.hid hp
          clear hp
          go_simp
          refine hK.out _ _ ?_ (Ext.refl _) (fun h => absurd h (by simp))
          exact (by first | rfl | (apply congrArg Value.bool; simp; done) | (apply congrArg Value.bool; simp; omega) | (simp [*]; done))
        · refine RStep.op rfl rfl (fun ac wk hp K hK => ?_)
          have u8e := hp.get 8 (by decide +kernel) rfl
          have t89_ : ac.tmps[89]?.getD undef = .bool false := slot_is' u8e
          have u11e := hp.get 11 (by decide +kernel) rfl
          have t92_ : ac.tmps[92]?.getD undef = .bool false := slot_is' u11e
          have HP := Lib.hid hp
          clear hp
          go_simp
          refine hK.out _ _ ?_ (Ext.refl _) (fun h => absurd h (by simp))
          exact rfl
        · refine RStep.op rfl rfl (fun ac wk hp K hK => ?_)
          have u12e := hp.get 12 (by decide +kernel) rfl
          have t93_ : ac.tmps[93]?.getD undef = .bool false := slot_is' u12e
          have HP := Lib.hid hp
          clear hp
          go_simp
          refine hK.out _ _ ?_ (Ext.refl _) (fun h => absurd h (by simp))
          exact rfl
        · refine RStep.yes 13 false rfl rfl (by decide +kernel) rfl rfl (fun ac wk hp K hK => ?_)
          have t19_ : ac.tmps[19]?.getD undef = .pointer (some ⟨w1.heap.size, 0, none⟩) := hp.slot 19 rfl rfl
          have c0_ := hp.cell 14 rfl
          have c1_ := hp.cell 15 rfl
          have c2_ := hp.cell 16 rfl
          have HP := Lib.hid hp
          clear hp
          go_simp
          refine hK.out _ _ ?_ (Ext.refl _) (fun h => absurd h (by simp))
          exact rfl
        · refine RStep.yes 13 false rfl rfl (by decide +kernel) rfl rfl (fun ac wk hp K hK => ?_)
          have t12_ : ac.tmps[12]?.getD undef = .pointer (some ⟨sb12, 0, none⟩) := hp.slot 12 rfl rfl
          have c0_ := hp.cell 5 rfl
          have c1_ := hp.cell 6 rfl
          have c2_ := hp.cell 7 rfl
          have HP := Lib.hid hp
          clear hp
          go_simp
          refine hK.out _ _ ?_ (Ext.refl _) (fun h => absurd h (by simp))
          exact rfl
        · refine RStep.yes 13 false rfl rfl (by decide +kernel) rfl rfl (fun ac wk hp K hK => ?_)
          have u14e := hp.get 14 (by decide +kernel) rfl
          have t95_ : ac.tmps[95]?.getD undef = .agg #[.bool mb, .slice sp51 sl51 sc51, .slice tp51 tl51 tc51] := slot_is' u14e
          have u15e := hp.get 15 (by decide +kernel) rfl
          have t96_ : ac.tmps[96]?.getD undef = .agg #[.bool mb, .slice sp2 sl2 sc2, .slice tp2 tl2 tc2] := slot_is' u15e
          have HP := Lib.hid hp
          clear hp
          go_simp
          refine (is_raw (o51.limbs.gr ((y2.gr.trans (x3.gr.trans (y4.gr.trans (x5.gr.trans (y6.gr.trans (x7.gr.trans y8.gr)))))).trans HP.out.gr)) (q51_.limbs.gr ((y2.gr.trans (x3.gr.trans (y4.gr.trans (x5.gr.trans (y6.gr.trans (x7.gr.trans y8.gr)))))).trans HP.out.gr)) (fa12.out.gr ((x1.gr.trans (y2.gr.trans (x3.gr.trans (y4.gr.trans (x5.gr.trans (y6.gr.trans (x7.gr.trans y8.gr))))))).trans HP.out.gr)) (fu12.out.gr ((x1.gr.trans (y2.gr.trans (x3.gr.trans (y4.gr.trans (x5.gr.trans (y6.gr.trans (x7.gr.trans y8.gr))))))).trans HP.out.gr)) mb mb true (by simp)).mono ?_
          rintro e wk' ⟨rfl, ix⟩
          refine hK.out _ _ ?_ ix (fun h => absurd h (by simp))
          exact rfl
        · refine RStep.yes 13 false rfl rfl (by decide +kernel) rfl rfl (fun ac wk hp K hK => ?_)
          have u16e := hp.get 16 (by decide +kernel) rfl
          have t97_ : ac.tmps[97]?.getD undef = .bool true := slot_is' u16e
          have HP := Lib.hid hp
          clear hp
          go_simp
          refine hK.out _ _ ?_ (Ext.refl _) (fun h => absurd h (by simp))
          exact rfl
        · refine RStep.op rfl rfl (fun ac wk hp K hK => ?_)
          have u13e := hp.get 13 (by decide +kernel) rfl
          have t94_ : ac.tmps[94]?.getD undef = .bool false := slot_is' u13e
          have u17e := hp.get 17 (by decide +kernel) rfl
          have t98_ : ac.tmps[98]?.getD undef = .bool false := slot_is' u17e
          have HP := Lib.hid hp
          clear hp
          go_simp
          refine hK.out _ _ ?_ (Ext.refl _) (fun h => absurd h (by simp))
          exact rfl
        · refine RStep.op rfl rfl (fun ac wk hp K hK => ?_)
          have u18e := hp.get 18 (by decide +kernel) rfl
          have t99_ : ac.tmps[99]?.getD undef = .bool false := slot_is' u18e
          have HP := Lib.hid hp
          clear hp
          go_simp
          refine hK.out _ _ ?_ (Ext.refl _) (fun h => absurd h (by simp))
          exact rfl
        · refine RStep.yes 19 false rfl rfl (by decide +kernel) rfl rfl (fun ac wk hp K hK => ?_)
          have t21_ : ac.tmps[21]?.getD undef = .pointer (some ⟨w3.heap.size, 0, none⟩) := hp.slot 21 rfl rfl
          have c0_ := hp.cell 17 rfl
          have c1_ := hp.cell 18 rfl
          have c2_ := hp.cell 19 rfl
          have HP := Lib.hid hp
          clear hp
          go_simp
          refine hK.out _ _ ?_ (Ext.refl _) (fun h => absurd h (by simp))
          exact rfl
        · refine RStep.yes 19 false rfl rfl (by decide +kernel) rfl rfl (fun ac wk hp K hK => ?_)
          have t14_ : ac.tmps[14]?.getD undef = .pointer (some ⟨sb14, 0, none⟩) := hp.slot 14 rfl rfl
          have c0_ := hp.cell 8 rfl
          have c1_ := hp.cell 9 rfl
          have c2_ := hp.cell 10 rfl
          have HP := Lib.hid hp
          clear hp
          go_simp
          refine hK.out _ _ ?_ (Ext.refl _) (fun h => absurd h (by simp))
          exact rfl
        · refine RStep.yes 19 false rfl rfl (by decide +kernel) rfl rfl (fun ac wk hp K hK => ?_)
          have u20e := hp.get 20 (by decide +kernel) rfl
          have t101_ : ac.tmps[101]?.getD undef = .agg #[.bool ob, .slice sp52 sl52 sc52, .slice tp52 tl52 tc52] := slot_is' u20e
          have u21e := hp.get 21 (by decide +kernel) rfl
          have t102_ : ac.tmps[102]?.getD undef = .agg #[.bool ob, .slice sp3 sl3 sc3, .slice tp3 tl3 tc3] := slot_is' u21e
          have HP := Lib.hid hp
          clear hp
          go_simp
          refine (is_raw (o52.limbs.gr ((y4.gr.trans (x5.gr.trans (y6.gr.trans (x7.gr.trans y8.gr)))).trans HP.out.gr)) (q52_.limbs.gr ((y4.gr.trans (x5.gr.trans (y6.gr.trans (x7.gr.trans y8.gr)))).trans HP.out.gr)) (fa14.out.gr ((x1.gr.trans (y2.gr.trans (x3.gr.trans (y4.gr.trans (x5.gr.trans (y6.gr.trans (x7.gr.trans y8.gr))))))).trans HP.out.gr)) (fu14.out.gr ((x1.gr.trans (y2.gr.trans (x3.gr.trans (y4.gr.trans (x5.gr.trans (y6.gr.trans (x7.gr.trans y8.gr))))))).trans HP.out.gr)) ob ob true (by simp)).mono ?_
          rintro e wk' ⟨rfl, ix⟩
          refine hK.out _ _ ?_ ix (fun h => absurd h (by simp))
          exact rfl
        · refine RStep.yes 19 false rfl rfl (by decide +kernel) rfl rfl (fun ac wk hp K hK => ?_)
          have u22e := hp.get 22 (by decide +kernel) rfl
          have t103_ : ac.tmps[103]?.getD undef = .bool true := slot_is' u22e
          have HP := Lib.hid hp
          clear hp
          go_simp
          refine hK.out _ _ ?_ (Ext.refl _) (fun h => absurd h (by simp))
          exact rfl
        · refine RStep.op rfl rfl (fun ac wk hp K hK => ?_)
          have u19e := hp.get 19 (by decide +kernel) rfl
          have t100_ : ac.tmps[100]?.getD undef = .bool false := slot_is' u19e
          have u23e := hp.get 23 (by decide +kernel) rfl
          have t104_ : ac.tmps[104]?.getD undef = .bool false := slot_is' u23e
          have HP := Lib.hid hp
          clear hp
          go_simp
          refine hK.out _ _ ?_ (Ext.refl _) (fun h => absurd h (by simp))
          exact rfl
        · refine RStep.op rfl rfl (fun ac wk hp K hK => ?_)
          have u24e := hp.get 24 (by decide +kernel) rfl
          have t105_ : ac.tmps[105]?.getD undef = .bool false := slot_is' u24e
          have HP := Lib.hid hp
          clear hp
          go_simp
          refine hK.out _ _ ?_ (Ext.refl _) (fun h => absurd h (by simp))
          exact rfl
        · refine RStep.yes 25 false rfl rfl (by decide +kernel) rfl rfl (fun ac wk hp K hK => ?_)
          have t23_ : ac.tmps[23]?.getD undef = .pointer (some ⟨w5.heap.size, 0, none⟩) := hp.slot 23 rfl rfl
          have c0_ := hp.cell 20 rfl
          have c1_ := hp.cell 21 rfl
          have c2_ := hp.cell 22 rfl
          have HP := Lib.hid hp
          clear hp
          go_simp
          refine hK.out _ _ ?_ (Ext.refl _) (fun h => absurd h (by simp))
          exact rfl
        · refine RStep.yes 25 false rfl rfl (by decide +kernel) rfl rfl (fun ac wk hp K hK => ?_)
          have t16_ : ac.tmps[16]?.getD undef = .pointer (some ⟨sb16, 0, none⟩) := hp.slot 16 rfl rfl
          have c0_ := hp.cell 11 rfl
          have c1_ := hp.cell 12 rfl
          have c2_ := hp.cell 13 rfl
          have HP := Lib.hid hp
          clear hp
          go_simp
          refine hK.out _ _ ?_ (Ext.refl _) (fun h => absurd h (by simp))
          exact rfl
        · refine RStep.yes 25 false rfl rfl (by decide +kernel) rfl rfl (fun ac wk hp K hK => ?_)
          have u26e := hp.get 26 (by decide +kernel) rfl
          have t107_ : ac.tmps[107]?.getD undef = .agg #[.bool hb, .slice sp53 sl53 sc53, .slice tp53 tl53 tc53] := slot_is' u26e
          have u27e := hp.get 27 (by decide +kernel) rfl
          have t108_ : ac.tmps[108]?.getD undef = .agg #[.bool hb, .slice sp4 sl4 sc4, .slice tp4 tl4 tc4] := slot_is' u27e
          have HP := Lib.hid hp
          clear hp
          go_simp
          refine (is_raw (o53.limbs.gr ((y6.gr.trans (x7.gr.trans y8.gr)).trans HP.out.gr)) (q53_.limbs.gr ((y6.gr.trans (x7.gr.trans y8.gr)).trans HP.out.gr)) (fa16.out.gr ((x1.gr.trans (y2.gr.trans (x3.gr.trans (y4.gr.trans (x5.gr.trans (y6.gr.trans (x7.gr.trans y8.gr))))))).trans HP.out.gr)) (fu16.out.gr ((x1.gr.trans (y2.gr.trans (x3.gr.trans (y4.gr.trans (x5.gr.trans (y6.gr.trans (x7.gr.trans y8.gr))))))).trans HP.out.gr)) hb hb true (by simp)).mono ?_
          rintro e wk' ⟨rfl, ix⟩
          refine hK.out _ _ ?_ ix (fun h => absurd h (by simp))
          exact rfl
        · refine RStep.yes 25 false rfl rfl (by decide +kernel) rfl rfl (fun ac wk hp K hK => ?_)
          have u28e := hp.get 28 (by decide +kernel) rfl
          have t109_ : ac.tmps[109]?.getD undef = .bool true := slot_is' u28e
          have HP := Lib.hid hp
          clear hp
          go_simp
          refine hK.out _ _ ?_ (Ext.refl _) (fun h => absurd h (by simp))
          exact rfl
        · refine RStep.op rfl rfl (fun ac wk hp K hK => ?_)
          have u25e := hp.get 25 (by decide +kernel) rfl
          have t106_ : ac.tmps[106]?.getD undef = .bool false := slot_is' u25e
          have u29e := hp.get 29 (by decide +kernel) rfl
          have t110_ : ac.tmps[110]?.getD undef = .bool false := slot_is' u29e
          have HP := Lib.hid hp
          clear hp
          go_simp
          refine hK.out _ _ ?_ (Ext.refl _) (fun h => absurd h (by simp))
          exact rfl
        · refine RStep.op rfl rfl (fun ac wk hp K hK => ?_)
          have u30e := hp.get 30 (by decide +kernel) rfl
          have t111_ : ac.tmps[111]?.getD undef = .bool false := slot_is' u30e
          have HP := Lib.hid hp
          clear hp
          go_simp
          refine hK.out _ _ ?_ (Ext.refl _) (fun h => absurd h (by simp))
          exact rfl
        · refine RStep.yes 31 false rfl rfl (by decide +kernel) rfl rfl (fun ac wk hp K hK => ?_)
          have t25_ : ac.tmps[25]?.getD undef = .pointer (some ⟨w7.heap.size, 0, none⟩) := hp.slot 25 rfl rfl
          have c0_ := hp.cell 23 rfl
          have c1_ := hp.cell 24 rfl
          have c2_ := hp.cell 25 rfl
          have HP := Lib.hid hp
          clear hp
          go_simp
          refine hK.out _ _ ?_ (Ext.refl _) (fun h => absurd h (by simp))
          exact ⟨_, _, _, _, _, _, _, _, _, rfl, (e54.gr (y8.gr.trans HP.out.gr)), ((o54.gr (y8.gr.trans HP.out.gr)).mono e6_.size)⟩
        · refine RStep.yes 31 false rfl rfl (by decide +kernel) rfl rfl (fun ac wk hp K hK => ?_)
          have t2_ : ac.tmps[2]?.getD undef = .int .i64 n := hp.slot 2 rfl rfl
          have HP := Lib.hid hp
          clear hp
          go_simp
          refine hK.out _ _ ?_ (Ext.refl _) (fun h => absurd h (by simp))
          exact rfl
        · refine RStep.yes 31 false rfl rfl (by decide +kernel) rfl rfl (fun ac wk hp K hK => ?_)
          have u33e := hp.get 33 (by decide +kernel) rfl
          have t114_ : ac.tmps[114]?.getD undef = .int .i64 n := slot_is' u33e
          have HP := Lib.hid hp
          clear hp
          go_simp
          refine (of06_is _ n HN.out.1 HN.out.2).mono ?_
          rintro e wk' ⟨sb58, sv58, su58, sm58, sd58, rfl, e58, o58, ix⟩
          obtain ⟨sp58, sl58, sc58, tp58, tl58, tc58, rfl, rfl⟩ := e58.slice
          refine hK.out _ _ ?_ ix (fun h => absurd h (by simp))
          exact ⟨_, _, _, _, _, _, _, _, _, rfl, e58, (o58.mono (Nat.le_trans e8_.size HP.out.gr.size))⟩
        · refine RStep.yes 31 false rfl rfl (by decide +kernel) rfl rfl (fun ac wk hp K hK => ?_)
          obtain ⟨u32b, u32p, u32n, u32c, u32q, u32k, u32d, u32m, u32l, u32e, u32i, u32o⟩ := hp.get 32 (by decide +kernel) rfl
          have t113_ : ac.tmps[113]?.getD undef = .agg #[.bool u32b, .slice u32p u32n u32c, .slice u32q u32k u32d] := slot_is' u32e
          obtain ⟨u34b, u34p, u34n, u34c, u34q, u34k, u34d, u34m, u34l, u34e, u34i, u34o⟩ := hp.get 34 (by decide +kernel) rfl
          have t115_ : ac.tmps[115]?.getD undef = .agg #[.bool u34b, .slice u34p u34n u34c, .slice u34q u34k u34d] := slot_is' u34e
          have HP := Lib.hid hp
          clear hp
          go_simp
          refine (is_is u32i u34i true (decide_eq_true (show (((n : Int) : Rat) : Rat) = ((n : Int) : Rat) from rfl))).mono ?_
          rintro e wk' ⟨rfl, ix⟩
          refine hK.out _ _ ?_ ix (fun h => absurd h (by simp))
          exact rfl
        · refine RStep.yes 31 false rfl rfl (by decide +kernel) rfl rfl (fun ac wk hp K hK => ?_)
          have u35e := hp.get 35 (by decide +kernel) rfl
          have t116_ : ac.tmps[116]?.getD undef = .bool true := slot_is' u35e
          have HP := Lib.hid hp
          clear hp
          go_simp
          refine hK.out _ _ ?_ (Ext.refl _) (fun h => absurd h (by simp))
          exact rfl
        · refine RStep.op rfl rfl (fun ac wk hp K hK => ?_)
          have u31e := hp.get 31 (by decide +kernel) rfl
          have t112_ : ac.tmps[112]?.getD undef = .bool false := slot_is' u31e
          have u36e := hp.get 36 (by decide +kernel) rfl
          have t117_ : ac.tmps[117]?.getD undef = .bool false := slot_is' u36e
          have HP := Lib.hid hp
          clear hp
          go_simp
          refine hK.out _ _ ?_ (Ext.refl _) (fun h => absurd h (by simp))
          exact rfl
      case he =>
        intro ac v9 hM
        have y51_0e := hM.post 0 rfl rfl
        have y51_1e := hM.post 1 rfl rfl
        have y51_2e := hM.post 2 rfl rfl
        have y51_3e := hM.post 3 rfl rfl
        have y51_4e := hM.post 4 rfl rfl
        have y51_5e := hM.post 5 rfl rfl
        have y51_6e := hM.post 6 rfl rfl
        have y51_7e := hM.post 7 rfl rfl
        have y51_8e := hM.post 8 rfl rfl
        have y51_9e := hM.post 9 rfl rfl
        have y51_10e := hM.post 10 rfl rfl
        have y51_11e := hM.post 11 rfl rfl
        have y51_12e := hM.post 12 rfl rfl
        have y51_13e := hM.post 13 rfl rfl
        have y51_14e := hM.post 14 rfl rfl
        have y51_15e := hM.post 15 rfl rfl
        have y51_16e := hM.post 16 rfl rfl
        have y51_17e := hM.post 17 rfl rfl
        have y51_18e := hM.post 18 rfl rfl
        have y51_19e := hM.post 19 rfl rfl
        have y51_20e := hM.post 20 rfl rfl
        have y51_21e := hM.post 21 rfl rfl
        have y51_22e := hM.post 22 rfl rfl
        have y51_23e := hM.post 23 rfl rfl
        have y51_24e := hM.post 24 rfl rfl
        have y51_25e := hM.post 25 rfl rfl
        have y51_26e := hM.post 26 rfl rfl
        have y51_27e := hM.post 27 rfl rfl
        have y51_28e := hM.post 28 rfl rfl
        have y51_29e := hM.post 29 rfl rfl
        have y51_30e := hM.post 30 rfl rfl
        have y51_31e := hM.post 31 rfl rfl
        obtain ⟨y51_32b, y51_32p, y51_32n, y51_32c, y51_32q, y51_32k, y51_32d, y51_32m, y51_32l, y51_32e, y51_32i, y51_32o⟩ := hM.post 32 rfl rfl
        have y51_33e := hM.post 33 rfl rfl
        obtain ⟨y51_34b, y51_34p, y51_34n, y51_34c, y51_34q, y51_34k, y51_34d, y51_34m, y51_34l, y51_34e, y51_34i, y51_34o⟩ := hM.post 34 rfl rfl
        have y51_35e := hM.post 35 rfl rfl
        have y51_36e := hM.post 36 rfl rfl
        have y51_37e := hM.post 37 rfl rfl
        have b105_0 : Hid (At (sb5) 0 (.bool n0) v9) := Lib.hid (hM.keep.at 0 rfl)
        have b105_1 : Hid (At (sb5) 1 (.slice p0 A0.length q0) v9) := Lib.hid (hM.keep.at 1 rfl)
        have b111_0 : Hid (At (sb11) 0 (.bool n0) v9) := Lib.hid (hM.keep.at 2 rfl)
        have b111_1 : Hid (At (sb11) 1 (.slice p0 A0.length q0) v9) := Lib.hid (hM.keep.at 3 rfl)
        have b111_2 : Hid (At (sb11) 2 (.slice p1 B0.length q1) v9) := Lib.hid (hM.keep.at 4 rfl)
        have b112_0 : Hid (At (sb12) 0 (.bool mb) v9) := Lib.hid (hM.keep.at 5 rfl)
        have b112_1 : Hid (At (sb12) 1 (.slice sp2 sl2 sc2) v9) := Lib.hid (hM.keep.at 6 rfl)
        have b112_2 : Hid (At (sb12) 2 (.slice tp2 tl2 tc2) v9) := Lib.hid (hM.keep.at 7 rfl)
        have b114_0 : Hid (At (sb14) 0 (.bool ob) v9) := Lib.hid (hM.keep.at 8 rfl)
        have b114_1 : Hid (At (sb14) 1 (.slice sp3 sl3 sc3) v9) := Lib.hid (hM.keep.at 9 rfl)
        have b114_2 : Hid (At (sb14) 2 (.slice tp3 tl3 tc3) v9) := Lib.hid (hM.keep.at 10 rfl)
        have b116_0 : Hid (At (sb16) 0 (.bool hb) v9) := Lib.hid (hM.keep.at 11 rfl)
        have b116_1 : Hid (At (sb16) 1 (.slice sp4 sl4 sc4) v9) := Lib.hid (hM.keep.at 12 rfl)
        have b116_2 : Hid (At (sb16) 2 (.slice tp4 tl4 tc4) v9) := Lib.hid (hM.keep.at 13 rfl)
        have b0_0 : Hid (At (w1.heap.size) 0 (.bool mb) v9) := Lib.hid (hM.keep.at 14 rfl)
        have b0_1 : Hid (At (w1.heap.size) 1 (.slice sp51 sl51 sc51) v9) := Lib.hid (hM.keep.at 15 rfl)
        have b0_2 : Hid (At (w1.heap.size) 2 (.slice tp51 tl51 tc51) v9) := Lib.hid (hM.keep.at 16 rfl)
        have b1_0 : Hid (At (w3.heap.size) 0 (.bool ob) v9) := Lib.hid (hM.keep.at 17 rfl)
        have b1_1 : Hid (At (w3.heap.size) 1 (.slice sp52 sl52 sc52) v9) := Lib.hid (hM.keep.at 18 rfl)
        have b1_2 : Hid (At (w3.heap.size) 2 (.slice tp52 tl52 tc52) v9) := Lib.hid (hM.keep.at 19 rfl)
        have b2_0 : Hid (At (w5.heap.size) 0 (.bool hb) v9) := Lib.hid (hM.keep.at 20 rfl)
        have b2_1 : Hid (At (w5.heap.size) 1 (.slice sp53 sl53 sc53) v9) := Lib.hid (hM.keep.at 21 rfl)
        have b2_2 : Hid (At (w5.heap.size) 2 (.slice tp53 tl53 tc53) v9) := Lib.hid (hM.keep.at 22 rfl)
        have b3_0 : Hid (At (w7.heap.size) 0 (.bool sb54) v9) := Lib.hid (hM.keep.at 23 rfl)
        have b3_1 : Hid (At (w7.heap.size) 1 (.slice sp54 sl54 sc54) v9) := Lib.hid (hM.keep.at 24 rfl)
        have b3_2 : Hid (At (w7.heap.size) 2 (.slice tp54 tl54 tc54) v9) := Lib.hid (hM.keep.at 25 rfl)
        have gv9 : Gr v8 v9 := hM.gr
        have e9_ : Ext W4 v9 := Ext.below e8_ hM.blw
        have z0_ : sl ac 81 = .int .i64 (mc : Int) := y51_0e
        have z1_ : sl ac 82 = .int .i64 (mc : Int) := y51_1e
        have z2_ : sl ac 83 = .bool false := y51_2e
        have z3_ : sl ac 84 = .bool false := y51_3e
        have z4_ : sl ac 85 = .int .i64 (oc : Int) := y51_4e
        have z5_ : sl ac 86 = .int .i64 (oc : Int) := y51_5e
        have z6_ : sl ac 87 = .bool false := y51_6e
        have z7_ : sl ac 88 = .bool false := y51_7e
        have z8_ : sl ac 89 = .bool false := y51_8e
        have z9_ : sl ac 90 = .int .i64 (hc : Int) := y51_9e
        have z10_ : sl ac 91 = .int .i64 (hc : Int) := y51_10e
        have z11_ : sl ac 92 = .bool false := y51_11e
        have z12_ : sl ac 93 = .bool false := y51_12e
        have z13_ : sl ac 94 = .bool false := y51_13e
        have z14_ : sl ac 95 = .agg #[.bool mb, .slice sp51 sl51 sc51, .slice tp51 tl51 tc51] := y51_14e
        have z15_ : sl ac 96 = .agg #[.bool mb, .slice sp2 sl2 sc2, .slice tp2 tl2 tc2] := y51_15e
        have z16_ : sl ac 97 = .bool true := y51_16e
        have z17_ : sl ac 98 = .bool false := y51_17e
        have z18_ : sl ac 99 = .bool false := y51_18e
        have z19_ : sl ac 100 = .bool false := y51_19e
        have z20_ : sl ac 101 = .agg #[.bool ob, .slice sp52 sl52 sc52, .slice tp52 tl52 tc52] := y51_20e
        have z21_ : sl ac 102 = .agg #[.bool ob, .slice sp3 sl3 sc3, .slice tp3 tl3 tc3] := y51_21e
        have z22_ : sl ac 103 = .bool true := y51_22e
        have z23_ : sl ac 104 = .bool false := y51_23e
        have z24_ : sl ac 105 = .bool false := y51_24e
        have z25_ : sl ac 106 = .bool false := y51_25e
        have z26_ : sl ac 107 = .agg #[.bool hb, .slice sp53 sl53 sc53, .slice tp53 tl53 tc53] := y51_26e
        have z27_ : sl ac 108 = .agg #[.bool hb, .slice sp4 sl4 sc4, .slice tp4 tl4 tc4] := y51_27e
        have z28_ : sl ac 109 = .bool true := y51_28e
        have z29_ : sl ac 110 = .bool false := y51_29e
        have z30_ : sl ac 111 = .bool false := y51_30e
        have z31_ : sl ac 112 = .bool false := y51_31e
        have z32_ : sl ac 113 = .agg #[.bool y51_32b, .slice y51_32p y51_32n y51_32c, .slice y51_32q y51_32k y51_32d] := y51_32e
        have z33_ : sl ac 114 = .int .i64 n := y51_33e
        have z34_ : sl ac 115 = .agg #[.bool y51_34b, .slice y51_34p y51_34n y51_34c, .slice y51_34q y51_34k y51_34d] := y51_34e
        have z35_ : sl ac 116 = .bool true := y51_35e
        have z36_ : sl ac 117 = .bool false := y51_36e
        have z37_ : sl ac 118 = .bool false := y51_37e
        rw [hM.ag.lay]
        simp only [lay, List.foldl_cons, List.foldl_nil, List.setIfInBounds_toArray, List.set_cons_zero, List.set_cons_succ, z0_, z1_, z2_, z3_, z4_, z5_, z6_, z7_, z8_, z9_, z10_, z11_, z12_, z13_, z14_, z15_, z16_, z17_, z18_, z19_, z20_, z21_, z22_, z23_, z24_, z25_, z26_, z27_, z28_, z29_, z30_, z31_, z32_, z33_, z34_, z35_, z36_, z37_]
        clear hM hkeep51 hob51 hne51 z0_ z1_ z2_ z3_ z4_ z5_ z6_ z7_ z8_ z9_ z10_ z11_ z12_ z13_ z14_ z15_ z16_ z17_ z18_ z19_ z20_ z21_ z22_ z23_ z24_ z25_ z26_ z27_ z28_ z29_ z30_ z31_ z32_ z33_ z34_ z35_ z36_ z37_ y51_0e y51_1e y51_2e y51_3e y51_4e y51_5e y51_6e y51_7e y51_8e y51_9e y51_10e y51_11e y51_12e y51_13e y51_14e y51_15e y51_16e y51_17e y51_18e y51_19e y51_20e y51_21e y51_22e y51_23e y51_24e y51_25e y51_26e y51_27e y51_28e y51_29e y51_30e y51_31e y51_32e y51_33e y51_34e y51_35e y51_36e y51_37e
        have A0_0 := Lib.hid b0_0.out
        have A0_1 := Lib.hid b0_1.out
        have A0_2 := Lib.hid b0_2.out
        have K0 := Lib.hid (k0.out.gr (x3.gr.trans (y4.gr.trans (x5.gr.trans (y6.gr.trans (x7.gr.trans (y8.gr.trans gv9)))))))
        have Wa0 := Lib.hid (((o51.gr (y2.gr.trans (x3.gr.trans (y4.gr.trans (x5.gr.trans (y6.gr.trans (x7.gr.trans (y8.gr.trans gv9)))))))).mono XX.out.size)).wr
        have La0 := Lib.hid (((o51.gr (y2.gr.trans (x3.gr.trans (y4.gr.trans (x5.gr.trans (y6.gr.trans (x7.gr.trans (y8.gr.trans gv9)))))))).mono XX.out.size)).len
        have Wu0 := Lib.hid (((q51_.gr (y2.gr.trans (x3.gr.trans (y4.gr.trans (x5.gr.trans (y6.gr.trans (x7.gr.trans (y8.gr.trans gv9)))))))).mono XX.out.size)).wr
        have Lu0 := Lib.hid (((q51_.gr (y2.gr.trans (x3.gr.trans (y4.gr.trans (x5.gr.trans (y6.gr.trans (x7.gr.trans (y8.gr.trans gv9)))))))).mono XX.out.size)).len
        have A1_0 := Lib.hid b1_0.out
        have A1_1 := Lib.hid b1_1.out
        have A1_2 := Lib.hid b1_2.out
        have K1 := Lib.hid (k1.out.gr (x5.gr.trans (y6.gr.trans (x7.gr.trans (y8.gr.trans gv9)))))
        have Wa1 := Lib.hid (((o52.gr (y4.gr.trans (x5.gr.trans (y6.gr.trans (x7.gr.trans (y8.gr.trans gv9)))))).mono e2_.size)).wr
        have La1 := Lib.hid (((o52.gr (y4.gr.trans (x5.gr.trans (y6.gr.trans (x7.gr.trans (y8.gr.trans gv9)))))).mono e2_.size)).len
        have Wu1 := Lib.hid (((q52_.gr (y4.gr.trans (x5.gr.trans (y6.gr.trans (x7.gr.trans (y8.gr.trans gv9)))))).mono e2_.size)).wr
        have Lu1 := Lib.hid (((q52_.gr (y4.gr.trans (x5.gr.trans (y6.gr.trans (x7.gr.trans (y8.gr.trans gv9)))))).mono e2_.size)).len
        have A2_0 := Lib.hid b2_0.out
        have A2_1 := Lib.hid b2_1.out
        have A2_2 := Lib.hid b2_2.out
        have K2 := Lib.hid (k2.out.gr (x7.gr.trans (y8.gr.trans gv9)))
        have Wa2 := Lib.hid (((o53.gr (y6.gr.trans (x7.gr.trans (y8.gr.trans gv9)))).mono e4_.size)).wr
        have La2 := Lib.hid (((o53.gr (y6.gr.trans (x7.gr.trans (y8.gr.trans gv9)))).mono e4_.size)).len
        have Wu2 := Lib.hid (((q53_.gr (y6.gr.trans (x7.gr.trans (y8.gr.trans gv9)))).mono e4_.size)).wr
        have Lu2 := Lib.hid (((q53_.gr (y6.gr.trans (x7.gr.trans (y8.gr.trans gv9)))).mono e4_.size)).len
        have A3_0 := Lib.hid b3_0.out
        have A3_1 := Lib.hid b3_1.out
        have A3_2 := Lib.hid b3_2.out
        have K3 := Lib.hid (k3.out.gr gv9)
        have Wa3 := Lib.hid (((o54.gr (y8.gr.trans gv9)).1.mono e6_.size)).wr
        have La3 := Lib.hid (((o54.gr (y8.gr.trans gv9)).1.mono e6_.size)).len
        have Wu3 := Lib.hid (((o54.gr (y8.gr.trans gv9)).2.mono e6_.size)).wr
        have Lu3 := Lib.hid (((o54.gr (y8.gr.trans gv9)).2.mono e6_.size)).len
        have XS : Hid (Ext W4 v9) := e9_
        have g0 := A0_0.out.1
        have g1 := A0_1.out.1
        have g2 := A0_2.out.1
        go_wp2_with fail
        refine (spoil06_calls (B := W4.heap.size) Wa0.out Wu0.out XS.out.size La0.out Lu0.out).mono ?_
        rintro e ws0 ⟨rfl, sp_⟩
        have XS : Hid (Ext W4 ws0) := Ext.below XS.out sp_.below
        have A1_0 := Lib.hid (A1_0.out.spl K1.out sp_)
        have A1_1 := Lib.hid (A1_1.out.spl K1.out sp_)
        have A1_2 := Lib.hid (A1_2.out.spl K1.out sp_)
        have K1 := Lib.hid (K1.out.spl sp_)
        have Wa1 := Lib.hid (Wa1.out.spl sp_)
        have Wu1 := Lib.hid (Wu1.out.spl sp_)
        have A2_0 := Lib.hid (A2_0.out.spl K2.out sp_)
        have A2_1 := Lib.hid (A2_1.out.spl K2.out sp_)
        have A2_2 := Lib.hid (A2_2.out.spl K2.out sp_)
        have K2 := Lib.hid (K2.out.spl sp_)
        have Wa2 := Lib.hid (Wa2.out.spl sp_)
        have Wu2 := Lib.hid (Wu2.out.spl sp_)
        have A3_0 := Lib.hid (A3_0.out.spl K3.out sp_)
        have A3_1 := Lib.hid (A3_1.out.spl K3.out sp_)
        have A3_2 := Lib.hid (A3_2.out.spl K3.out sp_)
        have K3 := Lib.hid (K3.out.spl sp_)
        have Wa3 := Lib.hid (Wa3.out.spl sp_)
        have Wu3 := Lib.hid (Wu3.out.spl sp_)
        clear sp_ g0 g1 g2
        have g0 := A1_0.out.1
        have g1 := A1_1.out.1
        have g2 := A1_2.out.1
        go_wp2_with fail
        refine (spoil06_calls (B := W4.heap.size) Wa1.out Wu1.out XS.out.size La1.out Lu1.out).mono ?_
        rintro e ws1 ⟨rfl, sp_⟩
        have XS : Hid (Ext W4 ws1) := Ext.below XS.out sp_.below
        have A2_0 := Lib.hid (A2_0.out.spl K2.out sp_)
        have A2_1 := Lib.hid (A2_1.out.spl K2.out sp_)
        have A2_2 := Lib.hid (A2_2.out.spl K2.out sp_)
        have K2 := Lib.hid (K2.out.spl sp_)
        have Wa2 := Lib.hid (Wa2.out.spl sp_)
        have Wu2 := Lib.hid (Wu2.out.spl sp_)
        have A3_0 := Lib.hid (A3_0.out.spl K3.out sp_)
        have A3_1 := Lib.hid (A3_1.out.spl K3.out sp_)
        have A3_2 := Lib.hid (A3_2.out.spl K3.out sp_)
        have K3 := Lib.hid (K3.out.spl sp_)
        have Wa3 := Lib.hid (Wa3.out.spl sp_)
        have Wu3 := Lib.hid (Wu3.out.spl sp_)
        clear sp_ g0 g1 g2
        have g0 := A2_0.out.1
        have g1 := A2_1.out.1
        have g2 := A2_2.out.1
        go_wp2_with fail
        refine (spoil06_calls (B := W4.heap.size) Wa2.out Wu2.out XS.out.size La2.out Lu2.out).mono ?_
        rintro e ws2 ⟨rfl, sp_⟩
        have XS : Hid (Ext W4 ws2) := Ext.below XS.out sp_.below
        have A3_0 := Lib.hid (A3_0.out.spl K3.out sp_)
        have A3_1 := Lib.hid (A3_1.out.spl K3.out sp_)
        have A3_2 := Lib.hid (A3_2.out.spl K3.out sp_)
        have K3 := Lib.hid (K3.out.spl sp_)
        have Wa3 := Lib.hid (Wa3.out.spl sp_)
        have Wu3 := Lib.hid (Wu3.out.spl sp_)
        clear sp_ g0 g1 g2
        have g0 := A3_0.out.1
        have g1 := A3_1.out.1
        have g2 := A3_2.out.1
        go_wp2_with fail
        refine (spoil06_calls (B := W4.heap.size) Wa3.out Wu3.out XS.out.size La3.out Lu3.out).mono ?_
        rintro e ws3 ⟨rfl, sp_⟩
        have XS : Hid (Ext W4 ws3) := Ext.below XS.out sp_.below
        clear sp_ g0 g1 g2
        go_wp2_with fail
        exact ⟨⟨i + 1, by first | rfl | go_num, LT.out, XS.out⟩, by simp [intOf]; have := LT.out; omega⟩
    · have t3 : (2 : Int) ≤ (i : Int) := by omega
      clear hi hi2
      go_wp2_with fail
      have hkeep51 : AllAt' ([(sb5, 0, .bool n0), (sb5, 1, .slice p0 A0.length q0), (sb11, 0, .bool n0), (sb11, 1, .slice p0 A0.length q0), (sb11, 2, .slice p1 B0.length q1), (sb12, 0, .bool mb), (sb12, 1, .slice sp2 sl2 sc2), (sb12, 2, .slice tp2 tl2 tc2), (sb14, 0, .bool ob), (sb14, 1, .slice sp3 sl3 sc3), (sb14, 2, .slice tp3 tl3 tc3), (sb16, 0, .bool hb), (sb16, 1, .slice sp4 sl4 sc4), (sb16, 2, .slice tp4 tl4 tc4)] : List (Nat × Nat × Value)) wr := AllAt'.cons b105_0.out (AllAt'.cons b105_1.out (AllAt'.cons b111_0.out (AllAt'.cons b111_1.out (AllAt'.cons b111_2.out (AllAt'.cons b112_0.out (AllAt'.cons b112_1.out (AllAt'.cons b112_2.out (AllAt'.cons b114_0.out (AllAt'.cons b114_1.out (AllAt'.cons b114_2.out (AllAt'.cons b116_0.out (AllAt'.cons b116_1.out (AllAt'.cons b116_2.out (AllAt'.nil _))))))))))))))
      have hob51 : ObOk W4.heap.size wr (([(sb5, 0, .bool n0), (sb5, 1, .slice p0 A0.length q0), (sb11, 0, .bool n0), (sb11, 1, .slice p0 A0.length q0), (sb11, 2, .slice p1 B0.length q1), (sb12, 0, .bool mb), (sb12, 1, .slice sp2 sl2 sc2), (sb12, 2, .slice tp2 tl2 tc2), (sb14, 0, .bool ob), (sb14, 1, .slice sp3 sl3 sc3), (sb14, 2, .slice tp3 tl3 tc3), (sb16, 0, .bool hb), (sb16, 1, .slice sp4 sl4 sc4), (sb16, 2, .slice tp4 tl4 tc4)] : List (Nat × Nat × Value)).map (·.1)) ([] : List (Nat × List (Nat × Value))) := trivial
      have hne51 : AllNe (([] : List (Nat × List (Nat × Value))).map (·.1)) := trivial
      (try simp only [List.append_eq, List.cons_append, List.nil_append])
      refine wp_region_gen ⟨[127, 128, 129, 130, 131, 132, 133, 134, 10], fun i => false, fun i => ([none, none, none, none, none, none, none, none, none] : List (Option (BoxRef × Nat))).getD i none, fun i => ([Sg.val (.agg #[.bool n0, .slice p0 A0.length q0, .slice p1 B0.length q1]), Sg.val (.bool cm), Sg.val (.agg #[.bool n0, .slice p0 A0.length q0, .slice p1 B0.length q1]), Sg.val (.bool cm), Sg.val (.bool true), Sg.val (.bool true), Sg.val (.bool true), Sg.val (.bool true), Sg.val (.bool true)] : List Sg).getD i Sg.any, [(sb5, 0, .bool n0), (sb5, 1, .slice p0 A0.length q0), (sb11, 0, .bool n0), (sb11, 1, .slice p0 A0.length q0), (sb11, 2, .slice p1 B0.length q1), (sb12, 0, .bool mb), (sb12, 1, .slice sp2 sl2 sc2), (sb12, 2, .slice tp2 tl2 tc2), (sb14, 0, .bool ob), (sb14, 1, .slice sp3 sl3 sc3), (sb14, 2, .slice tp3 tl3 tc3), (sb16, 0, .bool hb), (sb16, 1, .slice sp4 sl4 sc4), (sb16, 2, .slice tp4 tl4 tc4)], []⟩ W4.heap.size (by kernel_rfl) (by kernel_rfl) XX.out.size ?hfr hkeep51 hob51 hne51 ?hs ?he
      case hfr =>
        intro i v wk hi hst hv
        exact absurd hi (by simp)
      case hs =>
        refine ⟨?_, ?_, ?_, ?_, ?_, ?_, ?_, ?_, ?_, trivial⟩
        · refine RStep.op rfl rfl (fun ac wk hp K hK => ?_)
          have t11_ : ac.tmps[11]?.getD undef = .pointer (some ⟨sb11, 0, none⟩) := hp.slot 11 rfl rfl
          have c0_ := hp.cell 2 rfl
          have c1_ := hp.cell 3 rfl
          have c2_ := hp.cell 4 rfl
          have HP := Lib.hid hp
          clear hp
          go_simp
          refine hK.out _ _ ?_ (Ext.refl _) (fun h => absurd h (by simp))
          exact rfl
        · refine RStep.op rfl rfl (fun ac wk hp K hK => ?_)
          have u0e := hp.get 0 (by decide +kernel) rfl
          have t127_ : ac.tmps[127]?.getD undef = .agg #[.bool n0, .slice p0 A0.length q0, .slice p1 B0.length q1] := slot_is' u0e
          have HP := Lib.hid hp
          clear hp
          go_simp
          refine (rmay_raw (h0.gr HP.out.gr) (g0.gr HP.out.gr) rfl HLA0.out HLB0.out (by decide) (by decide) cm HCM.out).mono ?_
          rintro e wk' ⟨rfl, ix⟩
          refine hK.out _ _ ?_ ix (fun h => absurd h (by simp))
          exact rfl
        · refine RStep.op rfl rfl (fun ac wk hp K hK => ?_)
          have t11_ : ac.tmps[11]?.getD undef = .pointer (some ⟨sb11, 0, none⟩) := hp.slot 11 rfl rfl
          have c0_ := hp.cell 2 rfl
          have c1_ := hp.cell 3 rfl
          have c2_ := hp.cell 4 rfl
          have HP := Lib.hid hp
          clear hp
          go_simp
          refine hK.out _ _ ?_ (Ext.refl _) (fun h => absurd h (by simp))
          exact rfl
        · refine RStep.op rfl rfl (fun ac wk hp K hK => ?_)
          have u2e := hp.get 2 (by decide +kernel) rfl
          have t129_ : ac.tmps[129]?.getD undef = .agg #[.bool n0, .slice p0 A0.length q0, .slice p1 B0.length q1] := slot_is' u2e
          have HP := Lib.hid hp
          clear hp
          go_simp
          refine (rmay06_raw (h0.gr HP.out.gr) (g0.gr HP.out.gr) rfl HLA0.out HLB0.out (by decide) (by decide) cm HCM.out).mono ?_
          rintro e wk' ⟨rfl, ix⟩
          refine hK.out _ _ ?_ ix (fun h => absurd h (by simp))
          exact rfl
        · refine RStep.op rfl rfl (fun ac wk hp K hK => ?_)
          have u1e := hp.get 1 (by decide +kernel) rfl
          have t128_ : ac.tmps[128]?.getD undef = .bool cm := slot_is' u1e
          have u3e := hp.get 3 (by decide +kernel) rfl
          have t130_ : ac.tmps[130]?.getD undef = .bool cm := slot_is' u3e
          have HP := Lib.hid hp
          clear hp
          go_simp
          refine hK.out _ _ ?_ (Ext.refl _) (fun h => absurd h (by simp))
          exact (by first | rfl | (apply congrArg Value.bool; simp; done) | (apply congrArg Value.bool; simp; omega) | (simp [*]; done))
        · refine RStep.op rfl rfl (fun ac wk hp K hK => ?_)
          have u4e := hp.get 4 (by decide +kernel) rfl
          have t131_ : ac.tmps[131]?.getD undef = .bool true := slot_is' u4e
          have HP := Lib.hid hp
          clear hp
          go_simp
          refine hK.out _ _ ?_ (Ext.refl _) (fun h => absurd h (by simp))
          exact rfl
        · refine RStep.yes 5 true rfl rfl (by decide +kernel) rfl rfl (fun ac wk hp K hK => ?_)
          have HP := Lib.hid hp
          clear hp
          go_simp
          refine (awake06_calls _).mono ?_
          rintro e wk' ⟨rfl, ix⟩
          refine hK.out _ _ ?_ ix (fun h => absurd h (by simp))
          exact rfl
        · refine RStep.op rfl rfl (fun ac wk hp K hK => ?_)
          have u5e := hp.get 5 (by decide +kernel) rfl
          have t132_ : ac.tmps[132]?.getD undef = .bool true := slot_is' u5e
          have u6e := hp.get 6 (by decide +kernel) rfl
          have t133_ : ac.tmps[133]?.getD undef = .bool true := slot_is' u6e
          have HP := Lib.hid hp
          clear hp
          go_simp
          refine hK.out _ _ ?_ (Ext.refl _) (fun h => absurd h (by simp))
          exact rfl
        · refine RStep.op rfl rfl (fun ac wk hp K hK => ?_)
          have u7e := hp.get 7 (by decide +kernel) rfl
          have t134_ : ac.tmps[134]?.getD undef = .bool true := slot_is' u7e
          have HP := Lib.hid hp
          clear hp
          go_simp
          refine hK.out _ _ ?_ (Ext.refl _) (fun h => absurd h (by simp))
          exact rfl
      case he =>
        intro ac v1 hM
        have y51_0e := hM.post 0 rfl rfl
        have y51_1e := hM.post 1 rfl rfl
        have y51_2e := hM.post 2 rfl rfl
        have y51_3e := hM.post 3 rfl rfl
        have y51_4e := hM.post 4 rfl rfl
        have y51_5e := hM.post 5 rfl rfl
        have y51_6e := hM.post 6 rfl rfl
        have y51_7e := hM.post 7 rfl rfl
        have y51_8e := hM.post 8 rfl rfl
        have b105_0 : Hid (At (sb5) 0 (.bool n0) v1) := Lib.hid (hM.keep.at 0 rfl)
        have b105_1 : Hid (At (sb5) 1 (.slice p0 A0.length q0) v1) := Lib.hid (hM.keep.at 1 rfl)
        have b111_0 : Hid (At (sb11) 0 (.bool n0) v1) := Lib.hid (hM.keep.at 2 rfl)
        have b111_1 : Hid (At (sb11) 1 (.slice p0 A0.length q0) v1) := Lib.hid (hM.keep.at 3 rfl)
        have b111_2 : Hid (At (sb11) 2 (.slice p1 B0.length q1) v1) := Lib.hid (hM.keep.at 4 rfl)
        have b112_0 : Hid (At (sb12) 0 (.bool mb) v1) := Lib.hid (hM.keep.at 5 rfl)
        have b112_1 : Hid (At (sb12) 1 (.slice sp2 sl2 sc2) v1) := Lib.hid (hM.keep.at 6 rfl)
        have b112_2 : Hid (At (sb12) 2 (.slice tp2 tl2 tc2) v1) := Lib.hid (hM.keep.at 7 rfl)
        have b114_0 : Hid (At (sb14) 0 (.bool ob) v1) := Lib.hid (hM.keep.at 8 rfl)
        have b114_1 : Hid (At (sb14) 1 (.slice sp3 sl3 sc3) v1) := Lib.hid (hM.keep.at 9 rfl)
        have b114_2 : Hid (At (sb14) 2 (.slice tp3 tl3 tc3) v1) := Lib.hid (hM.keep.at 10 rfl)
        have b116_0 : Hid (At (sb16) 0 (.bool hb) v1) := Lib.hid (hM.keep.at 11 rfl)
        have b116_1 : Hid (At (sb16) 1 (.slice sp4 sl4 sc4) v1) := Lib.hid (hM.keep.at 12 rfl)
        have b116_2 : Hid (At (sb16) 2 (.slice tp4 tl4 tc4) v1) := Lib.hid (hM.keep.at 13 rfl)
        have gv1 : Gr wr v1 := hM.gr
        have e1_ : Ext W4 v1 := Ext.below XX.out hM.blw
        have z0_ : sl ac 127 = .agg #[.bool n0, .slice p0 A0.length q0, .slice p1 B0.length q1] := y51_0e
        have z1_ : sl ac 128 = .bool cm := y51_1e
        have z2_ : sl ac 129 = .agg #[.bool n0, .slice p0 A0.length q0, .slice p1 B0.length q1] := y51_2e
        have z3_ : sl ac 130 = .bool cm := y51_3e
        have z4_ : sl ac 131 = .bool true := y51_4e
        have z5_ : sl ac 132 = .bool true := y51_5e
        have z6_ : sl ac 133 = .bool true := y51_6e
        have z7_ : sl ac 134 = .bool true := y51_7e
        have z8_ : sl ac 10 = .bool true := y51_8e
        rw [hM.ag.lay]
        simp only [lay, List.foldl_cons, List.foldl_nil, List.setIfInBounds_toArray, List.set_cons_zero, List.set_cons_succ, z0_, z1_, z2_, z3_, z4_, z5_, z6_, z7_, z8_]
        clear hM hkeep51 hob51 hne51 z0_ z1_ z2_ z3_ z4_ z5_ z6_ z7_ z8_ y51_0e y51_1e y51_2e y51_3e y51_4e y51_5e y51_6e y51_7e y51_8e
        go_wp2_with fail
        go_ret
        exact ⟨rfl, EW.out.trans e1_⟩

theorem ratMakes_calls {w : World} {n0 : Bool} {v0 u0 : Value} {A0 B0 : List Nat} (h0 : Limbs w v0 A0) (g0 : Limbs w u0 B0) (n : Int) (hn : -9223372036854775808 ≤ n ∧ n ≤ 9223372036854775807) (d : Int) (hd : -9223372036854775808 ≤ d ∧ d ≤ 9223372036854775807) (h : Int) (_hh : -9223372036854775808 ≤ h ∧ h ≤ 9223372036854775807) :
    Calls Tryz.prog 4 #[.agg #[.bool n0, v0], u0, .int .i64 n, .int .i64 d, .int .i64 h] w (Yes w) := by
  obtain ⟨lb, hlb⟩ : ∃ b, longR [(n0, A0, B0)] = b := ⟨_, rfl⟩
  cases lb with
  | true => exact ratMakes_out h0 g0 n hn d hd h hlb
  | false =>
    by_cases h1 : h ≤ 3000
    · exact ratMakes_lo h0 g0 n hn d hd h hlb h1
    · by_cases h2 : h ≤ 65536
      · exact ratMakes_half h0 g0 n hn d hd h hlb (by omega) h2
      · exact ratMakes_hi h0 g0 n hn d hd h hlb (by omega)
end Go.Proofs.YtaklejkdmfgplaaGreatDoor
