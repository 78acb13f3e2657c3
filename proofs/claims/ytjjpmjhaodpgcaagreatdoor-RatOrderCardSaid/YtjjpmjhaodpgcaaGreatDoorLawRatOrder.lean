/- RatOrder answers true at all fractions. -/
import Derived.Test.YtjjpmjhaodpgcaaGreatDoorPartG
namespace Go.Proofs.YtjjpmjhaodpgcaaGreatDoor
open Go Go.RowKit

set_option maxHeartbeats 8000000 in
set_option maxRecDepth 100000 in
theorem ratOrder_calls {w : World} {v0 u0 v1 u1 v2 u2 : Value} {A0 B0 A1 B1 A2 B2 : List Nat} (h0 : Limbs w v0 A0) (g0 : Limbs w u0 B0) (h1 : Limbs w v1 A1) (g1 : Limbs w u1 B1) (h2 : Limbs w v2 A2) (g2 : Limbs w u2 B2) (n0 n1 n2 : Bool) :
    Calls Tryz.prog 9 #[.agg #[.bool n0, v0, u0], .agg #[.bool n1, v1, u1], .agg #[.bool n2, v2, u2]] w (Yes w) := by
  obtain ⟨p0, q0, rfl, -, -, -⟩ := h0.open
  obtain ⟨p0', q0', rfl, -, -, -⟩ := g0.open
  obtain ⟨p1, q1, rfl, -, -, -⟩ := h1.open
  obtain ⟨p1', q1', rfl, -, -, -⟩ := g1.open
  obtain ⟨p2, q2, rfl, -, -, -⟩ := h2.open
  obtain ⟨p2', q2', rfl, -, -, -⟩ := g2.open
  obtain ⟨lb, hlb⟩ : ∃ b, longR [(n0, A0, B0), (n1, A1, B1), (n2, A2, B2)] = b := ⟨_, rfl⟩
  cases lb with
  | true =>
    have HLB := Lib.hid hlb
    clear hlb
    go_enter Tryz.func9, Tryz.ntmps9
    go_wp2_with fail
    obtain ⟨v1, hv1⟩ : ∃ W, W = ((((w.alloc (.cells #[.bool n0, .slice p0 A0.length q0, .slice p0' B0.length q0'] 27)).alloc (.cells #[.bool n1, .slice p1 A1.length q1, .slice p1' B1.length q1'] 27)).alloc (.cells #[.bool n2, .slice p2 A2.length q2, .slice p2' B2.length q2'] 27)).alloc (.cells #[.bool n0, .slice p0 A0.length q0, .slice p0' B0.length q0', .bool n1, .slice p1 A1.length q1, .slice p1' B1.length q1', .bool n2, .slice p2 A2.length q2, .slice p2' B2.length q2'] 27)) := ⟨_, rfl⟩
    have y1 : Ext w v1 := by rw [hv1]; exact (((((Ext.refl _).alloc _).alloc _).alloc _).alloc _)
    have b0_0 : Hid (At (w.heap.size) 0 (.bool n0) v1) := by rw [hv1]; exact At.ext (At.n0 (by rfl)) ((((Ext.refl _).alloc _).alloc _).alloc _)
    have b0_1 : Hid (At (w.heap.size) 1 (.slice p0 A0.length q0) v1) := by rw [hv1]; exact At.ext (At.n0 (by rfl)) ((((Ext.refl _).alloc _).alloc _).alloc _)
    have b0_2 : Hid (At (w.heap.size) 2 (.slice p0' B0.length q0') v1) := by rw [hv1]; exact At.ext (At.n0 (by rfl)) ((((Ext.refl _).alloc _).alloc _).alloc _)
    have k0 : Hid (Bx 3 (w.heap.size) v1) := by rw [hv1]; exact Bx.gr (Bx.n0 3 ⟨rfl, by decide⟩ (by decide) noI_s3) (Ext.gr ((((Ext.refl _).alloc _).alloc _).alloc _))
    have u0 : Hid (w.heap.size < v1.heap.size) := b0_0.out.2
    have b1_0 : Hid (At (w.heap.size + 1) 0 (.bool n1) v1) := by rw [hv1]; exact At.ext (At.n1 (by rfl)) (((Ext.refl _).alloc _).alloc _)
    have b1_1 : Hid (At (w.heap.size + 1) 1 (.slice p1 A1.length q1) v1) := by rw [hv1]; exact At.ext (At.n1 (by rfl)) (((Ext.refl _).alloc _).alloc _)
    have b1_2 : Hid (At (w.heap.size + 1) 2 (.slice p1' B1.length q1') v1) := by rw [hv1]; exact At.ext (At.n1 (by rfl)) (((Ext.refl _).alloc _).alloc _)
    have k1 : Hid (Bx 3 (w.heap.size + 1) v1) := by rw [hv1]; exact Bx.gr (Bx.n1 3 ⟨rfl, by decide⟩ (by decide) noI_s3) (Ext.gr (((Ext.refl _).alloc _).alloc _))
    have u1 : Hid (w.heap.size + 1 < v1.heap.size) := b1_0.out.2
    have b2_0 : Hid (At (w.heap.size + 1 + 1) 0 (.bool n2) v1) := by rw [hv1]; exact At.ext (At.n2 (by rfl)) ((Ext.refl _).alloc _)
    have b2_1 : Hid (At (w.heap.size + 1 + 1) 1 (.slice p2 A2.length q2) v1) := by rw [hv1]; exact At.ext (At.n2 (by rfl)) ((Ext.refl _).alloc _)
    have b2_2 : Hid (At (w.heap.size + 1 + 1) 2 (.slice p2' B2.length q2') v1) := by rw [hv1]; exact At.ext (At.n2 (by rfl)) ((Ext.refl _).alloc _)
    have k2 : Hid (Bx 3 (w.heap.size + 1 + 1) v1) := by rw [hv1]; exact Bx.gr (Bx.n2 3 ⟨rfl, by decide⟩ (by decide) noI_s3) (Ext.gr ((Ext.refl _).alloc _))
    have u2 : Hid (w.heap.size + 1 + 1 < v1.heap.size) := b2_0.out.2
    have b3_0 : Hid (At (w.heap.size + 1 + 1 + 1) 0 (.bool n0) v1) := by rw [hv1]; exact At.ext (At.n3 (by rfl)) (Ext.refl _)
    have b3_1 : Hid (At (w.heap.size + 1 + 1 + 1) 1 (.slice p0 A0.length q0) v1) := by rw [hv1]; exact At.ext (At.n3 (by rfl)) (Ext.refl _)
    have b3_2 : Hid (At (w.heap.size + 1 + 1 + 1) 2 (.slice p0' B0.length q0') v1) := by rw [hv1]; exact At.ext (At.n3 (by rfl)) (Ext.refl _)
    have b3_3 : Hid (At (w.heap.size + 1 + 1 + 1) 3 (.bool n1) v1) := by rw [hv1]; exact At.ext (At.n3 (by rfl)) (Ext.refl _)
    have b3_4 : Hid (At (w.heap.size + 1 + 1 + 1) 4 (.slice p1 A1.length q1) v1) := by rw [hv1]; exact At.ext (At.n3 (by rfl)) (Ext.refl _)
    have b3_5 : Hid (At (w.heap.size + 1 + 1 + 1) 5 (.slice p1' B1.length q1') v1) := by rw [hv1]; exact At.ext (At.n3 (by rfl)) (Ext.refl _)
    have b3_6 : Hid (At (w.heap.size + 1 + 1 + 1) 6 (.bool n2) v1) := by rw [hv1]; exact At.ext (At.n3 (by rfl)) (Ext.refl _)
    have b3_7 : Hid (At (w.heap.size + 1 + 1 + 1) 7 (.slice p2 A2.length q2) v1) := by rw [hv1]; exact At.ext (At.n3 (by rfl)) (Ext.refl _)
    have b3_8 : Hid (At (w.heap.size + 1 + 1 + 1) 8 (.slice p2' B2.length q2') v1) := by rw [hv1]; exact At.ext (At.n3 (by rfl)) (Ext.refl _)
    have u3 : Hid (w.heap.size + 1 + 1 + 1 < v1.heap.size) := b3_0.out.2
    have e1_ : Ext w v1 := y1
    rw [← hv1]
    clear hv1
    refine (long_calls (Ls := [(n0, A0, B0), (n1, A1, B1), (n2, A2, B2)]) (sl3_3 (b3_0.out) (b3_1.out) (b3_2.out) (⟨rfl, (h0.ext y1), (g0.ext y1)⟩) (b3_3.out) (b3_4.out) (b3_5.out) (⟨rfl, (h1.ext y1), (g1.ext y1)⟩) (b3_6.out) (b3_7.out) (b3_8.out) (⟨rfl, (h2.ext y1), (g2.ext y1)⟩)) true HLB.out).mono ?_
    rintro e w2 ⟨rfl, x2⟩
    have e2_ : Ext w w2 := Ext.trans e1_ x2
    go_wp2_with fail
    refine (awake06_calls _).mono ?_
    rintro e w3 ⟨rfl, x3⟩
    have e3_ : Ext w w3 := Ext.trans e2_ x3
    go_wp2_with fail
    go_ret
    exact ⟨rfl, e3_⟩
  | false =>
    have HLB := Lib.hid hlb
    obtain ⟨z0, hz0⟩ : ∃ z, mkRat (iv n0 A0) (val B0) = z := ⟨_, rfl⟩
    have i0 : InR w n0 (.slice p0 A0.length q0) (.slice p0' B0.length q0') 6 z0 := ⟨A0, B0, h0, g0, hz0, (longR_get hlb (a := (n0, A0, B0)) (by simp)).1, (longR_get hlb (a := (n0, A0, B0)) (by simp)).2, by decide⟩
    have HZ0 := Lib.hid hz0
    have HLA0 : Hid (A0.length ≤ 6) := (longR_get hlb (a := (n0, A0, B0)) (by simp)).1
    have HLB0 : Hid (B0.length ≤ 6) := (longR_get hlb (a := (n0, A0, B0)) (by simp)).2
    obtain ⟨z1, hz1⟩ : ∃ z, mkRat (iv n1 A1) (val B1) = z := ⟨_, rfl⟩
    have i1 : InR w n1 (.slice p1 A1.length q1) (.slice p1' B1.length q1') 6 z1 := ⟨A1, B1, h1, g1, hz1, (longR_get hlb (a := (n1, A1, B1)) (by simp)).1, (longR_get hlb (a := (n1, A1, B1)) (by simp)).2, by decide⟩
    have HZ1 := Lib.hid hz1
    have HLA1 : Hid (A1.length ≤ 6) := (longR_get hlb (a := (n1, A1, B1)) (by simp)).1
    have HLB1 : Hid (B1.length ≤ 6) := (longR_get hlb (a := (n1, A1, B1)) (by simp)).2
    obtain ⟨z2, hz2⟩ : ∃ z, mkRat (iv n2 A2) (val B2) = z := ⟨_, rfl⟩
    have i2 : InR w n2 (.slice p2 A2.length q2) (.slice p2' B2.length q2') 6 z2 := ⟨A2, B2, h2, g2, hz2, (longR_get hlb (a := (n2, A2, B2)) (by simp)).1, (longR_get hlb (a := (n2, A2, B2)) (by simp)).2, by decide⟩
    have HZ2 := Lib.hid hz2
    have HLA2 : Hid (A2.length ≤ 6) := (longR_get hlb (a := (n2, A2, B2)) (by simp)).1
    have HLB2 : Hid (B2.length ≤ 6) := (longR_get hlb (a := (n2, A2, B2)) (by simp)).2
    clear hlb hz0 hz1 hz2
    obtain ⟨k, hk⟩ : ∃ k, cmpR z0 z1 = k := ⟨_, rfl⟩
    obtain ⟨s, hs⟩ : ∃ k, cmpR z2 0 = k := ⟨_, rfl⟩
    obtain ⟨t, ht⟩ : ∃ k, cmpR z1 z2 = k := ⟨_, rfl⟩
    obtain ⟨u, hu⟩ : ∃ k, cmpR z0 z2 = k := ⟨_, rfl⟩
    obtain ⟨m, hm⟩ : ∃ m, IntKind.i64.wrap (-k) = m := ⟨_, rfl⟩
    obtain ⟨ks, hks⟩ : ∃ m, IntKind.i64.wrap (k * s) = m := ⟨_, rfl⟩
    obtain ⟨e, he⟩ : ∃ e, (k == 0) = e := ⟨_, rfl⟩
    have hk1 := hk ▸ (cmpR_range z0 z1).1
    have hk2 := hk ▸ (cmpR_range z0 z1).2
    have hs1 := hs ▸ (cmpR_range z2 0).1
    have hs2 := hs ▸ (cmpR_range z2 0).2
    have HM : Hid (cmpR z1 z0 = m) := by show _ = _; rw [cmpR_swap, hk, ← hm, IntWalk.i64_in _ (by omega)]
    have HE : Hid (decide (z0 = z1) = e) := by show _ = _; rw [← he, ← hk, Bool.eq_iff_iff, decide_eq_true_eq, beq_iff_eq, cmpR_eq]
    have HPR : Hid (cmpR (z0 * z2) (z1 * z2) = ks) := by
      show _ = _
      have := mul_range ⟨hk1, hk2⟩ ⟨hs1, hs2⟩
      rw [cmpR_mul, hk, hs, ← hks, IntWalk.i64_in _ (by omega)]
    have HT : t ≤ 0 → k ≤ 0 → u ≤ 0 := fun h1 h2 => by rw [← hu]; exact cmpR_trans (by rw [hk]; exact h2) (by rw [ht]; exact h1)
    have HKK := Lib.hid hk
    have HS := Lib.hid hs
    have HTT := Lib.hid ht
    have HU := Lib.hid hu
    clear hk hs ht hu
    go_enter Tryz.func9, Tryz.ntmps9
    go_wp2_with fail
    obtain ⟨v1, hv1⟩ : ∃ W, W = ((((w.alloc (.cells #[.bool n0, .slice p0 A0.length q0, .slice p0' B0.length q0'] 27)).alloc (.cells #[.bool n1, .slice p1 A1.length q1, .slice p1' B1.length q1'] 27)).alloc (.cells #[.bool n2, .slice p2 A2.length q2, .slice p2' B2.length q2'] 27)).alloc (.cells #[.bool n0, .slice p0 A0.length q0, .slice p0' B0.length q0', .bool n1, .slice p1 A1.length q1, .slice p1' B1.length q1', .bool n2, .slice p2 A2.length q2, .slice p2' B2.length q2'] 27)) := ⟨_, rfl⟩
    have y1 : Ext w v1 := by rw [hv1]; exact (((((Ext.refl _).alloc _).alloc _).alloc _).alloc _)
    have b0_0 : Hid (At (w.heap.size) 0 (.bool n0) v1) := by rw [hv1]; exact At.ext (At.n0 (by rfl)) ((((Ext.refl _).alloc _).alloc _).alloc _)
    have b0_1 : Hid (At (w.heap.size) 1 (.slice p0 A0.length q0) v1) := by rw [hv1]; exact At.ext (At.n0 (by rfl)) ((((Ext.refl _).alloc _).alloc _).alloc _)
    have b0_2 : Hid (At (w.heap.size) 2 (.slice p0' B0.length q0') v1) := by rw [hv1]; exact At.ext (At.n0 (by rfl)) ((((Ext.refl _).alloc _).alloc _).alloc _)
    have k0 : Hid (Bx 3 (w.heap.size) v1) := by rw [hv1]; exact Bx.gr (Bx.n0 3 ⟨rfl, by decide⟩ (by decide) noI_s3) (Ext.gr ((((Ext.refl _).alloc _).alloc _).alloc _))
    have u0 : Hid (w.heap.size < v1.heap.size) := b0_0.out.2
    have b1_0 : Hid (At (w.heap.size + 1) 0 (.bool n1) v1) := by rw [hv1]; exact At.ext (At.n1 (by rfl)) (((Ext.refl _).alloc _).alloc _)
    have b1_1 : Hid (At (w.heap.size + 1) 1 (.slice p1 A1.length q1) v1) := by rw [hv1]; exact At.ext (At.n1 (by rfl)) (((Ext.refl _).alloc _).alloc _)
    have b1_2 : Hid (At (w.heap.size + 1) 2 (.slice p1' B1.length q1') v1) := by rw [hv1]; exact At.ext (At.n1 (by rfl)) (((Ext.refl _).alloc _).alloc _)
    have k1 : Hid (Bx 3 (w.heap.size + 1) v1) := by rw [hv1]; exact Bx.gr (Bx.n1 3 ⟨rfl, by decide⟩ (by decide) noI_s3) (Ext.gr (((Ext.refl _).alloc _).alloc _))
    have u1 : Hid (w.heap.size + 1 < v1.heap.size) := b1_0.out.2
    have b2_0 : Hid (At (w.heap.size + 1 + 1) 0 (.bool n2) v1) := by rw [hv1]; exact At.ext (At.n2 (by rfl)) ((Ext.refl _).alloc _)
    have b2_1 : Hid (At (w.heap.size + 1 + 1) 1 (.slice p2 A2.length q2) v1) := by rw [hv1]; exact At.ext (At.n2 (by rfl)) ((Ext.refl _).alloc _)
    have b2_2 : Hid (At (w.heap.size + 1 + 1) 2 (.slice p2' B2.length q2') v1) := by rw [hv1]; exact At.ext (At.n2 (by rfl)) ((Ext.refl _).alloc _)
    have k2 : Hid (Bx 3 (w.heap.size + 1 + 1) v1) := by rw [hv1]; exact Bx.gr (Bx.n2 3 ⟨rfl, by decide⟩ (by decide) noI_s3) (Ext.gr ((Ext.refl _).alloc _))
    have u2 : Hid (w.heap.size + 1 + 1 < v1.heap.size) := b2_0.out.2
    have b3_0 : Hid (At (w.heap.size + 1 + 1 + 1) 0 (.bool n0) v1) := by rw [hv1]; exact At.ext (At.n3 (by rfl)) (Ext.refl _)
    have b3_1 : Hid (At (w.heap.size + 1 + 1 + 1) 1 (.slice p0 A0.length q0) v1) := by rw [hv1]; exact At.ext (At.n3 (by rfl)) (Ext.refl _)
    have b3_2 : Hid (At (w.heap.size + 1 + 1 + 1) 2 (.slice p0' B0.length q0') v1) := by rw [hv1]; exact At.ext (At.n3 (by rfl)) (Ext.refl _)
    have b3_3 : Hid (At (w.heap.size + 1 + 1 + 1) 3 (.bool n1) v1) := by rw [hv1]; exact At.ext (At.n3 (by rfl)) (Ext.refl _)
    have b3_4 : Hid (At (w.heap.size + 1 + 1 + 1) 4 (.slice p1 A1.length q1) v1) := by rw [hv1]; exact At.ext (At.n3 (by rfl)) (Ext.refl _)
    have b3_5 : Hid (At (w.heap.size + 1 + 1 + 1) 5 (.slice p1' B1.length q1') v1) := by rw [hv1]; exact At.ext (At.n3 (by rfl)) (Ext.refl _)
    have b3_6 : Hid (At (w.heap.size + 1 + 1 + 1) 6 (.bool n2) v1) := by rw [hv1]; exact At.ext (At.n3 (by rfl)) (Ext.refl _)
    have b3_7 : Hid (At (w.heap.size + 1 + 1 + 1) 7 (.slice p2 A2.length q2) v1) := by rw [hv1]; exact At.ext (At.n3 (by rfl)) (Ext.refl _)
    have b3_8 : Hid (At (w.heap.size + 1 + 1 + 1) 8 (.slice p2' B2.length q2') v1) := by rw [hv1]; exact At.ext (At.n3 (by rfl)) (Ext.refl _)
    have u3 : Hid (w.heap.size + 1 + 1 + 1 < v1.heap.size) := b3_0.out.2
    have e1_ : Ext w v1 := y1
    rw [← hv1]
    clear hv1
    refine (long_calls (Ls := [(n0, A0, B0), (n1, A1, B1), (n2, A2, B2)]) (sl3_3 (b3_0.out) (b3_1.out) (b3_2.out) (⟨rfl, (h0.ext y1), (g0.ext y1)⟩) (b3_3.out) (b3_4.out) (b3_5.out) (⟨rfl, (h1.ext y1), (g1.ext y1)⟩) (b3_6.out) (b3_7.out) (b3_8.out) (⟨rfl, (h2.ext y1), (g2.ext y1)⟩)) false HLB.out).mono ?_
    rintro e w2 ⟨rfl, x2⟩
    have e2_ : Ext w w2 := Ext.trans e1_ x2
    go_wp2_with fail
    refine (awake06_calls _).mono ?_
    rintro e w3 ⟨rfl, x3⟩
    have e3_ : Ext w w3 := Ext.trans e2_ x3
    go_wp2_with fail
    have hkeep1 : AllAt' ([(w.heap.size, 0, .bool n0), (w.heap.size, 1, .slice p0 A0.length q0), (w.heap.size, 2, .slice p0' B0.length q0'), (w.heap.size + 1, 0, .bool n1), (w.heap.size + 1, 1, .slice p1 A1.length q1), (w.heap.size + 1, 2, .slice p1' B1.length q1'), (w.heap.size + 1 + 1, 0, .bool n2), (w.heap.size + 1 + 1, 1, .slice p2 A2.length q2), (w.heap.size + 1 + 1, 2, .slice p2' B2.length q2')] : List (Nat × Nat × Value)) w3 := AllAt'.cons (b0_0.out.ext (x2.trans x3)) (AllAt'.cons (b0_1.out.ext (x2.trans x3)) (AllAt'.cons (b0_2.out.ext (x2.trans x3)) (AllAt'.cons (b1_0.out.ext (x2.trans x3)) (AllAt'.cons (b1_1.out.ext (x2.trans x3)) (AllAt'.cons (b1_2.out.ext (x2.trans x3)) (AllAt'.cons (b2_0.out.ext (x2.trans x3)) (AllAt'.cons (b2_1.out.ext (x2.trans x3)) (AllAt'.cons (b2_2.out.ext (x2.trans x3)) (AllAt'.nil _)))))))))
    have hob1 : ObOk w.heap.size w3 (([(w.heap.size, 0, .bool n0), (w.heap.size, 1, .slice p0 A0.length q0), (w.heap.size, 2, .slice p0' B0.length q0'), (w.heap.size + 1, 0, .bool n1), (w.heap.size + 1, 1, .slice p1 A1.length q1), (w.heap.size + 1, 2, .slice p1' B1.length q1'), (w.heap.size + 1 + 1, 0, .bool n2), (w.heap.size + 1 + 1, 1, .slice p2 A2.length q2), (w.heap.size + 1 + 1, 2, .slice p2' B2.length q2')] : List (Nat × Nat × Value)).map (·.1)) ([] : List (Nat × List (Nat × Value))) := trivial
    have hne1 : AllNe (([] : List (Nat × List (Nat × Value))).map (·.1)) := trivial
    (try simp only [List.append_eq, List.cons_append, List.nil_append])
    refine wp_region_gen ⟨[19, 20, 21, 22, 23, 24, 7, 8], fun i => false, fun i => ([none, none, none, none, none, none, none, none] : List (Option (BoxRef × Nat))).getD i none, fun i => ([Sg.val (.agg #[.bool n0, .slice p0 A0.length q0, .slice p0' B0.length q0']), Sg.val (.agg #[.bool n1, .slice p1 A1.length q1, .slice p1' B1.length q1']), Sg.val (.int .i64 k), Sg.val (.agg #[.bool n2, .slice p2 A2.length q2, .slice p2' B2.length q2']), Sg.ratO w.heap.size ((0 : Int) : Rat), Sg.val (.int .i64 s), Sg.val (.int .i64 k), Sg.val (.int .i64 s)] : List Sg).getD i Sg.any, [(w.heap.size, 0, .bool n0), (w.heap.size, 1, .slice p0 A0.length q0), (w.heap.size, 2, .slice p0' B0.length q0'), (w.heap.size + 1, 0, .bool n1), (w.heap.size + 1, 1, .slice p1 A1.length q1), (w.heap.size + 1, 2, .slice p1' B1.length q1'), (w.heap.size + 1 + 1, 0, .bool n2), (w.heap.size + 1 + 1, 1, .slice p2 A2.length q2), (w.heap.size + 1 + 1, 2, .slice p2' B2.length q2')], []⟩ w.heap.size (by kernel_rfl) (by kernel_rfl) e3_.size ?hfr hkeep1 hob1 hne1 ?hs ?he
    case hfr =>
      intro i v wk hi hst hv
      exact absurd hi (by simp)
    case hs =>
      refine ⟨?_, ?_, ?_, ?_, ?_, ?_, ?_, ?_, trivial⟩
      · refine RStep.op rfl rfl (fun ac wk hp K hK => ?_)
        have t3_ : ac.tmps[3]?.getD undef = .pointer (some ⟨w.heap.size, 0, none⟩) := hp.slot 3 rfl rfl
        have c0_ := hp.cell 0 rfl
        have c1_ := hp.cell 1 rfl
        have c2_ := hp.cell 2 rfl
        have HP := Lib.hid hp
        clear hp
        go_simp
        refine hK.out _ _ ?_ (Ext.refl _) (fun h => absurd h (by simp))
        exact rfl
      · refine RStep.op rfl rfl (fun ac wk hp K hK => ?_)
        have t4_ : ac.tmps[4]?.getD undef = .pointer (some ⟨w.heap.size + 1, 0, none⟩) := hp.slot 4 rfl rfl
        have c0_ := hp.cell 3 rfl
        have c1_ := hp.cell 4 rfl
        have c2_ := hp.cell 5 rfl
        have HP := Lib.hid hp
        clear hp
        go_simp
        refine hK.out _ _ ?_ (Ext.refl _) (fun h => absurd h (by simp))
        exact rfl
      · refine RStep.op rfl rfl (fun ac wk hp K hK => ?_)
        have u0e := hp.get 0 (by decide +kernel) rfl
        have t19_ : ac.tmps[19]?.getD undef = .agg #[.bool n0, .slice p0 A0.length q0, .slice p0' B0.length q0'] := slot_is' u0e
        have u1e := hp.get 1 (by decide +kernel) rfl
        have t20_ : ac.tmps[20]?.getD undef = .agg #[.bool n1, .slice p1 A1.length q1, .slice p1' B1.length q1'] := slot_is' u1e
        have HP := Lib.hid hp
        clear hp
        go_simp
        refine (rcmp_is (i0.gr ((y1.gr.trans (x2.gr.trans x3.gr)).trans HP.out.gr)) (i1.gr ((y1.gr.trans (x2.gr.trans x3.gr)).trans HP.out.gr)) (by decide) (s := k) HKK.out).mono ?_
        rintro e wk' ⟨rfl, ix⟩
        refine hK.out _ _ ?_ ix (fun h => absurd h (by simp))
        exact rfl
      · refine RStep.op rfl rfl (fun ac wk hp K hK => ?_)
        have t5_ : ac.tmps[5]?.getD undef = .pointer (some ⟨w.heap.size + 1 + 1, 0, none⟩) := hp.slot 5 rfl rfl
        have c0_ := hp.cell 6 rfl
        have c1_ := hp.cell 7 rfl
        have c2_ := hp.cell 8 rfl
        have HP := Lib.hid hp
        clear hp
        go_simp
        refine hK.out _ _ ?_ (Ext.refl _) (fun h => absurd h (by simp))
        exact rfl
      · refine RStep.op rfl rfl (fun ac wk hp K hK => ?_)
        have HP := Lib.hid hp
        clear hp
        go_simp
        refine (rof_is _ 0 (by decide) (by decide)).mono ?_
        rintro e wk' ⟨sb4, sv4, su4, sm4, sd4, rfl, e4, o4, ix⟩
        obtain ⟨sp4, sl4, sc4, tp4, tl4, tc4, rfl, rfl⟩ := e4.slice
        refine hK.out _ _ ?_ ix (fun h => absurd h (by simp))
        exact ⟨_, _, _, _, _, _, _, _, _, rfl, e4, (o4.mono (Nat.le_trans e3_.size HP.out.gr.size))⟩
      · refine RStep.op rfl rfl (fun ac wk hp K hK => ?_)
        have u3e := hp.get 3 (by decide +kernel) rfl
        have t22_ : ac.tmps[22]?.getD undef = .agg #[.bool n2, .slice p2 A2.length q2, .slice p2' B2.length q2'] := slot_is' u3e
        obtain ⟨u4b, u4p, u4n, u4c, u4q, u4k, u4d, u4m, u4l, u4e, u4i, u4o⟩ := hp.get 4 (by decide +kernel) rfl
        have t23_ : ac.tmps[23]?.getD undef = .agg #[.bool u4b, .slice u4p u4n u4c, .slice u4q u4k u4d] := slot_is' u4e
        have HP := Lib.hid hp
        clear hp
        go_simp
        refine (rcmp_is (i2.gr ((y1.gr.trans (x2.gr.trans x3.gr)).trans HP.out.gr)) (u4i.inR (k := 1) (LenR.int (LenI.small (by have h1 : (-9223372036854775808 : Int) ≤ 0 := (by decide); have h2 : 0 ≤ (9223372036854775807 : Int) := (by decide); omega)) (by decide))) (by decide) (s := s) HS.out).mono ?_
        rintro e wk' ⟨rfl, ix⟩
        refine hK.out _ _ ?_ ix (fun h => absurd h (by simp))
        exact rfl
      · refine RStep.op rfl rfl (fun ac wk hp K hK => ?_)
        have u2e := hp.get 2 (by decide +kernel) rfl
        have t21_ : ac.tmps[21]?.getD undef = .int .i64 k := slot_is' u2e
        have HP := Lib.hid hp
        clear hp
        go_simp
        refine hK.out _ _ ?_ (Ext.refl _) (fun h => absurd h (by simp))
        exact rfl
      · refine RStep.op rfl rfl (fun ac wk hp K hK => ?_)
        have u5e := hp.get 5 (by decide +kernel) rfl
        have t24_ : ac.tmps[24]?.getD undef = .int .i64 s := slot_is' u5e
        have HP := Lib.hid hp
        clear hp
        go_simp
        refine hK.out _ _ ?_ (Ext.refl _) (fun h => absurd h (by simp))
        exact rfl
    case he =>
      intro ac v4 hM
      have y1_0e := hM.post 0 rfl rfl
      have y1_1e := hM.post 1 rfl rfl
      have y1_2e := hM.post 2 rfl rfl
      have y1_3e := hM.post 3 rfl rfl
      obtain ⟨y1_4b, y1_4p, y1_4n, y1_4c, y1_4q, y1_4k, y1_4d, y1_4m, y1_4l, y1_4e, y1_4i, y1_4o⟩ := hM.post 4 rfl rfl
      have y1_5e := hM.post 5 rfl rfl
      have y1_6e := hM.post 6 rfl rfl
      have y1_7e := hM.post 7 rfl rfl
      have b0_0 : Hid (At (w.heap.size) 0 (.bool n0) v4) := Lib.hid (hM.keep.at 0 rfl)
      have b0_1 : Hid (At (w.heap.size) 1 (.slice p0 A0.length q0) v4) := Lib.hid (hM.keep.at 1 rfl)
      have b0_2 : Hid (At (w.heap.size) 2 (.slice p0' B0.length q0') v4) := Lib.hid (hM.keep.at 2 rfl)
      have b1_0 : Hid (At (w.heap.size + 1) 0 (.bool n1) v4) := Lib.hid (hM.keep.at 3 rfl)
      have b1_1 : Hid (At (w.heap.size + 1) 1 (.slice p1 A1.length q1) v4) := Lib.hid (hM.keep.at 4 rfl)
      have b1_2 : Hid (At (w.heap.size + 1) 2 (.slice p1' B1.length q1') v4) := Lib.hid (hM.keep.at 5 rfl)
      have b2_0 : Hid (At (w.heap.size + 1 + 1) 0 (.bool n2) v4) := Lib.hid (hM.keep.at 6 rfl)
      have b2_1 : Hid (At (w.heap.size + 1 + 1) 1 (.slice p2 A2.length q2) v4) := Lib.hid (hM.keep.at 7 rfl)
      have b2_2 : Hid (At (w.heap.size + 1 + 1) 2 (.slice p2' B2.length q2') v4) := Lib.hid (hM.keep.at 8 rfl)
      have gv4 : Gr w3 v4 := hM.gr
      have e4_ : Ext w v4 := Ext.below e3_ hM.blw
      have z0_ : sl ac 19 = .agg #[.bool n0, .slice p0 A0.length q0, .slice p0' B0.length q0'] := y1_0e
      have z1_ : sl ac 20 = .agg #[.bool n1, .slice p1 A1.length q1, .slice p1' B1.length q1'] := y1_1e
      have z2_ : sl ac 21 = .int .i64 k := y1_2e
      have z3_ : sl ac 22 = .agg #[.bool n2, .slice p2 A2.length q2, .slice p2' B2.length q2'] := y1_3e
      have z4_ : sl ac 23 = .agg #[.bool y1_4b, .slice y1_4p y1_4n y1_4c, .slice y1_4q y1_4k y1_4d] := y1_4e
      have z5_ : sl ac 24 = .int .i64 s := y1_5e
      have z6_ : sl ac 7 = .int .i64 k := y1_6e
      have z7_ : sl ac 8 = .int .i64 s := y1_7e
      rw [hM.ag.lay]
      simp only [lay, List.foldl_cons, List.foldl_nil, List.setIfInBounds_toArray, List.set_cons_zero, List.set_cons_succ, z0_, z1_, z2_, z3_, z4_, z5_, z6_, z7_]
      clear hM hkeep1 hob1 hne1 z0_ z1_ z2_ z3_ z4_ z5_ z6_ z7_ y1_0e y1_1e y1_2e y1_3e y1_4e y1_5e y1_6e y1_7e
      go_wp2_with fail
      have hkeep2 : AllAt' ([(w.heap.size, 0, .bool n0), (w.heap.size, 1, .slice p0 A0.length q0), (w.heap.size, 2, .slice p0' B0.length q0'), (w.heap.size + 1, 0, .bool n1), (w.heap.size + 1, 1, .slice p1 A1.length q1), (w.heap.size + 1, 2, .slice p1' B1.length q1'), (w.heap.size + 1 + 1, 0, .bool n2), (w.heap.size + 1 + 1, 1, .slice p2 A2.length q2), (w.heap.size + 1 + 1, 2, .slice p2' B2.length q2')] : List (Nat × Nat × Value)) v4 := AllAt'.cons b0_0.out (AllAt'.cons b0_1.out (AllAt'.cons b0_2.out (AllAt'.cons b1_0.out (AllAt'.cons b1_1.out (AllAt'.cons b1_2.out (AllAt'.cons b2_0.out (AllAt'.cons b2_1.out (AllAt'.cons b2_2.out (AllAt'.nil _)))))))))
      have hob2 : ObOk w.heap.size v4 (([(w.heap.size, 0, .bool n0), (w.heap.size, 1, .slice p0 A0.length q0), (w.heap.size, 2, .slice p0' B0.length q0'), (w.heap.size + 1, 0, .bool n1), (w.heap.size + 1, 1, .slice p1 A1.length q1), (w.heap.size + 1, 2, .slice p1' B1.length q1'), (w.heap.size + 1 + 1, 0, .bool n2), (w.heap.size + 1 + 1, 1, .slice p2 A2.length q2), (w.heap.size + 1 + 1, 2, .slice p2' B2.length q2')] : List (Nat × Nat × Value)).map (·.1)) ([] : List (Nat × List (Nat × Value))) := trivial
      have hne2 : AllNe (([] : List (Nat × List (Nat × Value))).map (·.1)) := trivial
      (try simp only [List.append_eq, List.cons_append, List.nil_append])
      refine wp_region_gen ⟨[25, 26, 27, 28, 29, 30, 31, 32, 33, 34, 35, 36, 37, 38, 39, 40, 41, 42, 43, 44, 45, 46, 47, 48, 49, 50, 51, 52, 53, 54, 55, 56, 57], fun i => false, fun i => ([none, none, none, none, none, none, none, none, none, none, none, none, none, none, none, none, none, none, none, none, none, none, none, none, none, none, none, none, none, none, none, none, none] : List (Option (BoxRef × Nat))).getD i none, fun i => ([Sg.val (.int .i64 k), Sg.val (.bool false), Sg.val (.bool false), Sg.val (.int .i64 k), Sg.val (.bool false), Sg.val (.bool false), Sg.val (.bool false), Sg.val (.agg #[.bool n1, .slice p1 A1.length q1, .slice p1' B1.length q1']), Sg.val (.agg #[.bool n0, .slice p0 A0.length q0, .slice p0' B0.length q0']), Sg.val (.int .i64 m), Sg.val (.int .i64 k), Sg.val (.int .i64 m), Sg.val (.bool false), Sg.val (.bool false), Sg.val (.bool false), Sg.val (.int .i64 k), Sg.val (.bool e), Sg.val (.agg #[.bool n0, .slice p0 A0.length q0, .slice p0' B0.length q0']), Sg.val (.agg #[.bool n1, .slice p1 A1.length q1, .slice p1' B1.length q1']), Sg.val (.bool e), Sg.val (.bool false), Sg.val (.bool false), Sg.val (.bool false), Sg.val (.agg #[.bool n0, .slice p0 A0.length q0, .slice p0' B0.length q0']), Sg.val (.agg #[.bool n2, .slice p2 A2.length q2, .slice p2' B2.length q2']), Sg.ratO w.heap.size (z0 + z2), Sg.val (.agg #[.bool n1, .slice p1 A1.length q1, .slice p1' B1.length q1']), Sg.val (.agg #[.bool n2, .slice p2 A2.length q2, .slice p2' B2.length q2']), Sg.ratO w.heap.size (z1 + z2), Sg.val (.int .i64 k), Sg.val (.int .i64 k), Sg.val (.bool false), Sg.val (.bool false)] : List Sg).getD i Sg.any, [(w.heap.size, 0, .bool n0), (w.heap.size, 1, .slice p0 A0.length q0), (w.heap.size, 2, .slice p0' B0.length q0'), (w.heap.size + 1, 0, .bool n1), (w.heap.size + 1, 1, .slice p1 A1.length q1), (w.heap.size + 1, 2, .slice p1' B1.length q1'), (w.heap.size + 1 + 1, 0, .bool n2), (w.heap.size + 1 + 1, 1, .slice p2 A2.length q2), (w.heap.size + 1 + 1, 2, .slice p2' B2.length q2')], []⟩ w.heap.size (by kernel_rfl) (by kernel_rfl) e4_.size ?hfr hkeep2 hob2 hne2 ?hs ?he
      case hfr =>
        intro i v wk hi hst hv
        exact absurd hi (by simp)
      case hs =>
        refine ⟨?_, ?_, ?_, ?_, ?_, ?_, ?_, ?_, ?_, ?_, ?_, ?_, ?_, ?_, ?_, ?_, ?_, ?_, ?_, ?_, ?_, ?_, ?_, ?_, ?_, ?_, ?_, ?_, ?_, ?_, ?_, ?_, ?_, trivial⟩
        · refine RStep.op rfl rfl (fun ac wk hp K hK => ?_)
          have t7_ : ac.tmps[7]?.getD undef = .int .i64 k := hp.slot 7 rfl rfl
          have HP := Lib.hid hp
          clear hp
          go_simp
          refine hK.out _ _ ?_ (Ext.refl _) (fun h => absurd h (by simp))
          exact rfl
        · refine RStep.op rfl rfl (fun ac wk hp K hK => ?_)
          have u0e := hp.get 0 (by decide +kernel) rfl
          have t25_ : ac.tmps[25]?.getD undef = .int .i64 k := slot_is' u0e
          have HP := Lib.hid hp
          clear hp
          go_simp
          refine hK.out _ _ ?_ (Ext.refl _) (fun h => absurd h (by simp))
          exact (by first | rfl | (apply congrArg Value.bool; simp; done) | (apply congrArg Value.bool; simp; omega) | (simp [*]; done))
        · refine RStep.op rfl rfl (fun ac wk hp K hK => ?_)
          have u1e := hp.get 1 (by decide +kernel) rfl
          have t26_ : ac.tmps[26]?.getD undef = .bool false := slot_is' u1e
          have HP := Lib.hid hp
          clear hp
          go_simp
          refine hK.out _ _ ?_ (Ext.refl _) (fun h => absurd h (by simp))
          exact rfl
        · refine RStep.yes 2 false rfl rfl (by decide +kernel) rfl rfl (fun ac wk hp K hK => ?_)
          have t7_ : ac.tmps[7]?.getD undef = .int .i64 k := hp.slot 7 rfl rfl
          have HP := Lib.hid hp
          clear hp
          go_simp
          refine hK.out _ _ ?_ (Ext.refl _) (fun h => absurd h (by simp))
          exact rfl
        · refine RStep.yes 2 false rfl rfl (by decide +kernel) rfl rfl (fun ac wk hp K hK => ?_)
          have u3e := hp.get 3 (by decide +kernel) rfl
          have t28_ : ac.tmps[28]?.getD undef = .int .i64 k := slot_is' u3e
          have HP := Lib.hid hp
          clear hp
          go_simp
          refine hK.out _ _ ?_ (Ext.refl _) (fun h => absurd h (by simp))
          exact (by first | rfl | (apply congrArg Value.bool; simp; done) | (apply congrArg Value.bool; simp; omega) | (simp [*]; done))
        · refine RStep.op rfl rfl (fun ac wk hp K hK => ?_)
          have u2e := hp.get 2 (by decide +kernel) rfl
          have t27_ : ac.tmps[27]?.getD undef = .bool false := slot_is' u2e
          have u4e := hp.get 4 (by decide +kernel) rfl
          have t29_ : ac.tmps[29]?.getD undef = .bool false := slot_is' u4e
          have HP := Lib.hid hp
          clear hp
          go_simp
          refine hK.out _ _ ?_ (Ext.refl _) (fun h => absurd h (by simp))
          exact rfl
        · refine RStep.op rfl rfl (fun ac wk hp K hK => ?_)
          have u5e := hp.get 5 (by decide +kernel) rfl
          have t30_ : ac.tmps[30]?.getD undef = .bool false := slot_is' u5e
          have HP := Lib.hid hp
          clear hp
          go_simp
          refine hK.out _ _ ?_ (Ext.refl _) (fun h => absurd h (by simp))
          exact rfl
        · refine RStep.yes 6 false rfl rfl (by decide +kernel) rfl rfl (fun ac wk hp K hK => ?_)
          have t4_ : ac.tmps[4]?.getD undef = .pointer (some ⟨w.heap.size + 1, 0, none⟩) := hp.slot 4 rfl rfl
          have c0_ := hp.cell 3 rfl
          have c1_ := hp.cell 4 rfl
          have c2_ := hp.cell 5 rfl
          have HP := Lib.hid hp
          clear hp
          go_simp
          refine hK.out _ _ ?_ (Ext.refl _) (fun h => absurd h (by simp))
          exact rfl
        · refine RStep.yes 6 false rfl rfl (by decide +kernel) rfl rfl (fun ac wk hp K hK => ?_)
          have t3_ : ac.tmps[3]?.getD undef = .pointer (some ⟨w.heap.size, 0, none⟩) := hp.slot 3 rfl rfl
          have c0_ := hp.cell 0 rfl
          have c1_ := hp.cell 1 rfl
          have c2_ := hp.cell 2 rfl
          have HP := Lib.hid hp
          clear hp
          go_simp
          refine hK.out _ _ ?_ (Ext.refl _) (fun h => absurd h (by simp))
          exact rfl
        · refine RStep.yes 6 false rfl rfl (by decide +kernel) rfl rfl (fun ac wk hp K hK => ?_)
          have u7e := hp.get 7 (by decide +kernel) rfl
          have t32_ : ac.tmps[32]?.getD undef = .agg #[.bool n1, .slice p1 A1.length q1, .slice p1' B1.length q1'] := slot_is' u7e
          have u8e := hp.get 8 (by decide +kernel) rfl
          have t33_ : ac.tmps[33]?.getD undef = .agg #[.bool n0, .slice p0 A0.length q0, .slice p0' B0.length q0'] := slot_is' u8e
          have HP := Lib.hid hp
          clear hp
          go_simp
          refine (rcmp_is (i1.gr ((y1.gr.trans (x2.gr.trans (x3.gr.trans gv4))).trans HP.out.gr)) (i0.gr ((y1.gr.trans (x2.gr.trans (x3.gr.trans gv4))).trans HP.out.gr)) (by decide) (s := m) HM.out).mono ?_
          rintro e wk' ⟨rfl, ix⟩
          refine hK.out _ _ ?_ ix (fun h => absurd h (by simp))
          exact rfl
        · refine RStep.yes 6 false rfl rfl (by decide +kernel) rfl rfl (fun ac wk hp K hK => ?_)
          have t7_ : ac.tmps[7]?.getD undef = .int .i64 k := hp.slot 7 rfl rfl
          have HP := Lib.hid hp
          clear hp
          go_simp
          refine hK.out _ _ ?_ (Ext.refl _) (fun h => absurd h (by simp))
          exact rfl
        · refine RStep.yes 6 false rfl rfl (by decide +kernel) rfl rfl (fun ac wk hp K hK => ?_)
          have u10e := hp.get 10 (by decide +kernel) rfl
          have t35_ : ac.tmps[35]?.getD undef = .int .i64 k := slot_is' u10e
          have HP := Lib.hid hp
          clear hp
          go_simp
          refine hK.out _ _ ?_ (Ext.refl _) (fun h => absurd h (by simp))
          exact (by first | rfl | (apply congrArg Value.bool; simp; done) | (apply congrArg Value.bool; simp; omega) | (simp [*]; done))
        · refine RStep.yes 6 false rfl rfl (by decide +kernel) rfl rfl (fun ac wk hp K hK => ?_)
          have u9e := hp.get 9 (by decide +kernel) rfl
          have t34_ : ac.tmps[34]?.getD undef = .int .i64 m := slot_is' u9e
          have u11e := hp.get 11 (by decide +kernel) rfl
          have t36_ : ac.tmps[36]?.getD undef = .int .i64 m := slot_is' u11e
          have HP := Lib.hid hp
          clear hp
          go_simp
          refine hK.out _ _ ?_ (Ext.refl _) (fun h => absurd h (by simp))
          exact rfl
        · refine RStep.op rfl rfl (fun ac wk hp K hK => ?_)
          have u6e := hp.get 6 (by decide +kernel) rfl
          have t31_ : ac.tmps[31]?.getD undef = .bool false := slot_is' u6e
          have u12e := hp.get 12 (by decide +kernel) rfl
          have t37_ : ac.tmps[37]?.getD undef = .bool false := slot_is' u12e
          have HP := Lib.hid hp
          clear hp
          go_simp
          refine hK.out _ _ ?_ (Ext.refl _) (fun h => absurd h (by simp))
          exact rfl
        · refine RStep.op rfl rfl (fun ac wk hp K hK => ?_)
          have u13e := hp.get 13 (by decide +kernel) rfl
          have t38_ : ac.tmps[38]?.getD undef = .bool false := slot_is' u13e
          have HP := Lib.hid hp
          clear hp
          go_simp
          refine hK.out _ _ ?_ (Ext.refl _) (fun h => absurd h (by simp))
          exact rfl
        · refine RStep.yes 14 false rfl rfl (by decide +kernel) rfl rfl (fun ac wk hp K hK => ?_)
          have t7_ : ac.tmps[7]?.getD undef = .int .i64 k := hp.slot 7 rfl rfl
          have HP := Lib.hid hp
          clear hp
          go_simp
          refine hK.out _ _ ?_ (Ext.refl _) (fun h => absurd h (by simp))
          exact rfl
        · refine RStep.yes 14 false rfl rfl (by decide +kernel) rfl rfl (fun ac wk hp K hK => ?_)
          have u15e := hp.get 15 (by decide +kernel) rfl
          have t40_ : ac.tmps[40]?.getD undef = .int .i64 k := slot_is' u15e
          have HP := Lib.hid hp
          clear hp
          go_simp
          refine hK.out _ _ ?_ (Ext.refl _) (fun h => absurd h (by simp))
          exact (by first | rfl | (apply congrArg Value.bool; simp; done) | (apply congrArg Value.bool; simp; omega) | (simp [*]; done))
        · refine RStep.yes 14 false rfl rfl (by decide +kernel) rfl rfl (fun ac wk hp K hK => ?_)
          have t3_ : ac.tmps[3]?.getD undef = .pointer (some ⟨w.heap.size, 0, none⟩) := hp.slot 3 rfl rfl
          have c0_ := hp.cell 0 rfl
          have c1_ := hp.cell 1 rfl
          have c2_ := hp.cell 2 rfl
          have HP := Lib.hid hp
          clear hp
          go_simp
          refine hK.out _ _ ?_ (Ext.refl _) (fun h => absurd h (by simp))
          exact rfl
        · refine RStep.yes 14 false rfl rfl (by decide +kernel) rfl rfl (fun ac wk hp K hK => ?_)
          have t4_ : ac.tmps[4]?.getD undef = .pointer (some ⟨w.heap.size + 1, 0, none⟩) := hp.slot 4 rfl rfl
          have c0_ := hp.cell 3 rfl
          have c1_ := hp.cell 4 rfl
          have c2_ := hp.cell 5 rfl
          have HP := Lib.hid hp
          clear hp
          go_simp
          refine hK.out _ _ ?_ (Ext.refl _) (fun h => absurd h (by simp))
          exact rfl
        · refine RStep.yes 14 false rfl rfl (by decide +kernel) rfl rfl (fun ac wk hp K hK => ?_)
          have u17e := hp.get 17 (by decide +kernel) rfl
          have t42_ : ac.tmps[42]?.getD undef = .agg #[.bool n0, .slice p0 A0.length q0, .slice p0' B0.length q0'] := slot_is' u17e
          have u18e := hp.get 18 (by decide +kernel) rfl
          have t43_ : ac.tmps[43]?.getD undef = .agg #[.bool n1, .slice p1 A1.length q1, .slice p1' B1.length q1'] := slot_is' u18e
          have HP := Lib.hid hp
          clear hp
          go_simp
          refine (rsame_calls (i0.gr ((y1.gr.trans (x2.gr.trans (x3.gr.trans gv4))).trans HP.out.gr)) (i1.gr ((y1.gr.trans (x2.gr.trans (x3.gr.trans gv4))).trans HP.out.gr)) (by decide) e HE.out).mono ?_
          rintro e wk' ⟨rfl, ix⟩
          refine hK.out _ _ ?_ ix (fun h => absurd h (by simp))
          exact rfl
        · refine RStep.yes 14 false rfl rfl (by decide +kernel) rfl rfl (fun ac wk hp K hK => ?_)
          have u16e := hp.get 16 (by decide +kernel) rfl
          have t41_ : ac.tmps[41]?.getD undef = .bool e := slot_is' u16e
          have u19e := hp.get 19 (by decide +kernel) rfl
          have t44_ : ac.tmps[44]?.getD undef = .bool e := slot_is' u19e
          have HP := Lib.hid hp
          clear hp
          go_simp
          refine hK.out _ _ ?_ (Ext.refl _) (fun h => absurd h (by simp))
          exact rfl
        · refine RStep.op rfl rfl (fun ac wk hp K hK => ?_)
          have u14e := hp.get 14 (by decide +kernel) rfl
          have t39_ : ac.tmps[39]?.getD undef = .bool false := slot_is' u14e
          have u20e := hp.get 20 (by decide +kernel) rfl
          have t45_ : ac.tmps[45]?.getD undef = .bool false := slot_is' u20e
          have HP := Lib.hid hp
          clear hp
          go_simp
          refine hK.out _ _ ?_ (Ext.refl _) (fun h => absurd h (by simp))
          exact rfl
        · refine RStep.op rfl rfl (fun ac wk hp K hK => ?_)
          have u21e := hp.get 21 (by decide +kernel) rfl
          have t46_ : ac.tmps[46]?.getD undef = .bool false := slot_is' u21e
          have HP := Lib.hid hp
          clear hp
          go_simp
          refine hK.out _ _ ?_ (Ext.refl _) (fun h => absurd h (by simp))
          exact rfl
        · refine RStep.yes 22 false rfl rfl (by decide +kernel) rfl rfl (fun ac wk hp K hK => ?_)
          have t3_ : ac.tmps[3]?.getD undef = .pointer (some ⟨w.heap.size, 0, none⟩) := hp.slot 3 rfl rfl
          have c0_ := hp.cell 0 rfl
          have c1_ := hp.cell 1 rfl
          have c2_ := hp.cell 2 rfl
          have HP := Lib.hid hp
          clear hp
          go_simp
          refine hK.out _ _ ?_ (Ext.refl _) (fun h => absurd h (by simp))
          exact rfl
        · refine RStep.yes 22 false rfl rfl (by decide +kernel) rfl rfl (fun ac wk hp K hK => ?_)
          have t5_ : ac.tmps[5]?.getD undef = .pointer (some ⟨w.heap.size + 1 + 1, 0, none⟩) := hp.slot 5 rfl rfl
          have c0_ := hp.cell 6 rfl
          have c1_ := hp.cell 7 rfl
          have c2_ := hp.cell 8 rfl
          have HP := Lib.hid hp
          clear hp
          go_simp
          refine hK.out _ _ ?_ (Ext.refl _) (fun h => absurd h (by simp))
          exact rfl
        · refine RStep.yes 22 false rfl rfl (by decide +kernel) rfl rfl (fun ac wk hp K hK => ?_)
          have u23e := hp.get 23 (by decide +kernel) rfl
          have t48_ : ac.tmps[48]?.getD undef = .agg #[.bool n0, .slice p0 A0.length q0, .slice p0' B0.length q0'] := slot_is' u23e
          have u24e := hp.get 24 (by decide +kernel) rfl
          have t49_ : ac.tmps[49]?.getD undef = .agg #[.bool n2, .slice p2 A2.length q2, .slice p2' B2.length q2'] := slot_is' u24e
          have HP := Lib.hid hp
          clear hp
          go_simp
          refine (radd_is (i0.gr ((y1.gr.trans (x2.gr.trans (x3.gr.trans gv4))).trans HP.out.gr)) (i2.gr ((y1.gr.trans (x2.gr.trans (x3.gr.trans gv4))).trans HP.out.gr)) (by decide)).mono ?_
          rintro e wk' ⟨sb8, sv8, su8, sm8, sd8, rfl, e8, o8, ix⟩
          obtain ⟨sp8, sl8, sc8, tp8, tl8, tc8, rfl, rfl⟩ := e8.slice
          refine hK.out _ _ ?_ ix (fun h => absurd h (by simp))
          exact ⟨_, _, _, _, _, _, _, _, _, rfl, e8, (o8.mono (Nat.le_trans e4_.size HP.out.gr.size))⟩
        · refine RStep.yes 22 false rfl rfl (by decide +kernel) rfl rfl (fun ac wk hp K hK => ?_)
          have t4_ : ac.tmps[4]?.getD undef = .pointer (some ⟨w.heap.size + 1, 0, none⟩) := hp.slot 4 rfl rfl
          have c0_ := hp.cell 3 rfl
          have c1_ := hp.cell 4 rfl
          have c2_ := hp.cell 5 rfl
          have HP := Lib.hid hp
          clear hp
          go_simp
          refine hK.out _ _ ?_ (Ext.refl _) (fun h => absurd h (by simp))
          exact rfl
        · refine RStep.yes 22 false rfl rfl (by decide +kernel) rfl rfl (fun ac wk hp K hK => ?_)
          have t5_ : ac.tmps[5]?.getD undef = .pointer (some ⟨w.heap.size + 1 + 1, 0, none⟩) := hp.slot 5 rfl rfl
          have c0_ := hp.cell 6 rfl
          have c1_ := hp.cell 7 rfl
          have c2_ := hp.cell 8 rfl
          have HP := Lib.hid hp
          clear hp
          go_simp
          refine hK.out _ _ ?_ (Ext.refl _) (fun h => absurd h (by simp))
          exact rfl
        · refine RStep.yes 22 false rfl rfl (by decide +kernel) rfl rfl (fun ac wk hp K hK => ?_)
          have u26e := hp.get 26 (by decide +kernel) rfl
          have t51_ : ac.tmps[51]?.getD undef = .agg #[.bool n1, .slice p1 A1.length q1, .slice p1' B1.length q1'] := slot_is' u26e
          have u27e := hp.get 27 (by decide +kernel) rfl
          have t52_ : ac.tmps[52]?.getD undef = .agg #[.bool n2, .slice p2 A2.length q2, .slice p2' B2.length q2'] := slot_is' u27e
          have HP := Lib.hid hp
          clear hp
          go_simp
          refine (radd_is (i1.gr ((y1.gr.trans (x2.gr.trans (x3.gr.trans gv4))).trans HP.out.gr)) (i2.gr ((y1.gr.trans (x2.gr.trans (x3.gr.trans gv4))).trans HP.out.gr)) (by decide)).mono ?_
          rintro e wk' ⟨sb9, sv9, su9, sm9, sd9, rfl, e9, o9, ix⟩
          obtain ⟨sp9, sl9, sc9, tp9, tl9, tc9, rfl, rfl⟩ := e9.slice
          refine hK.out _ _ ?_ ix (fun h => absurd h (by simp))
          exact ⟨_, _, _, _, _, _, _, _, _, rfl, e9, (o9.mono (Nat.le_trans e4_.size HP.out.gr.size))⟩
        · refine RStep.yes 22 false rfl rfl (by decide +kernel) rfl rfl (fun ac wk hp K hK => ?_)
          obtain ⟨u25b, u25p, u25n, u25c, u25q, u25k, u25d, u25m, u25l, u25e, u25i, u25o⟩ := hp.get 25 (by decide +kernel) rfl
          have t50_ : ac.tmps[50]?.getD undef = .agg #[.bool u25b, .slice u25p u25n u25c, .slice u25q u25k u25d] := slot_is' u25e
          obtain ⟨u28b, u28p, u28n, u28c, u28q, u28k, u28d, u28m, u28l, u28e, u28i, u28o⟩ := hp.get 28 (by decide +kernel) rfl
          have t53_ : ac.tmps[53]?.getD undef = .agg #[.bool u28b, .slice u28p u28n u28c, .slice u28q u28k u28d] := slot_is' u28e
          have HP := Lib.hid hp
          clear hp
          go_simp
          refine (rcmp_is (u25i.inR (k := 13) (LenR.add (InR.len i0) (InR.len i2))) (u28i.inR (k := 13) (LenR.add (InR.len i1) (InR.len i2))) (by decide) (s := k) (by rw [cmpR_add]; exact HKK.out)).mono ?_
          rintro e wk' ⟨rfl, ix⟩
          refine hK.out _ _ ?_ ix (fun h => absurd h (by simp))
          exact rfl
        · refine RStep.yes 22 false rfl rfl (by decide +kernel) rfl rfl (fun ac wk hp K hK => ?_)
          have t7_ : ac.tmps[7]?.getD undef = .int .i64 k := hp.slot 7 rfl rfl
          have HP := Lib.hid hp
          clear hp
          go_simp
          refine hK.out _ _ ?_ (Ext.refl _) (fun h => absurd h (by simp))
          exact rfl
        · refine RStep.yes 22 false rfl rfl (by decide +kernel) rfl rfl (fun ac wk hp K hK => ?_)
          have u29e := hp.get 29 (by decide +kernel) rfl
          have t54_ : ac.tmps[54]?.getD undef = .int .i64 k := slot_is' u29e
          have u30e := hp.get 30 (by decide +kernel) rfl
          have t55_ : ac.tmps[55]?.getD undef = .int .i64 k := slot_is' u30e
          have HP := Lib.hid hp
          clear hp
          go_simp
          refine hK.out _ _ ?_ (Ext.refl _) (fun h => absurd h (by simp))
          exact rfl
        · refine RStep.op rfl rfl (fun ac wk hp K hK => ?_)
          have u22e := hp.get 22 (by decide +kernel) rfl
          have t47_ : ac.tmps[47]?.getD undef = .bool false := slot_is' u22e
          have u31e := hp.get 31 (by decide +kernel) rfl
          have t56_ : ac.tmps[56]?.getD undef = .bool false := slot_is' u31e
          have HP := Lib.hid hp
          clear hp
          go_simp
          refine hK.out _ _ ?_ (Ext.refl _) (fun h => absurd h (by simp))
          exact rfl
      case he =>
        intro ac v5 hM
        have y2_0e := hM.post 0 rfl rfl
        have y2_1e := hM.post 1 rfl rfl
        have y2_2e := hM.post 2 rfl rfl
        have y2_3e := hM.post 3 rfl rfl
        have y2_4e := hM.post 4 rfl rfl
        have y2_5e := hM.post 5 rfl rfl
        have y2_6e := hM.post 6 rfl rfl
        have y2_7e := hM.post 7 rfl rfl
        have y2_8e := hM.post 8 rfl rfl
        have y2_9e := hM.post 9 rfl rfl
        have y2_10e := hM.post 10 rfl rfl
        have y2_11e := hM.post 11 rfl rfl
        have y2_12e := hM.post 12 rfl rfl
        have y2_13e := hM.post 13 rfl rfl
        have y2_14e := hM.post 14 rfl rfl
        have y2_15e := hM.post 15 rfl rfl
        have y2_16e := hM.post 16 rfl rfl
        have y2_17e := hM.post 17 rfl rfl
        have y2_18e := hM.post 18 rfl rfl
        have y2_19e := hM.post 19 rfl rfl
        have y2_20e := hM.post 20 rfl rfl
        have y2_21e := hM.post 21 rfl rfl
        have y2_22e := hM.post 22 rfl rfl
        have y2_23e := hM.post 23 rfl rfl
        have y2_24e := hM.post 24 rfl rfl
        obtain ⟨y2_25b, y2_25p, y2_25n, y2_25c, y2_25q, y2_25k, y2_25d, y2_25m, y2_25l, y2_25e, y2_25i, y2_25o⟩ := hM.post 25 rfl rfl
        have y2_26e := hM.post 26 rfl rfl
        have y2_27e := hM.post 27 rfl rfl
        obtain ⟨y2_28b, y2_28p, y2_28n, y2_28c, y2_28q, y2_28k, y2_28d, y2_28m, y2_28l, y2_28e, y2_28i, y2_28o⟩ := hM.post 28 rfl rfl
        have y2_29e := hM.post 29 rfl rfl
        have y2_30e := hM.post 30 rfl rfl
        have y2_31e := hM.post 31 rfl rfl
        have y2_32e := hM.post 32 rfl rfl
        have b0_0 : Hid (At (w.heap.size) 0 (.bool n0) v5) := Lib.hid (hM.keep.at 0 rfl)
        have b0_1 : Hid (At (w.heap.size) 1 (.slice p0 A0.length q0) v5) := Lib.hid (hM.keep.at 1 rfl)
        have b0_2 : Hid (At (w.heap.size) 2 (.slice p0' B0.length q0') v5) := Lib.hid (hM.keep.at 2 rfl)
        have b1_0 : Hid (At (w.heap.size + 1) 0 (.bool n1) v5) := Lib.hid (hM.keep.at 3 rfl)
        have b1_1 : Hid (At (w.heap.size + 1) 1 (.slice p1 A1.length q1) v5) := Lib.hid (hM.keep.at 4 rfl)
        have b1_2 : Hid (At (w.heap.size + 1) 2 (.slice p1' B1.length q1') v5) := Lib.hid (hM.keep.at 5 rfl)
        have b2_0 : Hid (At (w.heap.size + 1 + 1) 0 (.bool n2) v5) := Lib.hid (hM.keep.at 6 rfl)
        have b2_1 : Hid (At (w.heap.size + 1 + 1) 1 (.slice p2 A2.length q2) v5) := Lib.hid (hM.keep.at 7 rfl)
        have b2_2 : Hid (At (w.heap.size + 1 + 1) 2 (.slice p2' B2.length q2') v5) := Lib.hid (hM.keep.at 8 rfl)
        have gv5 : Gr v4 v5 := hM.gr
        have e5_ : Ext w v5 := Ext.below e4_ hM.blw
        have z0_ : sl ac 25 = .int .i64 k := y2_0e
        have z1_ : sl ac 26 = .bool false := y2_1e
        have z2_ : sl ac 27 = .bool false := y2_2e
        have z3_ : sl ac 28 = .int .i64 k := y2_3e
        have z4_ : sl ac 29 = .bool false := y2_4e
        have z5_ : sl ac 30 = .bool false := y2_5e
        have z6_ : sl ac 31 = .bool false := y2_6e
        have z7_ : sl ac 32 = .agg #[.bool n1, .slice p1 A1.length q1, .slice p1' B1.length q1'] := y2_7e
        have z8_ : sl ac 33 = .agg #[.bool n0, .slice p0 A0.length q0, .slice p0' B0.length q0'] := y2_8e
        have z9_ : sl ac 34 = .int .i64 m := y2_9e
        have z10_ : sl ac 35 = .int .i64 k := y2_10e
        have z11_ : sl ac 36 = .int .i64 m := y2_11e
        have z12_ : sl ac 37 = .bool false := y2_12e
        have z13_ : sl ac 38 = .bool false := y2_13e
        have z14_ : sl ac 39 = .bool false := y2_14e
        have z15_ : sl ac 40 = .int .i64 k := y2_15e
        have z16_ : sl ac 41 = .bool e := y2_16e
        have z17_ : sl ac 42 = .agg #[.bool n0, .slice p0 A0.length q0, .slice p0' B0.length q0'] := y2_17e
        have z18_ : sl ac 43 = .agg #[.bool n1, .slice p1 A1.length q1, .slice p1' B1.length q1'] := y2_18e
        have z19_ : sl ac 44 = .bool e := y2_19e
        have z20_ : sl ac 45 = .bool false := y2_20e
        have z21_ : sl ac 46 = .bool false := y2_21e
        have z22_ : sl ac 47 = .bool false := y2_22e
        have z23_ : sl ac 48 = .agg #[.bool n0, .slice p0 A0.length q0, .slice p0' B0.length q0'] := y2_23e
        have z24_ : sl ac 49 = .agg #[.bool n2, .slice p2 A2.length q2, .slice p2' B2.length q2'] := y2_24e
        have z25_ : sl ac 50 = .agg #[.bool y2_25b, .slice y2_25p y2_25n y2_25c, .slice y2_25q y2_25k y2_25d] := y2_25e
        have z26_ : sl ac 51 = .agg #[.bool n1, .slice p1 A1.length q1, .slice p1' B1.length q1'] := y2_26e
        have z27_ : sl ac 52 = .agg #[.bool n2, .slice p2 A2.length q2, .slice p2' B2.length q2'] := y2_27e
        have z28_ : sl ac 53 = .agg #[.bool y2_28b, .slice y2_28p y2_28n y2_28c, .slice y2_28q y2_28k y2_28d] := y2_28e
        have z29_ : sl ac 54 = .int .i64 k := y2_29e
        have z30_ : sl ac 55 = .int .i64 k := y2_30e
        have z31_ : sl ac 56 = .bool false := y2_31e
        have z32_ : sl ac 57 = .bool false := y2_32e
        rw [hM.ag.lay]
        simp only [lay, List.foldl_cons, List.foldl_nil, List.setIfInBounds_toArray, List.set_cons_zero, List.set_cons_succ, z0_, z1_, z2_, z3_, z4_, z5_, z6_, z7_, z8_, z9_, z10_, z11_, z12_, z13_, z14_, z15_, z16_, z17_, z18_, z19_, z20_, z21_, z22_, z23_, z24_, z25_, z26_, z27_, z28_, z29_, z30_, z31_, z32_]
        clear hM hkeep2 hob2 hne2 z0_ z1_ z2_ z3_ z4_ z5_ z6_ z7_ z8_ z9_ z10_ z11_ z12_ z13_ z14_ z15_ z16_ z17_ z18_ z19_ z20_ z21_ z22_ z23_ z24_ z25_ z26_ z27_ z28_ z29_ z30_ z31_ z32_ y2_0e y2_1e y2_2e y2_3e y2_4e y2_5e y2_6e y2_7e y2_8e y2_9e y2_10e y2_11e y2_12e y2_13e y2_14e y2_15e y2_16e y2_17e y2_18e y2_19e y2_20e y2_21e y2_22e y2_23e y2_24e y2_25e y2_26e y2_27e y2_28e y2_29e y2_30e y2_31e y2_32e
        by_cases hk0 : k ≤ 0
        · by_cases ht0 : t ≤ 0
          · have hu0 : u ≤ 0 := HT ht0 hk0
            clear HT
            have g1_0 := b1_0.out.1
            have g1_1 := b1_1.out.1
            have g1_2 := b1_2.out.1
            have g2_0 := b2_0.out.1
            have g2_1 := b2_1.out.1
            have g2_2 := b2_2.out.1
            have f1 : w.heap.size + 1 < v5.heap.size := b1_0.out.2
            have f2 : w.heap.size + 1 + 1 < v5.heap.size := b2_0.out.2
            go_wp2_with fail
            refine (rcmp_is (i1.gr (y1.gr.trans (x2.gr.trans (x3.gr.trans (gv4.trans gv5))))) (i2.gr (y1.gr.trans (x2.gr.trans (x3.gr.trans (gv4.trans gv5))))) (by decide) (s := t) HTT.out).mono ?_
            rintro e w6 ⟨rfl, x6⟩
            have e6_ : Ext w w6 := Ext.trans e5_ x6
            clear g1_0 g1_1 g1_2 g2_0 g2_1 g2_2 f1 f2
            have g0_0 := (b0_0.out.ext x6).1
            have g0_1 := (b0_1.out.ext x6).1
            have g0_2 := (b0_2.out.ext x6).1
            have g2_0 := (b2_0.out.ext x6).1
            have g2_1 := (b2_1.out.ext x6).1
            have g2_2 := (b2_2.out.ext x6).1
            have f0 : w.heap.size < w6.heap.size := (b0_0.out.ext x6).2
            have f2 : w.heap.size + 1 + 1 < w6.heap.size := (b2_0.out.ext x6).2
            go_wp2_with fail
            refine (rcmp_is (i0.gr (y1.gr.trans (x2.gr.trans (x3.gr.trans (gv4.trans (gv5.trans x6.gr)))))) (i2.gr (y1.gr.trans (x2.gr.trans (x3.gr.trans (gv4.trans (gv5.trans x6.gr)))))) (by decide) (s := u) HU.out).mono ?_
            rintro e w7 ⟨rfl, x7⟩
            have e7_ : Ext w w7 := Ext.trans e6_ x7
            clear g0_0 g0_1 g0_2 g2_0 g2_1 g2_2 f0 f2
            go_wp2_with fail
            have hkeep3 : AllAt' ([(w.heap.size, 0, .bool n0), (w.heap.size, 1, .slice p0 A0.length q0), (w.heap.size, 2, .slice p0' B0.length q0'), (w.heap.size + 1, 0, .bool n1), (w.heap.size + 1, 1, .slice p1 A1.length q1), (w.heap.size + 1, 2, .slice p1' B1.length q1'), (w.heap.size + 1 + 1, 0, .bool n2), (w.heap.size + 1 + 1, 1, .slice p2 A2.length q2), (w.heap.size + 1 + 1, 2, .slice p2' B2.length q2')] : List (Nat × Nat × Value)) w7 := AllAt'.cons (b0_0.out.ext (x6.trans x7)) (AllAt'.cons (b0_1.out.ext (x6.trans x7)) (AllAt'.cons (b0_2.out.ext (x6.trans x7)) (AllAt'.cons (b1_0.out.ext (x6.trans x7)) (AllAt'.cons (b1_1.out.ext (x6.trans x7)) (AllAt'.cons (b1_2.out.ext (x6.trans x7)) (AllAt'.cons (b2_0.out.ext (x6.trans x7)) (AllAt'.cons (b2_1.out.ext (x6.trans x7)) (AllAt'.cons (b2_2.out.ext (x6.trans x7)) (AllAt'.nil _)))))))))
            have hob3 : ObOk w.heap.size w7 (([(w.heap.size, 0, .bool n0), (w.heap.size, 1, .slice p0 A0.length q0), (w.heap.size, 2, .slice p0' B0.length q0'), (w.heap.size + 1, 0, .bool n1), (w.heap.size + 1, 1, .slice p1 A1.length q1), (w.heap.size + 1, 2, .slice p1' B1.length q1'), (w.heap.size + 1 + 1, 0, .bool n2), (w.heap.size + 1 + 1, 1, .slice p2 A2.length q2), (w.heap.size + 1 + 1, 2, .slice p2' B2.length q2')] : List (Nat × Nat × Value)).map (·.1)) ([] : List (Nat × List (Nat × Value))) := trivial
            have hne3 : AllNe (([] : List (Nat × List (Nat × Value))).map (·.1)) := trivial
            (try simp only [List.append_eq, List.cons_append, List.nil_append])
            refine wp_region_gen ⟨[72, 73, 74, 75, 76, 77, 78, 79, 80, 81, 82, 83, 84, 85, 86, 87, 88, 89, 90, 91, 6], fun i => false, fun i => ([none, none, none, none, none, none, none, none, none, none, none, none, none, none, none, none, none, none, none, none, none] : List (Option (BoxRef × Nat))).getD i none, fun i => ([Sg.val (.agg #[.bool n0, .slice p0 A0.length q0, .slice p0' B0.length q0']), Sg.val (.agg #[.bool n2, .slice p2 A2.length q2, .slice p2' B2.length q2']), Sg.ratO w.heap.size (z0 * z2), Sg.val (.agg #[.bool n1, .slice p1 A1.length q1, .slice p1' B1.length q1']), Sg.val (.agg #[.bool n2, .slice p2 A2.length q2, .slice p2' B2.length q2']), Sg.ratO w.heap.size (z1 * z2), Sg.val (.int .i64 ks), Sg.val (.int .i64 k), Sg.val (.int .i64 s), Sg.val (.int .i64 ks), Sg.val (.bool true), Sg.val (.bool true), Sg.val (.agg #[.bool n0, .slice p0 A0.length q0, .slice p0' B0.length q0']), Sg.val (.agg #[.bool n1, .slice p1 A1.length q1, .slice p1' B1.length q1']), Sg.ratO w.heap.size (z0 - z1), Sg.ratO w.heap.size ((0 : Int) : Rat), Sg.val (.int .i64 k), Sg.val (.int .i64 k), Sg.val (.bool true), Sg.val (.bool true), Sg.val (.bool true)] : List Sg).getD i Sg.any, [(w.heap.size, 0, .bool n0), (w.heap.size, 1, .slice p0 A0.length q0), (w.heap.size, 2, .slice p0' B0.length q0'), (w.heap.size + 1, 0, .bool n1), (w.heap.size + 1, 1, .slice p1 A1.length q1), (w.heap.size + 1, 2, .slice p1' B1.length q1'), (w.heap.size + 1 + 1, 0, .bool n2), (w.heap.size + 1 + 1, 1, .slice p2 A2.length q2), (w.heap.size + 1 + 1, 2, .slice p2' B2.length q2')], []⟩ w.heap.size (by kernel_rfl) (by kernel_rfl) e7_.size ?hfr hkeep3 hob3 hne3 ?hs ?he
            case hfr =>
              intro i v wk hi hst hv
              exact absurd hi (by simp)
            case hs =>
              refine ⟨?_, ?_, ?_, ?_, ?_, ?_, ?_, ?_, ?_, ?_, ?_, ?_, ?_, ?_, ?_, ?_, ?_, ?_, ?_, ?_, ?_, trivial⟩
              · refine RStep.op rfl rfl (fun ac wk hp K hK => ?_)
                have t3_ : ac.tmps[3]?.getD undef = .pointer (some ⟨w.heap.size, 0, none⟩) := hp.slot 3 rfl rfl
                have c0_ := hp.cell 0 rfl
                have c1_ := hp.cell 1 rfl
                have c2_ := hp.cell 2 rfl
                have HP := Lib.hid hp
                clear hp
                go_simp
                refine hK.out _ _ ?_ (Ext.refl _) (fun h => absurd h (by simp))
                exact rfl
              · refine RStep.op rfl rfl (fun ac wk hp K hK => ?_)
                have t5_ : ac.tmps[5]?.getD undef = .pointer (some ⟨w.heap.size + 1 + 1, 0, none⟩) := hp.slot 5 rfl rfl
                have c0_ := hp.cell 6 rfl
                have c1_ := hp.cell 7 rfl
                have c2_ := hp.cell 8 rfl
                have HP := Lib.hid hp
                clear hp
                go_simp
                refine hK.out _ _ ?_ (Ext.refl _) (fun h => absurd h (by simp))
                exact rfl
              · refine RStep.op rfl rfl (fun ac wk hp K hK => ?_)
                have u0e := hp.get 0 (by decide +kernel) rfl
                have t72_ : ac.tmps[72]?.getD undef = .agg #[.bool n0, .slice p0 A0.length q0, .slice p0' B0.length q0'] := slot_is' u0e
                have u1e := hp.get 1 (by decide +kernel) rfl
                have t73_ : ac.tmps[73]?.getD undef = .agg #[.bool n2, .slice p2 A2.length q2, .slice p2' B2.length q2'] := slot_is' u1e
                have HP := Lib.hid hp
                clear hp
                go_simp
                refine (rmul_is (i0.gr ((y1.gr.trans (x2.gr.trans (x3.gr.trans (gv4.trans (gv5.trans (x6.gr.trans x7.gr)))))).trans HP.out.gr)) (i2.gr ((y1.gr.trans (x2.gr.trans (x3.gr.trans (gv4.trans (gv5.trans (x6.gr.trans x7.gr)))))).trans HP.out.gr)) (by decide)).mono ?_
                rintro e wk' ⟨sb13, sv13, su13, sm13, sd13, rfl, e13, o13, ix⟩
                obtain ⟨sp13, sl13, sc13, tp13, tl13, tc13, rfl, rfl⟩ := e13.slice
                refine hK.out _ _ ?_ ix (fun h => absurd h (by simp))
                exact ⟨_, _, _, _, _, _, _, _, _, rfl, e13, (o13.mono (Nat.le_trans e7_.size HP.out.gr.size))⟩
              · refine RStep.op rfl rfl (fun ac wk hp K hK => ?_)
                have t4_ : ac.tmps[4]?.getD undef = .pointer (some ⟨w.heap.size + 1, 0, none⟩) := hp.slot 4 rfl rfl
                have c0_ := hp.cell 3 rfl
                have c1_ := hp.cell 4 rfl
                have c2_ := hp.cell 5 rfl
                have HP := Lib.hid hp
                clear hp
                go_simp
                refine hK.out _ _ ?_ (Ext.refl _) (fun h => absurd h (by simp))
                exact rfl
              · refine RStep.op rfl rfl (fun ac wk hp K hK => ?_)
                have t5_ : ac.tmps[5]?.getD undef = .pointer (some ⟨w.heap.size + 1 + 1, 0, none⟩) := hp.slot 5 rfl rfl
                have c0_ := hp.cell 6 rfl
                have c1_ := hp.cell 7 rfl
                have c2_ := hp.cell 8 rfl
                have HP := Lib.hid hp
                clear hp
                go_simp
                refine hK.out _ _ ?_ (Ext.refl _) (fun h => absurd h (by simp))
                exact rfl
              · refine RStep.op rfl rfl (fun ac wk hp K hK => ?_)
                have u3e := hp.get 3 (by decide +kernel) rfl
                have t75_ : ac.tmps[75]?.getD undef = .agg #[.bool n1, .slice p1 A1.length q1, .slice p1' B1.length q1'] := slot_is' u3e
                have u4e := hp.get 4 (by decide +kernel) rfl
                have t76_ : ac.tmps[76]?.getD undef = .agg #[.bool n2, .slice p2 A2.length q2, .slice p2' B2.length q2'] := slot_is' u4e
                have HP := Lib.hid hp
                clear hp
                go_simp
                refine (rmul_is (i1.gr ((y1.gr.trans (x2.gr.trans (x3.gr.trans (gv4.trans (gv5.trans (x6.gr.trans x7.gr)))))).trans HP.out.gr)) (i2.gr ((y1.gr.trans (x2.gr.trans (x3.gr.trans (gv4.trans (gv5.trans (x6.gr.trans x7.gr)))))).trans HP.out.gr)) (by decide)).mono ?_
                rintro e wk' ⟨sb14, sv14, su14, sm14, sd14, rfl, e14, o14, ix⟩
                obtain ⟨sp14, sl14, sc14, tp14, tl14, tc14, rfl, rfl⟩ := e14.slice
                refine hK.out _ _ ?_ ix (fun h => absurd h (by simp))
                exact ⟨_, _, _, _, _, _, _, _, _, rfl, e14, (o14.mono (Nat.le_trans e7_.size HP.out.gr.size))⟩
              · refine RStep.op rfl rfl (fun ac wk hp K hK => ?_)
                obtain ⟨u2b, u2p, u2n, u2c, u2q, u2k, u2d, u2m, u2l, u2e, u2i, u2o⟩ := hp.get 2 (by decide +kernel) rfl
                have t74_ : ac.tmps[74]?.getD undef = .agg #[.bool u2b, .slice u2p u2n u2c, .slice u2q u2k u2d] := slot_is' u2e
                obtain ⟨u5b, u5p, u5n, u5c, u5q, u5k, u5d, u5m, u5l, u5e, u5i, u5o⟩ := hp.get 5 (by decide +kernel) rfl
                have t77_ : ac.tmps[77]?.getD undef = .agg #[.bool u5b, .slice u5p u5n u5c, .slice u5q u5k u5d] := slot_is' u5e
                have HP := Lib.hid hp
                clear hp
                go_simp
                refine (rcmp_is (u2i.inR (k := 12) (LenR.mul (InR.len i0) (InR.len i2))) (u5i.inR (k := 12) (LenR.mul (InR.len i1) (InR.len i2))) (by decide) (s := ks) HPR.out).mono ?_
                rintro e wk' ⟨rfl, ix⟩
                refine hK.out _ _ ?_ ix (fun h => absurd h (by simp))
                exact rfl
              · refine RStep.op rfl rfl (fun ac wk hp K hK => ?_)
                have t7_ : ac.tmps[7]?.getD undef = .int .i64 k := hp.slot 7 rfl rfl
                have HP := Lib.hid hp
                clear hp
                go_simp
                refine hK.out _ _ ?_ (Ext.refl _) (fun h => absurd h (by simp))
                exact rfl
              · refine RStep.op rfl rfl (fun ac wk hp K hK => ?_)
                have t8_ : ac.tmps[8]?.getD undef = .int .i64 s := hp.slot 8 rfl rfl
                have HP := Lib.hid hp
                clear hp
                go_simp
                refine hK.out _ _ ?_ (Ext.refl _) (fun h => absurd h (by simp))
                exact rfl
              · refine RStep.op rfl rfl (fun ac wk hp K hK => ?_)
                have u7e := hp.get 7 (by decide +kernel) rfl
                have t79_ : ac.tmps[79]?.getD undef = .int .i64 k := slot_is' u7e
                have u8e := hp.get 8 (by decide +kernel) rfl
                have t80_ : ac.tmps[80]?.getD undef = .int .i64 s := slot_is' u8e
                have HP := Lib.hid hp
                clear hp
                go_simp
                refine hK.out _ _ ?_ (Ext.refl _) (fun h => absurd h (by simp))
                exact (by first | rfl | (apply congrArg Value.bool; simp; done) | (apply congrArg Value.bool; simp; omega) | (simp [*]; done))
              · refine RStep.op rfl rfl (fun ac wk hp K hK => ?_)
                have u6e := hp.get 6 (by decide +kernel) rfl
                have t78_ : ac.tmps[78]?.getD undef = .int .i64 ks := slot_is' u6e
                have u9e := hp.get 9 (by decide +kernel) rfl
                have t81_ : ac.tmps[81]?.getD undef = .int .i64 ks := slot_is' u9e
                have HP := Lib.hid hp
                clear hp
                go_simp
                refine hK.out _ _ ?_ (Ext.refl _) (fun h => absurd h (by simp))
                exact rfl
              · refine RStep.op rfl rfl (fun ac wk hp K hK => ?_)
                have u10e := hp.get 10 (by decide +kernel) rfl
                have t82_ : ac.tmps[82]?.getD undef = .bool true := slot_is' u10e
                have HP := Lib.hid hp
                clear hp
                go_simp
                refine hK.out _ _ ?_ (Ext.refl _) (fun h => absurd h (by simp))
                exact rfl
              · refine RStep.yes 11 true rfl rfl (by decide +kernel) rfl rfl (fun ac wk hp K hK => ?_)
                have t3_ : ac.tmps[3]?.getD undef = .pointer (some ⟨w.heap.size, 0, none⟩) := hp.slot 3 rfl rfl
                have c0_ := hp.cell 0 rfl
                have c1_ := hp.cell 1 rfl
                have c2_ := hp.cell 2 rfl
                have HP := Lib.hid hp
                clear hp
                go_simp
                refine hK.out _ _ ?_ (Ext.refl _) (fun h => absurd h (by simp))
                exact rfl
              · refine RStep.yes 11 true rfl rfl (by decide +kernel) rfl rfl (fun ac wk hp K hK => ?_)
                have t4_ : ac.tmps[4]?.getD undef = .pointer (some ⟨w.heap.size + 1, 0, none⟩) := hp.slot 4 rfl rfl
                have c0_ := hp.cell 3 rfl
                have c1_ := hp.cell 4 rfl
                have c2_ := hp.cell 5 rfl
                have HP := Lib.hid hp
                clear hp
                go_simp
                refine hK.out _ _ ?_ (Ext.refl _) (fun h => absurd h (by simp))
                exact rfl
              · refine RStep.yes 11 true rfl rfl (by decide +kernel) rfl rfl (fun ac wk hp K hK => ?_)
                have u12e := hp.get 12 (by decide +kernel) rfl
                have t84_ : ac.tmps[84]?.getD undef = .agg #[.bool n0, .slice p0 A0.length q0, .slice p0' B0.length q0'] := slot_is' u12e
                have u13e := hp.get 13 (by decide +kernel) rfl
                have t85_ : ac.tmps[85]?.getD undef = .agg #[.bool n1, .slice p1 A1.length q1, .slice p1' B1.length q1'] := slot_is' u13e
                have HP := Lib.hid hp
                clear hp
                go_simp
                refine (rsub_is (i0.gr ((y1.gr.trans (x2.gr.trans (x3.gr.trans (gv4.trans (gv5.trans (x6.gr.trans x7.gr)))))).trans HP.out.gr)) (i1.gr ((y1.gr.trans (x2.gr.trans (x3.gr.trans (gv4.trans (gv5.trans (x6.gr.trans x7.gr)))))).trans HP.out.gr)) (by decide)).mono ?_
                rintro e wk' ⟨sb16, sv16, su16, sm16, sd16, rfl, e16, o16, ix⟩
                obtain ⟨sp16, sl16, sc16, tp16, tl16, tc16, rfl, rfl⟩ := e16.slice
                refine hK.out _ _ ?_ ix (fun h => absurd h (by simp))
                exact ⟨_, _, _, _, _, _, _, _, _, rfl, e16, (o16.mono (Nat.le_trans e7_.size HP.out.gr.size))⟩
              · refine RStep.yes 11 true rfl rfl (by decide +kernel) rfl rfl (fun ac wk hp K hK => ?_)
                have HP := Lib.hid hp
                clear hp
                go_simp
                refine (rof_is _ 0 (by decide) (by decide)).mono ?_
                rintro e wk' ⟨sb17, sv17, su17, sm17, sd17, rfl, e17, o17, ix⟩
                obtain ⟨sp17, sl17, sc17, tp17, tl17, tc17, rfl, rfl⟩ := e17.slice
                refine hK.out _ _ ?_ ix (fun h => absurd h (by simp))
                exact ⟨_, _, _, _, _, _, _, _, _, rfl, e17, (o17.mono (Nat.le_trans e7_.size HP.out.gr.size))⟩
              · refine RStep.yes 11 true rfl rfl (by decide +kernel) rfl rfl (fun ac wk hp K hK => ?_)
                obtain ⟨u14b, u14p, u14n, u14c, u14q, u14k, u14d, u14m, u14l, u14e, u14i, u14o⟩ := hp.get 14 (by decide +kernel) rfl
                have t86_ : ac.tmps[86]?.getD undef = .agg #[.bool u14b, .slice u14p u14n u14c, .slice u14q u14k u14d] := slot_is' u14e
                obtain ⟨u15b, u15p, u15n, u15c, u15q, u15k, u15d, u15m, u15l, u15e, u15i, u15o⟩ := hp.get 15 (by decide +kernel) rfl
                have t87_ : ac.tmps[87]?.getD undef = .agg #[.bool u15b, .slice u15p u15n u15c, .slice u15q u15k u15d] := slot_is' u15e
                have HP := Lib.hid hp
                clear hp
                go_simp
                refine (rcmp_is (u14i.inR (k := 13) (LenR.sub (InR.len i0) (InR.len i1))) (u15i.inR (k := 1) (LenR.int (LenI.small (by have h1 : (-9223372036854775808 : Int) ≤ 0 := (by decide); have h2 : 0 ≤ (9223372036854775807 : Int) := (by decide); omega)) (by decide))) (by decide) (s := k) (by rw [show (((0 : Int) : Rat)) = 0 from rfl, cmpR_sub]; exact HKK.out)).mono ?_
                rintro e wk' ⟨rfl, ix⟩
                refine hK.out _ _ ?_ ix (fun h => absurd h (by simp))
                exact rfl
              · refine RStep.yes 11 true rfl rfl (by decide +kernel) rfl rfl (fun ac wk hp K hK => ?_)
                have t7_ : ac.tmps[7]?.getD undef = .int .i64 k := hp.slot 7 rfl rfl
                have HP := Lib.hid hp
                clear hp
                go_simp
                refine hK.out _ _ ?_ (Ext.refl _) (fun h => absurd h (by simp))
                exact rfl
              · refine RStep.yes 11 true rfl rfl (by decide +kernel) rfl rfl (fun ac wk hp K hK => ?_)
                have u16e := hp.get 16 (by decide +kernel) rfl
                have t88_ : ac.tmps[88]?.getD undef = .int .i64 k := slot_is' u16e
                have u17e := hp.get 17 (by decide +kernel) rfl
                have t89_ : ac.tmps[89]?.getD undef = .int .i64 k := slot_is' u17e
                have HP := Lib.hid hp
                clear hp
                go_simp
                refine hK.out _ _ ?_ (Ext.refl _) (fun h => absurd h (by simp))
                exact rfl
              · refine RStep.op rfl rfl (fun ac wk hp K hK => ?_)
                have u11e := hp.get 11 (by decide +kernel) rfl
                have t83_ : ac.tmps[83]?.getD undef = .bool true := slot_is' u11e
                have u18e := hp.get 18 (by decide +kernel) rfl
                have t90_ : ac.tmps[90]?.getD undef = .bool true := slot_is' u18e
                have HP := Lib.hid hp
                clear hp
                go_simp
                refine hK.out _ _ ?_ (Ext.refl _) (fun h => absurd h (by simp))
                exact rfl
              · refine RStep.op rfl rfl (fun ac wk hp K hK => ?_)
                have u19e := hp.get 19 (by decide +kernel) rfl
                have t91_ : ac.tmps[91]?.getD undef = .bool true := slot_is' u19e
                have HP := Lib.hid hp
                clear hp
                go_simp
                refine hK.out _ _ ?_ (Ext.refl _) (fun h => absurd h (by simp))
                exact rfl
            case he =>
              intro ac v8 hM
              have y3_0e := hM.post 0 rfl rfl
              have y3_1e := hM.post 1 rfl rfl
              obtain ⟨y3_2b, y3_2p, y3_2n, y3_2c, y3_2q, y3_2k, y3_2d, y3_2m, y3_2l, y3_2e, y3_2i, y3_2o⟩ := hM.post 2 rfl rfl
              have y3_3e := hM.post 3 rfl rfl
              have y3_4e := hM.post 4 rfl rfl
              obtain ⟨y3_5b, y3_5p, y3_5n, y3_5c, y3_5q, y3_5k, y3_5d, y3_5m, y3_5l, y3_5e, y3_5i, y3_5o⟩ := hM.post 5 rfl rfl
              have y3_6e := hM.post 6 rfl rfl
              have y3_7e := hM.post 7 rfl rfl
              have y3_8e := hM.post 8 rfl rfl
              have y3_9e := hM.post 9 rfl rfl
              have y3_10e := hM.post 10 rfl rfl
              have y3_11e := hM.post 11 rfl rfl
              have y3_12e := hM.post 12 rfl rfl
              have y3_13e := hM.post 13 rfl rfl
              obtain ⟨y3_14b, y3_14p, y3_14n, y3_14c, y3_14q, y3_14k, y3_14d, y3_14m, y3_14l, y3_14e, y3_14i, y3_14o⟩ := hM.post 14 rfl rfl
              obtain ⟨y3_15b, y3_15p, y3_15n, y3_15c, y3_15q, y3_15k, y3_15d, y3_15m, y3_15l, y3_15e, y3_15i, y3_15o⟩ := hM.post 15 rfl rfl
              have y3_16e := hM.post 16 rfl rfl
              have y3_17e := hM.post 17 rfl rfl
              have y3_18e := hM.post 18 rfl rfl
              have y3_19e := hM.post 19 rfl rfl
              have y3_20e := hM.post 20 rfl rfl
              have b0_0 : Hid (At (w.heap.size) 0 (.bool n0) v8) := Lib.hid (hM.keep.at 0 rfl)
              have b0_1 : Hid (At (w.heap.size) 1 (.slice p0 A0.length q0) v8) := Lib.hid (hM.keep.at 1 rfl)
              have b0_2 : Hid (At (w.heap.size) 2 (.slice p0' B0.length q0') v8) := Lib.hid (hM.keep.at 2 rfl)
              have b1_0 : Hid (At (w.heap.size + 1) 0 (.bool n1) v8) := Lib.hid (hM.keep.at 3 rfl)
              have b1_1 : Hid (At (w.heap.size + 1) 1 (.slice p1 A1.length q1) v8) := Lib.hid (hM.keep.at 4 rfl)
              have b1_2 : Hid (At (w.heap.size + 1) 2 (.slice p1' B1.length q1') v8) := Lib.hid (hM.keep.at 5 rfl)
              have b2_0 : Hid (At (w.heap.size + 1 + 1) 0 (.bool n2) v8) := Lib.hid (hM.keep.at 6 rfl)
              have b2_1 : Hid (At (w.heap.size + 1 + 1) 1 (.slice p2 A2.length q2) v8) := Lib.hid (hM.keep.at 7 rfl)
              have b2_2 : Hid (At (w.heap.size + 1 + 1) 2 (.slice p2' B2.length q2') v8) := Lib.hid (hM.keep.at 8 rfl)
              have gv8 : Gr w7 v8 := hM.gr
              have e8_ : Ext w v8 := Ext.below e7_ hM.blw
              have z0_ : sl ac 72 = .agg #[.bool n0, .slice p0 A0.length q0, .slice p0' B0.length q0'] := y3_0e
              have z1_ : sl ac 73 = .agg #[.bool n2, .slice p2 A2.length q2, .slice p2' B2.length q2'] := y3_1e
              have z2_ : sl ac 74 = .agg #[.bool y3_2b, .slice y3_2p y3_2n y3_2c, .slice y3_2q y3_2k y3_2d] := y3_2e
              have z3_ : sl ac 75 = .agg #[.bool n1, .slice p1 A1.length q1, .slice p1' B1.length q1'] := y3_3e
              have z4_ : sl ac 76 = .agg #[.bool n2, .slice p2 A2.length q2, .slice p2' B2.length q2'] := y3_4e
              have z5_ : sl ac 77 = .agg #[.bool y3_5b, .slice y3_5p y3_5n y3_5c, .slice y3_5q y3_5k y3_5d] := y3_5e
              have z6_ : sl ac 78 = .int .i64 ks := y3_6e
              have z7_ : sl ac 79 = .int .i64 k := y3_7e
              have z8_ : sl ac 80 = .int .i64 s := y3_8e
              have z9_ : sl ac 81 = .int .i64 ks := y3_9e
              have z10_ : sl ac 82 = .bool true := y3_10e
              have z11_ : sl ac 83 = .bool true := y3_11e
              have z12_ : sl ac 84 = .agg #[.bool n0, .slice p0 A0.length q0, .slice p0' B0.length q0'] := y3_12e
              have z13_ : sl ac 85 = .agg #[.bool n1, .slice p1 A1.length q1, .slice p1' B1.length q1'] := y3_13e
              have z14_ : sl ac 86 = .agg #[.bool y3_14b, .slice y3_14p y3_14n y3_14c, .slice y3_14q y3_14k y3_14d] := y3_14e
              have z15_ : sl ac 87 = .agg #[.bool y3_15b, .slice y3_15p y3_15n y3_15c, .slice y3_15q y3_15k y3_15d] := y3_15e
              have z16_ : sl ac 88 = .int .i64 k := y3_16e
              have z17_ : sl ac 89 = .int .i64 k := y3_17e
              have z18_ : sl ac 90 = .bool true := y3_18e
              have z19_ : sl ac 91 = .bool true := y3_19e
              have z20_ : sl ac 6 = .bool true := y3_20e
              rw [hM.ag.lay]
              simp only [lay, List.foldl_cons, List.foldl_nil, List.setIfInBounds_toArray, List.set_cons_zero, List.set_cons_succ, z0_, z1_, z2_, z3_, z4_, z5_, z6_, z7_, z8_, z9_, z10_, z11_, z12_, z13_, z14_, z15_, z16_, z17_, z18_, z19_, z20_]
              clear hM hkeep3 hob3 hne3 z0_ z1_ z2_ z3_ z4_ z5_ z6_ z7_ z8_ z9_ z10_ z11_ z12_ z13_ z14_ z15_ z16_ z17_ z18_ z19_ z20_ y3_0e y3_1e y3_2e y3_3e y3_4e y3_5e y3_6e y3_7e y3_8e y3_9e y3_10e y3_11e y3_12e y3_13e y3_14e y3_15e y3_16e y3_17e y3_18e y3_19e y3_20e
              go_wp2_with fail
              go_ret
              exact ⟨rfl, e8_⟩
          · clear HT
            have ht1 : 1 ≤ t := by omega
            clear ht0
            have g1_0 := b1_0.out.1
            have g1_1 := b1_1.out.1
            have g1_2 := b1_2.out.1
            have g2_0 := b2_0.out.1
            have g2_1 := b2_1.out.1
            have g2_2 := b2_2.out.1
            have f1 : w.heap.size + 1 < v5.heap.size := b1_0.out.2
            have f2 : w.heap.size + 1 + 1 < v5.heap.size := b2_0.out.2
            go_wp2_with fail
            refine (rcmp_is (i1.gr (y1.gr.trans (x2.gr.trans (x3.gr.trans (gv4.trans gv5))))) (i2.gr (y1.gr.trans (x2.gr.trans (x3.gr.trans (gv4.trans gv5))))) (by decide) (s := t) HTT.out).mono ?_
            rintro e w6 ⟨rfl, x6⟩
            have e6_ : Ext w w6 := Ext.trans e5_ x6
            clear g1_0 g1_1 g1_2 g2_0 g2_1 g2_2 f1 f2
            go_wp2_with fail
            have hkeep3 : AllAt' ([(w.heap.size, 0, .bool n0), (w.heap.size, 1, .slice p0 A0.length q0), (w.heap.size, 2, .slice p0' B0.length q0'), (w.heap.size + 1, 0, .bool n1), (w.heap.size + 1, 1, .slice p1 A1.length q1), (w.heap.size + 1, 2, .slice p1' B1.length q1'), (w.heap.size + 1 + 1, 0, .bool n2), (w.heap.size + 1 + 1, 1, .slice p2 A2.length q2), (w.heap.size + 1 + 1, 2, .slice p2' B2.length q2')] : List (Nat × Nat × Value)) w6 := AllAt'.cons (b0_0.out.ext x6) (AllAt'.cons (b0_1.out.ext x6) (AllAt'.cons (b0_2.out.ext x6) (AllAt'.cons (b1_0.out.ext x6) (AllAt'.cons (b1_1.out.ext x6) (AllAt'.cons (b1_2.out.ext x6) (AllAt'.cons (b2_0.out.ext x6) (AllAt'.cons (b2_1.out.ext x6) (AllAt'.cons (b2_2.out.ext x6) (AllAt'.nil _)))))))))
            have hob3 : ObOk w.heap.size w6 (([(w.heap.size, 0, .bool n0), (w.heap.size, 1, .slice p0 A0.length q0), (w.heap.size, 2, .slice p0' B0.length q0'), (w.heap.size + 1, 0, .bool n1), (w.heap.size + 1, 1, .slice p1 A1.length q1), (w.heap.size + 1, 2, .slice p1' B1.length q1'), (w.heap.size + 1 + 1, 0, .bool n2), (w.heap.size + 1 + 1, 1, .slice p2 A2.length q2), (w.heap.size + 1 + 1, 2, .slice p2' B2.length q2')] : List (Nat × Nat × Value)).map (·.1)) ([] : List (Nat × List (Nat × Value))) := trivial
            have hne3 : AllNe (([] : List (Nat × List (Nat × Value))).map (·.1)) := trivial
            (try simp only [List.append_eq, List.cons_append, List.nil_append])
            refine wp_region_gen ⟨[72, 73, 74, 75, 76, 77, 78, 79, 80, 81, 82, 83, 84, 85, 86, 87, 88, 89, 90, 91, 6], fun i => false, fun i => ([none, none, none, none, none, none, none, none, none, none, none, none, none, none, none, none, none, none, none, none, none] : List (Option (BoxRef × Nat))).getD i none, fun i => ([Sg.val (.agg #[.bool n0, .slice p0 A0.length q0, .slice p0' B0.length q0']), Sg.val (.agg #[.bool n2, .slice p2 A2.length q2, .slice p2' B2.length q2']), Sg.ratO w.heap.size (z0 * z2), Sg.val (.agg #[.bool n1, .slice p1 A1.length q1, .slice p1' B1.length q1']), Sg.val (.agg #[.bool n2, .slice p2 A2.length q2, .slice p2' B2.length q2']), Sg.ratO w.heap.size (z1 * z2), Sg.val (.int .i64 ks), Sg.val (.int .i64 k), Sg.val (.int .i64 s), Sg.val (.int .i64 ks), Sg.val (.bool true), Sg.val (.bool true), Sg.val (.agg #[.bool n0, .slice p0 A0.length q0, .slice p0' B0.length q0']), Sg.val (.agg #[.bool n1, .slice p1 A1.length q1, .slice p1' B1.length q1']), Sg.ratO w.heap.size (z0 - z1), Sg.ratO w.heap.size ((0 : Int) : Rat), Sg.val (.int .i64 k), Sg.val (.int .i64 k), Sg.val (.bool true), Sg.val (.bool true), Sg.val (.bool true)] : List Sg).getD i Sg.any, [(w.heap.size, 0, .bool n0), (w.heap.size, 1, .slice p0 A0.length q0), (w.heap.size, 2, .slice p0' B0.length q0'), (w.heap.size + 1, 0, .bool n1), (w.heap.size + 1, 1, .slice p1 A1.length q1), (w.heap.size + 1, 2, .slice p1' B1.length q1'), (w.heap.size + 1 + 1, 0, .bool n2), (w.heap.size + 1 + 1, 1, .slice p2 A2.length q2), (w.heap.size + 1 + 1, 2, .slice p2' B2.length q2')], []⟩ w.heap.size (by kernel_rfl) (by kernel_rfl) e6_.size ?hfr hkeep3 hob3 hne3 ?hs ?he
            case hfr =>
              intro i v wk hi hst hv
              exact absurd hi (by simp)
            case hs =>
              refine ⟨?_, ?_, ?_, ?_, ?_, ?_, ?_, ?_, ?_, ?_, ?_, ?_, ?_, ?_, ?_, ?_, ?_, ?_, ?_, ?_, ?_, trivial⟩
              · refine RStep.op rfl rfl (fun ac wk hp K hK => ?_)
                have t3_ : ac.tmps[3]?.getD undef = .pointer (some ⟨w.heap.size, 0, none⟩) := hp.slot 3 rfl rfl
                have c0_ := hp.cell 0 rfl
                have c1_ := hp.cell 1 rfl
                have c2_ := hp.cell 2 rfl
                have HP := Lib.hid hp
                clear hp
                go_simp
                refine hK.out _ _ ?_ (Ext.refl _) (fun h => absurd h (by simp))
                exact rfl
              · refine RStep.op rfl rfl (fun ac wk hp K hK => ?_)
                have t5_ : ac.tmps[5]?.getD undef = .pointer (some ⟨w.heap.size + 1 + 1, 0, none⟩) := hp.slot 5 rfl rfl
                have c0_ := hp.cell 6 rfl
                have c1_ := hp.cell 7 rfl
                have c2_ := hp.cell 8 rfl
                have HP := Lib.hid hp
                clear hp
                go_simp
                refine hK.out _ _ ?_ (Ext.refl _) (fun h => absurd h (by simp))
                exact rfl
              · refine RStep.op rfl rfl (fun ac wk hp K hK => ?_)
                have u0e := hp.get 0 (by decide +kernel) rfl
                have t72_ : ac.tmps[72]?.getD undef = .agg #[.bool n0, .slice p0 A0.length q0, .slice p0' B0.length q0'] := slot_is' u0e
                have u1e := hp.get 1 (by decide +kernel) rfl
                have t73_ : ac.tmps[73]?.getD undef = .agg #[.bool n2, .slice p2 A2.length q2, .slice p2' B2.length q2'] := slot_is' u1e
                have HP := Lib.hid hp
                clear hp
                go_simp
                refine (rmul_is (i0.gr ((y1.gr.trans (x2.gr.trans (x3.gr.trans (gv4.trans (gv5.trans x6.gr))))).trans HP.out.gr)) (i2.gr ((y1.gr.trans (x2.gr.trans (x3.gr.trans (gv4.trans (gv5.trans x6.gr))))).trans HP.out.gr)) (by decide)).mono ?_
                rintro e wk' ⟨sb12, sv12, su12, sm12, sd12, rfl, e12, o12, ix⟩
                obtain ⟨sp12, sl12, sc12, tp12, tl12, tc12, rfl, rfl⟩ := e12.slice
                refine hK.out _ _ ?_ ix (fun h => absurd h (by simp))
                exact ⟨_, _, _, _, _, _, _, _, _, rfl, e12, (o12.mono (Nat.le_trans e6_.size HP.out.gr.size))⟩
              · refine RStep.op rfl rfl (fun ac wk hp K hK => ?_)
                have t4_ : ac.tmps[4]?.getD undef = .pointer (some ⟨w.heap.size + 1, 0, none⟩) := hp.slot 4 rfl rfl
                have c0_ := hp.cell 3 rfl
                have c1_ := hp.cell 4 rfl
                have c2_ := hp.cell 5 rfl
                have HP := Lib.hid hp
                clear hp
                go_simp
                refine hK.out _ _ ?_ (Ext.refl _) (fun h => absurd h (by simp))
                exact rfl
              · refine RStep.op rfl rfl (fun ac wk hp K hK => ?_)
                have t5_ : ac.tmps[5]?.getD undef = .pointer (some ⟨w.heap.size + 1 + 1, 0, none⟩) := hp.slot 5 rfl rfl
                have c0_ := hp.cell 6 rfl
                have c1_ := hp.cell 7 rfl
                have c2_ := hp.cell 8 rfl
                have HP := Lib.hid hp
                clear hp
                go_simp
                refine hK.out _ _ ?_ (Ext.refl _) (fun h => absurd h (by simp))
                exact rfl
              · refine RStep.op rfl rfl (fun ac wk hp K hK => ?_)
                have u3e := hp.get 3 (by decide +kernel) rfl
                have t75_ : ac.tmps[75]?.getD undef = .agg #[.bool n1, .slice p1 A1.length q1, .slice p1' B1.length q1'] := slot_is' u3e
                have u4e := hp.get 4 (by decide +kernel) rfl
                have t76_ : ac.tmps[76]?.getD undef = .agg #[.bool n2, .slice p2 A2.length q2, .slice p2' B2.length q2'] := slot_is' u4e
                have HP := Lib.hid hp
                clear hp
                go_simp
                refine (rmul_is (i1.gr ((y1.gr.trans (x2.gr.trans (x3.gr.trans (gv4.trans (gv5.trans x6.gr))))).trans HP.out.gr)) (i2.gr ((y1.gr.trans (x2.gr.trans (x3.gr.trans (gv4.trans (gv5.trans x6.gr))))).trans HP.out.gr)) (by decide)).mono ?_
                rintro e wk' ⟨sb13, sv13, su13, sm13, sd13, rfl, e13, o13, ix⟩
                obtain ⟨sp13, sl13, sc13, tp13, tl13, tc13, rfl, rfl⟩ := e13.slice
                refine hK.out _ _ ?_ ix (fun h => absurd h (by simp))
                exact ⟨_, _, _, _, _, _, _, _, _, rfl, e13, (o13.mono (Nat.le_trans e6_.size HP.out.gr.size))⟩
              · refine RStep.op rfl rfl (fun ac wk hp K hK => ?_)
                obtain ⟨u2b, u2p, u2n, u2c, u2q, u2k, u2d, u2m, u2l, u2e, u2i, u2o⟩ := hp.get 2 (by decide +kernel) rfl
                have t74_ : ac.tmps[74]?.getD undef = .agg #[.bool u2b, .slice u2p u2n u2c, .slice u2q u2k u2d] := slot_is' u2e
                obtain ⟨u5b, u5p, u5n, u5c, u5q, u5k, u5d, u5m, u5l, u5e, u5i, u5o⟩ := hp.get 5 (by decide +kernel) rfl
                have t77_ : ac.tmps[77]?.getD undef = .agg #[.bool u5b, .slice u5p u5n u5c, .slice u5q u5k u5d] := slot_is' u5e
                have HP := Lib.hid hp
                clear hp
                go_simp
                refine (rcmp_is (u2i.inR (k := 12) (LenR.mul (InR.len i0) (InR.len i2))) (u5i.inR (k := 12) (LenR.mul (InR.len i1) (InR.len i2))) (by decide) (s := ks) HPR.out).mono ?_
                rintro e wk' ⟨rfl, ix⟩
                refine hK.out _ _ ?_ ix (fun h => absurd h (by simp))
                exact rfl
              · refine RStep.op rfl rfl (fun ac wk hp K hK => ?_)
                have t7_ : ac.tmps[7]?.getD undef = .int .i64 k := hp.slot 7 rfl rfl
                have HP := Lib.hid hp
                clear hp
                go_simp
                refine hK.out _ _ ?_ (Ext.refl _) (fun h => absurd h (by simp))
                exact rfl
              · refine RStep.op rfl rfl (fun ac wk hp K hK => ?_)
                have t8_ : ac.tmps[8]?.getD undef = .int .i64 s := hp.slot 8 rfl rfl
                have HP := Lib.hid hp
                clear hp
                go_simp
                refine hK.out _ _ ?_ (Ext.refl _) (fun h => absurd h (by simp))
                exact rfl
              · refine RStep.op rfl rfl (fun ac wk hp K hK => ?_)
                have u7e := hp.get 7 (by decide +kernel) rfl
                have t79_ : ac.tmps[79]?.getD undef = .int .i64 k := slot_is' u7e
                have u8e := hp.get 8 (by decide +kernel) rfl
                have t80_ : ac.tmps[80]?.getD undef = .int .i64 s := slot_is' u8e
                have HP := Lib.hid hp
                clear hp
                go_simp
                refine hK.out _ _ ?_ (Ext.refl _) (fun h => absurd h (by simp))
                exact (by first | rfl | (apply congrArg Value.bool; simp; done) | (apply congrArg Value.bool; simp; omega) | (simp [*]; done))
              · refine RStep.op rfl rfl (fun ac wk hp K hK => ?_)
                have u6e := hp.get 6 (by decide +kernel) rfl
                have t78_ : ac.tmps[78]?.getD undef = .int .i64 ks := slot_is' u6e
                have u9e := hp.get 9 (by decide +kernel) rfl
                have t81_ : ac.tmps[81]?.getD undef = .int .i64 ks := slot_is' u9e
                have HP := Lib.hid hp
                clear hp
                go_simp
                refine hK.out _ _ ?_ (Ext.refl _) (fun h => absurd h (by simp))
                exact rfl
              · refine RStep.op rfl rfl (fun ac wk hp K hK => ?_)
                have u10e := hp.get 10 (by decide +kernel) rfl
                have t82_ : ac.tmps[82]?.getD undef = .bool true := slot_is' u10e
                have HP := Lib.hid hp
                clear hp
                go_simp
                refine hK.out _ _ ?_ (Ext.refl _) (fun h => absurd h (by simp))
                exact rfl
              · refine RStep.yes 11 true rfl rfl (by decide +kernel) rfl rfl (fun ac wk hp K hK => ?_)
                have t3_ : ac.tmps[3]?.getD undef = .pointer (some ⟨w.heap.size, 0, none⟩) := hp.slot 3 rfl rfl
                have c0_ := hp.cell 0 rfl
                have c1_ := hp.cell 1 rfl
                have c2_ := hp.cell 2 rfl
                have HP := Lib.hid hp
                clear hp
                go_simp
                refine hK.out _ _ ?_ (Ext.refl _) (fun h => absurd h (by simp))
                exact rfl
              · refine RStep.yes 11 true rfl rfl (by decide +kernel) rfl rfl (fun ac wk hp K hK => ?_)
                have t4_ : ac.tmps[4]?.getD undef = .pointer (some ⟨w.heap.size + 1, 0, none⟩) := hp.slot 4 rfl rfl
                have c0_ := hp.cell 3 rfl
                have c1_ := hp.cell 4 rfl
                have c2_ := hp.cell 5 rfl
                have HP := Lib.hid hp
                clear hp
                go_simp
                refine hK.out _ _ ?_ (Ext.refl _) (fun h => absurd h (by simp))
                exact rfl
              · refine RStep.yes 11 true rfl rfl (by decide +kernel) rfl rfl (fun ac wk hp K hK => ?_)
                have u12e := hp.get 12 (by decide +kernel) rfl
                have t84_ : ac.tmps[84]?.getD undef = .agg #[.bool n0, .slice p0 A0.length q0, .slice p0' B0.length q0'] := slot_is' u12e
                have u13e := hp.get 13 (by decide +kernel) rfl
                have t85_ : ac.tmps[85]?.getD undef = .agg #[.bool n1, .slice p1 A1.length q1, .slice p1' B1.length q1'] := slot_is' u13e
                have HP := Lib.hid hp
                clear hp
                go_simp
                refine (rsub_is (i0.gr ((y1.gr.trans (x2.gr.trans (x3.gr.trans (gv4.trans (gv5.trans x6.gr))))).trans HP.out.gr)) (i1.gr ((y1.gr.trans (x2.gr.trans (x3.gr.trans (gv4.trans (gv5.trans x6.gr))))).trans HP.out.gr)) (by decide)).mono ?_
                rintro e wk' ⟨sb15, sv15, su15, sm15, sd15, rfl, e15, o15, ix⟩
                obtain ⟨sp15, sl15, sc15, tp15, tl15, tc15, rfl, rfl⟩ := e15.slice
                refine hK.out _ _ ?_ ix (fun h => absurd h (by simp))
                exact ⟨_, _, _, _, _, _, _, _, _, rfl, e15, (o15.mono (Nat.le_trans e6_.size HP.out.gr.size))⟩
              · refine RStep.yes 11 true rfl rfl (by decide +kernel) rfl rfl (fun ac wk hp K hK => ?_)
                have HP := Lib.hid hp
                clear hp
                go_simp
                refine (rof_is _ 0 (by decide) (by decide)).mono ?_
                rintro e wk' ⟨sb16, sv16, su16, sm16, sd16, rfl, e16, o16, ix⟩
                obtain ⟨sp16, sl16, sc16, tp16, tl16, tc16, rfl, rfl⟩ := e16.slice
                refine hK.out _ _ ?_ ix (fun h => absurd h (by simp))
                exact ⟨_, _, _, _, _, _, _, _, _, rfl, e16, (o16.mono (Nat.le_trans e6_.size HP.out.gr.size))⟩
              · refine RStep.yes 11 true rfl rfl (by decide +kernel) rfl rfl (fun ac wk hp K hK => ?_)
                obtain ⟨u14b, u14p, u14n, u14c, u14q, u14k, u14d, u14m, u14l, u14e, u14i, u14o⟩ := hp.get 14 (by decide +kernel) rfl
                have t86_ : ac.tmps[86]?.getD undef = .agg #[.bool u14b, .slice u14p u14n u14c, .slice u14q u14k u14d] := slot_is' u14e
                obtain ⟨u15b, u15p, u15n, u15c, u15q, u15k, u15d, u15m, u15l, u15e, u15i, u15o⟩ := hp.get 15 (by decide +kernel) rfl
                have t87_ : ac.tmps[87]?.getD undef = .agg #[.bool u15b, .slice u15p u15n u15c, .slice u15q u15k u15d] := slot_is' u15e
                have HP := Lib.hid hp
                clear hp
                go_simp
                refine (rcmp_is (u14i.inR (k := 13) (LenR.sub (InR.len i0) (InR.len i1))) (u15i.inR (k := 1) (LenR.int (LenI.small (by have h1 : (-9223372036854775808 : Int) ≤ 0 := (by decide); have h2 : 0 ≤ (9223372036854775807 : Int) := (by decide); omega)) (by decide))) (by decide) (s := k) (by rw [show (((0 : Int) : Rat)) = 0 from rfl, cmpR_sub]; exact HKK.out)).mono ?_
                rintro e wk' ⟨rfl, ix⟩
                refine hK.out _ _ ?_ ix (fun h => absurd h (by simp))
                exact rfl
              · refine RStep.yes 11 true rfl rfl (by decide +kernel) rfl rfl (fun ac wk hp K hK => ?_)
                have t7_ : ac.tmps[7]?.getD undef = .int .i64 k := hp.slot 7 rfl rfl
                have HP := Lib.hid hp
                clear hp
                go_simp
                refine hK.out _ _ ?_ (Ext.refl _) (fun h => absurd h (by simp))
                exact rfl
              · refine RStep.yes 11 true rfl rfl (by decide +kernel) rfl rfl (fun ac wk hp K hK => ?_)
                have u16e := hp.get 16 (by decide +kernel) rfl
                have t88_ : ac.tmps[88]?.getD undef = .int .i64 k := slot_is' u16e
                have u17e := hp.get 17 (by decide +kernel) rfl
                have t89_ : ac.tmps[89]?.getD undef = .int .i64 k := slot_is' u17e
                have HP := Lib.hid hp
                clear hp
                go_simp
                refine hK.out _ _ ?_ (Ext.refl _) (fun h => absurd h (by simp))
                exact rfl
              · refine RStep.op rfl rfl (fun ac wk hp K hK => ?_)
                have u11e := hp.get 11 (by decide +kernel) rfl
                have t83_ : ac.tmps[83]?.getD undef = .bool true := slot_is' u11e
                have u18e := hp.get 18 (by decide +kernel) rfl
                have t90_ : ac.tmps[90]?.getD undef = .bool true := slot_is' u18e
                have HP := Lib.hid hp
                clear hp
                go_simp
                refine hK.out _ _ ?_ (Ext.refl _) (fun h => absurd h (by simp))
                exact rfl
              · refine RStep.op rfl rfl (fun ac wk hp K hK => ?_)
                have u19e := hp.get 19 (by decide +kernel) rfl
                have t91_ : ac.tmps[91]?.getD undef = .bool true := slot_is' u19e
                have HP := Lib.hid hp
                clear hp
                go_simp
                refine hK.out _ _ ?_ (Ext.refl _) (fun h => absurd h (by simp))
                exact rfl
            case he =>
              intro ac v7 hM
              have y3_0e := hM.post 0 rfl rfl
              have y3_1e := hM.post 1 rfl rfl
              obtain ⟨y3_2b, y3_2p, y3_2n, y3_2c, y3_2q, y3_2k, y3_2d, y3_2m, y3_2l, y3_2e, y3_2i, y3_2o⟩ := hM.post 2 rfl rfl
              have y3_3e := hM.post 3 rfl rfl
              have y3_4e := hM.post 4 rfl rfl
              obtain ⟨y3_5b, y3_5p, y3_5n, y3_5c, y3_5q, y3_5k, y3_5d, y3_5m, y3_5l, y3_5e, y3_5i, y3_5o⟩ := hM.post 5 rfl rfl
              have y3_6e := hM.post 6 rfl rfl
              have y3_7e := hM.post 7 rfl rfl
              have y3_8e := hM.post 8 rfl rfl
              have y3_9e := hM.post 9 rfl rfl
              have y3_10e := hM.post 10 rfl rfl
              have y3_11e := hM.post 11 rfl rfl
              have y3_12e := hM.post 12 rfl rfl
              have y3_13e := hM.post 13 rfl rfl
              obtain ⟨y3_14b, y3_14p, y3_14n, y3_14c, y3_14q, y3_14k, y3_14d, y3_14m, y3_14l, y3_14e, y3_14i, y3_14o⟩ := hM.post 14 rfl rfl
              obtain ⟨y3_15b, y3_15p, y3_15n, y3_15c, y3_15q, y3_15k, y3_15d, y3_15m, y3_15l, y3_15e, y3_15i, y3_15o⟩ := hM.post 15 rfl rfl
              have y3_16e := hM.post 16 rfl rfl
              have y3_17e := hM.post 17 rfl rfl
              have y3_18e := hM.post 18 rfl rfl
              have y3_19e := hM.post 19 rfl rfl
              have y3_20e := hM.post 20 rfl rfl
              have b0_0 : Hid (At (w.heap.size) 0 (.bool n0) v7) := Lib.hid (hM.keep.at 0 rfl)
              have b0_1 : Hid (At (w.heap.size) 1 (.slice p0 A0.length q0) v7) := Lib.hid (hM.keep.at 1 rfl)
              have b0_2 : Hid (At (w.heap.size) 2 (.slice p0' B0.length q0') v7) := Lib.hid (hM.keep.at 2 rfl)
              have b1_0 : Hid (At (w.heap.size + 1) 0 (.bool n1) v7) := Lib.hid (hM.keep.at 3 rfl)
              have b1_1 : Hid (At (w.heap.size + 1) 1 (.slice p1 A1.length q1) v7) := Lib.hid (hM.keep.at 4 rfl)
              have b1_2 : Hid (At (w.heap.size + 1) 2 (.slice p1' B1.length q1') v7) := Lib.hid (hM.keep.at 5 rfl)
              have b2_0 : Hid (At (w.heap.size + 1 + 1) 0 (.bool n2) v7) := Lib.hid (hM.keep.at 6 rfl)
              have b2_1 : Hid (At (w.heap.size + 1 + 1) 1 (.slice p2 A2.length q2) v7) := Lib.hid (hM.keep.at 7 rfl)
              have b2_2 : Hid (At (w.heap.size + 1 + 1) 2 (.slice p2' B2.length q2') v7) := Lib.hid (hM.keep.at 8 rfl)
              have gv7 : Gr w6 v7 := hM.gr
              have e7_ : Ext w v7 := Ext.below e6_ hM.blw
              have z0_ : sl ac 72 = .agg #[.bool n0, .slice p0 A0.length q0, .slice p0' B0.length q0'] := y3_0e
              have z1_ : sl ac 73 = .agg #[.bool n2, .slice p2 A2.length q2, .slice p2' B2.length q2'] := y3_1e
              have z2_ : sl ac 74 = .agg #[.bool y3_2b, .slice y3_2p y3_2n y3_2c, .slice y3_2q y3_2k y3_2d] := y3_2e
              have z3_ : sl ac 75 = .agg #[.bool n1, .slice p1 A1.length q1, .slice p1' B1.length q1'] := y3_3e
              have z4_ : sl ac 76 = .agg #[.bool n2, .slice p2 A2.length q2, .slice p2' B2.length q2'] := y3_4e
              have z5_ : sl ac 77 = .agg #[.bool y3_5b, .slice y3_5p y3_5n y3_5c, .slice y3_5q y3_5k y3_5d] := y3_5e
              have z6_ : sl ac 78 = .int .i64 ks := y3_6e
              have z7_ : sl ac 79 = .int .i64 k := y3_7e
              have z8_ : sl ac 80 = .int .i64 s := y3_8e
              have z9_ : sl ac 81 = .int .i64 ks := y3_9e
              have z10_ : sl ac 82 = .bool true := y3_10e
              have z11_ : sl ac 83 = .bool true := y3_11e
              have z12_ : sl ac 84 = .agg #[.bool n0, .slice p0 A0.length q0, .slice p0' B0.length q0'] := y3_12e
              have z13_ : sl ac 85 = .agg #[.bool n1, .slice p1 A1.length q1, .slice p1' B1.length q1'] := y3_13e
              have z14_ : sl ac 86 = .agg #[.bool y3_14b, .slice y3_14p y3_14n y3_14c, .slice y3_14q y3_14k y3_14d] := y3_14e
              have z15_ : sl ac 87 = .agg #[.bool y3_15b, .slice y3_15p y3_15n y3_15c, .slice y3_15q y3_15k y3_15d] := y3_15e
              have z16_ : sl ac 88 = .int .i64 k := y3_16e
              have z17_ : sl ac 89 = .int .i64 k := y3_17e
              have z18_ : sl ac 90 = .bool true := y3_18e
              have z19_ : sl ac 91 = .bool true := y3_19e
              have z20_ : sl ac 6 = .bool true := y3_20e
              rw [hM.ag.lay]
              simp only [lay, List.foldl_cons, List.foldl_nil, List.setIfInBounds_toArray, List.set_cons_zero, List.set_cons_succ, z0_, z1_, z2_, z3_, z4_, z5_, z6_, z7_, z8_, z9_, z10_, z11_, z12_, z13_, z14_, z15_, z16_, z17_, z18_, z19_, z20_]
              clear hM hkeep3 hob3 hne3 z0_ z1_ z2_ z3_ z4_ z5_ z6_ z7_ z8_ z9_ z10_ z11_ z12_ z13_ z14_ z15_ z16_ z17_ z18_ z19_ z20_ y3_0e y3_1e y3_2e y3_3e y3_4e y3_5e y3_6e y3_7e y3_8e y3_9e y3_10e y3_11e y3_12e y3_13e y3_14e y3_15e y3_16e y3_17e y3_18e y3_19e y3_20e
              go_wp2_with fail
              go_ret
              exact ⟨rfl, e7_⟩
        · clear HT
          have hk3 : 1 ≤ k := by omega
          clear hk0
          go_wp2_with fail
          have hkeep3 : AllAt' ([(w.heap.size, 0, .bool n0), (w.heap.size, 1, .slice p0 A0.length q0), (w.heap.size, 2, .slice p0' B0.length q0'), (w.heap.size + 1, 0, .bool n1), (w.heap.size + 1, 1, .slice p1 A1.length q1), (w.heap.size + 1, 2, .slice p1' B1.length q1'), (w.heap.size + 1 + 1, 0, .bool n2), (w.heap.size + 1 + 1, 1, .slice p2 A2.length q2), (w.heap.size + 1 + 1, 2, .slice p2' B2.length q2')] : List (Nat × Nat × Value)) v5 := AllAt'.cons b0_0.out (AllAt'.cons b0_1.out (AllAt'.cons b0_2.out (AllAt'.cons b1_0.out (AllAt'.cons b1_1.out (AllAt'.cons b1_2.out (AllAt'.cons b2_0.out (AllAt'.cons b2_1.out (AllAt'.cons b2_2.out (AllAt'.nil _)))))))))
          have hob3 : ObOk w.heap.size v5 (([(w.heap.size, 0, .bool n0), (w.heap.size, 1, .slice p0 A0.length q0), (w.heap.size, 2, .slice p0' B0.length q0'), (w.heap.size + 1, 0, .bool n1), (w.heap.size + 1, 1, .slice p1 A1.length q1), (w.heap.size + 1, 2, .slice p1' B1.length q1'), (w.heap.size + 1 + 1, 0, .bool n2), (w.heap.size + 1 + 1, 1, .slice p2 A2.length q2), (w.heap.size + 1 + 1, 2, .slice p2' B2.length q2')] : List (Nat × Nat × Value)).map (·.1)) ([] : List (Nat × List (Nat × Value))) := trivial
          have hne3 : AllNe (([] : List (Nat × List (Nat × Value))).map (·.1)) := trivial
          (try simp only [List.append_eq, List.cons_append, List.nil_append])
          refine wp_region_gen ⟨[72, 73, 74, 75, 76, 77, 78, 79, 80, 81, 82, 83, 84, 85, 86, 87, 88, 89, 90, 91, 6], fun i => false, fun i => ([none, none, none, none, none, none, none, none, none, none, none, none, none, none, none, none, none, none, none, none, none] : List (Option (BoxRef × Nat))).getD i none, fun i => ([Sg.val (.agg #[.bool n0, .slice p0 A0.length q0, .slice p0' B0.length q0']), Sg.val (.agg #[.bool n2, .slice p2 A2.length q2, .slice p2' B2.length q2']), Sg.ratO w.heap.size (z0 * z2), Sg.val (.agg #[.bool n1, .slice p1 A1.length q1, .slice p1' B1.length q1']), Sg.val (.agg #[.bool n2, .slice p2 A2.length q2, .slice p2' B2.length q2']), Sg.ratO w.heap.size (z1 * z2), Sg.val (.int .i64 ks), Sg.val (.int .i64 k), Sg.val (.int .i64 s), Sg.val (.int .i64 ks), Sg.val (.bool true), Sg.val (.bool true), Sg.val (.agg #[.bool n0, .slice p0 A0.length q0, .slice p0' B0.length q0']), Sg.val (.agg #[.bool n1, .slice p1 A1.length q1, .slice p1' B1.length q1']), Sg.ratO w.heap.size (z0 - z1), Sg.ratO w.heap.size ((0 : Int) : Rat), Sg.val (.int .i64 k), Sg.val (.int .i64 k), Sg.val (.bool true), Sg.val (.bool true), Sg.val (.bool true)] : List Sg).getD i Sg.any, [(w.heap.size, 0, .bool n0), (w.heap.size, 1, .slice p0 A0.length q0), (w.heap.size, 2, .slice p0' B0.length q0'), (w.heap.size + 1, 0, .bool n1), (w.heap.size + 1, 1, .slice p1 A1.length q1), (w.heap.size + 1, 2, .slice p1' B1.length q1'), (w.heap.size + 1 + 1, 0, .bool n2), (w.heap.size + 1 + 1, 1, .slice p2 A2.length q2), (w.heap.size + 1 + 1, 2, .slice p2' B2.length q2')], []⟩ w.heap.size (by kernel_rfl) (by kernel_rfl) e5_.size ?hfr hkeep3 hob3 hne3 ?hs ?he
          case hfr =>
            intro i v wk hi hst hv
            exact absurd hi (by simp)
          case hs =>
            refine ⟨?_, ?_, ?_, ?_, ?_, ?_, ?_, ?_, ?_, ?_, ?_, ?_, ?_, ?_, ?_, ?_, ?_, ?_, ?_, ?_, ?_, trivial⟩
            · refine RStep.op rfl rfl (fun ac wk hp K hK => ?_)
              have t3_ : ac.tmps[3]?.getD undef = .pointer (some ⟨w.heap.size, 0, none⟩) := hp.slot 3 rfl rfl
              have c0_ := hp.cell 0 rfl
              have c1_ := hp.cell 1 rfl
              have c2_ := hp.cell 2 rfl
              have HP := Lib.hid hp
              clear hp
              go_simp
              refine hK.out _ _ ?_ (Ext.refl _) (fun h => absurd h (by simp))
              exact rfl
            · refine RStep.op rfl rfl (fun ac wk hp K hK => ?_)
              have t5_ : ac.tmps[5]?.getD undef = .pointer (some ⟨w.heap.size + 1 + 1, 0, none⟩) := hp.slot 5 rfl rfl
              have c0_ := hp.cell 6 rfl
              have c1_ := hp.cell 7 rfl
              have c2_ := hp.cell 8 rfl
              have HP := Lib.hid hp
              clear hp
              go_simp
              refine hK.out _ _ ?_ (Ext.refl _) (fun h => absurd h (by simp))
              exact rfl
            · refine RStep.op rfl rfl (fun ac wk hp K hK => ?_)
              have u0e := hp.get 0 (by decide +kernel) rfl
              have t72_ : ac.tmps[72]?.getD undef = .agg #[.bool n0, .slice p0 A0.length q0, .slice p0' B0.length q0'] := slot_is' u0e
              have u1e := hp.get 1 (by decide +kernel) rfl
              have t73_ : ac.tmps[73]?.getD undef = .agg #[.bool n2, .slice p2 A2.length q2, .slice p2' B2.length q2'] := slot_is' u1e
              have HP := Lib.hid hp
              clear hp
              go_simp
              refine (rmul_is (i0.gr ((y1.gr.trans (x2.gr.trans (x3.gr.trans (gv4.trans gv5)))).trans HP.out.gr)) (i2.gr ((y1.gr.trans (x2.gr.trans (x3.gr.trans (gv4.trans gv5)))).trans HP.out.gr)) (by decide)).mono ?_
              rintro e wk' ⟨sb11, sv11, su11, sm11, sd11, rfl, e11, o11, ix⟩
              obtain ⟨sp11, sl11, sc11, tp11, tl11, tc11, rfl, rfl⟩ := e11.slice
              refine hK.out _ _ ?_ ix (fun h => absurd h (by simp))
              exact ⟨_, _, _, _, _, _, _, _, _, rfl, e11, (o11.mono (Nat.le_trans e5_.size HP.out.gr.size))⟩
            · refine RStep.op rfl rfl (fun ac wk hp K hK => ?_)
              have t4_ : ac.tmps[4]?.getD undef = .pointer (some ⟨w.heap.size + 1, 0, none⟩) := hp.slot 4 rfl rfl
              have c0_ := hp.cell 3 rfl
              have c1_ := hp.cell 4 rfl
              have c2_ := hp.cell 5 rfl
              have HP := Lib.hid hp
              clear hp
              go_simp
              refine hK.out _ _ ?_ (Ext.refl _) (fun h => absurd h (by simp))
              exact rfl
            · refine RStep.op rfl rfl (fun ac wk hp K hK => ?_)
              have t5_ : ac.tmps[5]?.getD undef = .pointer (some ⟨w.heap.size + 1 + 1, 0, none⟩) := hp.slot 5 rfl rfl
              have c0_ := hp.cell 6 rfl
              have c1_ := hp.cell 7 rfl
              have c2_ := hp.cell 8 rfl
              have HP := Lib.hid hp
              clear hp
              go_simp
              refine hK.out _ _ ?_ (Ext.refl _) (fun h => absurd h (by simp))
              exact rfl
            · refine RStep.op rfl rfl (fun ac wk hp K hK => ?_)
              have u3e := hp.get 3 (by decide +kernel) rfl
              have t75_ : ac.tmps[75]?.getD undef = .agg #[.bool n1, .slice p1 A1.length q1, .slice p1' B1.length q1'] := slot_is' u3e
              have u4e := hp.get 4 (by decide +kernel) rfl
              have t76_ : ac.tmps[76]?.getD undef = .agg #[.bool n2, .slice p2 A2.length q2, .slice p2' B2.length q2'] := slot_is' u4e
              have HP := Lib.hid hp
              clear hp
              go_simp
              refine (rmul_is (i1.gr ((y1.gr.trans (x2.gr.trans (x3.gr.trans (gv4.trans gv5)))).trans HP.out.gr)) (i2.gr ((y1.gr.trans (x2.gr.trans (x3.gr.trans (gv4.trans gv5)))).trans HP.out.gr)) (by decide)).mono ?_
              rintro e wk' ⟨sb12, sv12, su12, sm12, sd12, rfl, e12, o12, ix⟩
              obtain ⟨sp12, sl12, sc12, tp12, tl12, tc12, rfl, rfl⟩ := e12.slice
              refine hK.out _ _ ?_ ix (fun h => absurd h (by simp))
              exact ⟨_, _, _, _, _, _, _, _, _, rfl, e12, (o12.mono (Nat.le_trans e5_.size HP.out.gr.size))⟩
            · refine RStep.op rfl rfl (fun ac wk hp K hK => ?_)
              obtain ⟨u2b, u2p, u2n, u2c, u2q, u2k, u2d, u2m, u2l, u2e, u2i, u2o⟩ := hp.get 2 (by decide +kernel) rfl
              have t74_ : ac.tmps[74]?.getD undef = .agg #[.bool u2b, .slice u2p u2n u2c, .slice u2q u2k u2d] := slot_is' u2e
              obtain ⟨u5b, u5p, u5n, u5c, u5q, u5k, u5d, u5m, u5l, u5e, u5i, u5o⟩ := hp.get 5 (by decide +kernel) rfl
              have t77_ : ac.tmps[77]?.getD undef = .agg #[.bool u5b, .slice u5p u5n u5c, .slice u5q u5k u5d] := slot_is' u5e
              have HP := Lib.hid hp
              clear hp
              go_simp
              refine (rcmp_is (u2i.inR (k := 12) (LenR.mul (InR.len i0) (InR.len i2))) (u5i.inR (k := 12) (LenR.mul (InR.len i1) (InR.len i2))) (by decide) (s := ks) HPR.out).mono ?_
              rintro e wk' ⟨rfl, ix⟩
              refine hK.out _ _ ?_ ix (fun h => absurd h (by simp))
              exact rfl
            · refine RStep.op rfl rfl (fun ac wk hp K hK => ?_)
              have t7_ : ac.tmps[7]?.getD undef = .int .i64 k := hp.slot 7 rfl rfl
              have HP := Lib.hid hp
              clear hp
              go_simp
              refine hK.out _ _ ?_ (Ext.refl _) (fun h => absurd h (by simp))
              exact rfl
            · refine RStep.op rfl rfl (fun ac wk hp K hK => ?_)
              have t8_ : ac.tmps[8]?.getD undef = .int .i64 s := hp.slot 8 rfl rfl
              have HP := Lib.hid hp
              clear hp
              go_simp
              refine hK.out _ _ ?_ (Ext.refl _) (fun h => absurd h (by simp))
              exact rfl
            · refine RStep.op rfl rfl (fun ac wk hp K hK => ?_)
              have u7e := hp.get 7 (by decide +kernel) rfl
              have t79_ : ac.tmps[79]?.getD undef = .int .i64 k := slot_is' u7e
              have u8e := hp.get 8 (by decide +kernel) rfl
              have t80_ : ac.tmps[80]?.getD undef = .int .i64 s := slot_is' u8e
              have HP := Lib.hid hp
              clear hp
              go_simp
              refine hK.out _ _ ?_ (Ext.refl _) (fun h => absurd h (by simp))
              exact (by first | rfl | (apply congrArg Value.bool; simp; done) | (apply congrArg Value.bool; simp; omega) | (simp [*]; done))
            · refine RStep.op rfl rfl (fun ac wk hp K hK => ?_)
              have u6e := hp.get 6 (by decide +kernel) rfl
              have t78_ : ac.tmps[78]?.getD undef = .int .i64 ks := slot_is' u6e
              have u9e := hp.get 9 (by decide +kernel) rfl
              have t81_ : ac.tmps[81]?.getD undef = .int .i64 ks := slot_is' u9e
              have HP := Lib.hid hp
              clear hp
              go_simp
              refine hK.out _ _ ?_ (Ext.refl _) (fun h => absurd h (by simp))
              exact rfl
            · refine RStep.op rfl rfl (fun ac wk hp K hK => ?_)
              have u10e := hp.get 10 (by decide +kernel) rfl
              have t82_ : ac.tmps[82]?.getD undef = .bool true := slot_is' u10e
              have HP := Lib.hid hp
              clear hp
              go_simp
              refine hK.out _ _ ?_ (Ext.refl _) (fun h => absurd h (by simp))
              exact rfl
            · refine RStep.yes 11 true rfl rfl (by decide +kernel) rfl rfl (fun ac wk hp K hK => ?_)
              have t3_ : ac.tmps[3]?.getD undef = .pointer (some ⟨w.heap.size, 0, none⟩) := hp.slot 3 rfl rfl
              have c0_ := hp.cell 0 rfl
              have c1_ := hp.cell 1 rfl
              have c2_ := hp.cell 2 rfl
              have HP := Lib.hid hp
              clear hp
              go_simp
              refine hK.out _ _ ?_ (Ext.refl _) (fun h => absurd h (by simp))
              exact rfl
            · refine RStep.yes 11 true rfl rfl (by decide +kernel) rfl rfl (fun ac wk hp K hK => ?_)
              have t4_ : ac.tmps[4]?.getD undef = .pointer (some ⟨w.heap.size + 1, 0, none⟩) := hp.slot 4 rfl rfl
              have c0_ := hp.cell 3 rfl
              have c1_ := hp.cell 4 rfl
              have c2_ := hp.cell 5 rfl
              have HP := Lib.hid hp
              clear hp
              go_simp
              refine hK.out _ _ ?_ (Ext.refl _) (fun h => absurd h (by simp))
              exact rfl
            · refine RStep.yes 11 true rfl rfl (by decide +kernel) rfl rfl (fun ac wk hp K hK => ?_)
              have u12e := hp.get 12 (by decide +kernel) rfl
              have t84_ : ac.tmps[84]?.getD undef = .agg #[.bool n0, .slice p0 A0.length q0, .slice p0' B0.length q0'] := slot_is' u12e
              have u13e := hp.get 13 (by decide +kernel) rfl
              have t85_ : ac.tmps[85]?.getD undef = .agg #[.bool n1, .slice p1 A1.length q1, .slice p1' B1.length q1'] := slot_is' u13e
              have HP := Lib.hid hp
              clear hp
              go_simp
              refine (rsub_is (i0.gr ((y1.gr.trans (x2.gr.trans (x3.gr.trans (gv4.trans gv5)))).trans HP.out.gr)) (i1.gr ((y1.gr.trans (x2.gr.trans (x3.gr.trans (gv4.trans gv5)))).trans HP.out.gr)) (by decide)).mono ?_
              rintro e wk' ⟨sb14, sv14, su14, sm14, sd14, rfl, e14, o14, ix⟩
              obtain ⟨sp14, sl14, sc14, tp14, tl14, tc14, rfl, rfl⟩ := e14.slice
              refine hK.out _ _ ?_ ix (fun h => absurd h (by simp))
              exact ⟨_, _, _, _, _, _, _, _, _, rfl, e14, (o14.mono (Nat.le_trans e5_.size HP.out.gr.size))⟩
            · refine RStep.yes 11 true rfl rfl (by decide +kernel) rfl rfl (fun ac wk hp K hK => ?_)
              have HP := Lib.hid hp
              clear hp
              go_simp
              refine (rof_is _ 0 (by decide) (by decide)).mono ?_
              rintro e wk' ⟨sb15, sv15, su15, sm15, sd15, rfl, e15, o15, ix⟩
              obtain ⟨sp15, sl15, sc15, tp15, tl15, tc15, rfl, rfl⟩ := e15.slice
              refine hK.out _ _ ?_ ix (fun h => absurd h (by simp))
              exact ⟨_, _, _, _, _, _, _, _, _, rfl, e15, (o15.mono (Nat.le_trans e5_.size HP.out.gr.size))⟩
            · refine RStep.yes 11 true rfl rfl (by decide +kernel) rfl rfl (fun ac wk hp K hK => ?_)
              obtain ⟨u14b, u14p, u14n, u14c, u14q, u14k, u14d, u14m, u14l, u14e, u14i, u14o⟩ := hp.get 14 (by decide +kernel) rfl
              have t86_ : ac.tmps[86]?.getD undef = .agg #[.bool u14b, .slice u14p u14n u14c, .slice u14q u14k u14d] := slot_is' u14e
              obtain ⟨u15b, u15p, u15n, u15c, u15q, u15k, u15d, u15m, u15l, u15e, u15i, u15o⟩ := hp.get 15 (by decide +kernel) rfl
              have t87_ : ac.tmps[87]?.getD undef = .agg #[.bool u15b, .slice u15p u15n u15c, .slice u15q u15k u15d] := slot_is' u15e
              have HP := Lib.hid hp
              clear hp
              go_simp
              refine (rcmp_is (u14i.inR (k := 13) (LenR.sub (InR.len i0) (InR.len i1))) (u15i.inR (k := 1) (LenR.int (LenI.small (by have h1 : (-9223372036854775808 : Int) ≤ 0 := (by decide); have h2 : 0 ≤ (9223372036854775807 : Int) := (by decide); omega)) (by decide))) (by decide) (s := k) (by rw [show (((0 : Int) : Rat)) = 0 from rfl, cmpR_sub]; exact HKK.out)).mono ?_
              rintro e wk' ⟨rfl, ix⟩
              refine hK.out _ _ ?_ ix (fun h => absurd h (by simp))
              exact rfl
            · refine RStep.yes 11 true rfl rfl (by decide +kernel) rfl rfl (fun ac wk hp K hK => ?_)
              have t7_ : ac.tmps[7]?.getD undef = .int .i64 k := hp.slot 7 rfl rfl
              have HP := Lib.hid hp
              clear hp
              go_simp
              refine hK.out _ _ ?_ (Ext.refl _) (fun h => absurd h (by simp))
              exact rfl
            · refine RStep.yes 11 true rfl rfl (by decide +kernel) rfl rfl (fun ac wk hp K hK => ?_)
              have u16e := hp.get 16 (by decide +kernel) rfl
              have t88_ : ac.tmps[88]?.getD undef = .int .i64 k := slot_is' u16e
              have u17e := hp.get 17 (by decide +kernel) rfl
              have t89_ : ac.tmps[89]?.getD undef = .int .i64 k := slot_is' u17e
              have HP := Lib.hid hp
              clear hp
              go_simp
              refine hK.out _ _ ?_ (Ext.refl _) (fun h => absurd h (by simp))
              exact rfl
            · refine RStep.op rfl rfl (fun ac wk hp K hK => ?_)
              have u11e := hp.get 11 (by decide +kernel) rfl
              have t83_ : ac.tmps[83]?.getD undef = .bool true := slot_is' u11e
              have u18e := hp.get 18 (by decide +kernel) rfl
              have t90_ : ac.tmps[90]?.getD undef = .bool true := slot_is' u18e
              have HP := Lib.hid hp
              clear hp
              go_simp
              refine hK.out _ _ ?_ (Ext.refl _) (fun h => absurd h (by simp))
              exact rfl
            · refine RStep.op rfl rfl (fun ac wk hp K hK => ?_)
              have u19e := hp.get 19 (by decide +kernel) rfl
              have t91_ : ac.tmps[91]?.getD undef = .bool true := slot_is' u19e
              have HP := Lib.hid hp
              clear hp
              go_simp
              refine hK.out _ _ ?_ (Ext.refl _) (fun h => absurd h (by simp))
              exact rfl
          case he =>
            intro ac v6 hM
            have y3_0e := hM.post 0 rfl rfl
            have y3_1e := hM.post 1 rfl rfl
            obtain ⟨y3_2b, y3_2p, y3_2n, y3_2c, y3_2q, y3_2k, y3_2d, y3_2m, y3_2l, y3_2e, y3_2i, y3_2o⟩ := hM.post 2 rfl rfl
            have y3_3e := hM.post 3 rfl rfl
            have y3_4e := hM.post 4 rfl rfl
            obtain ⟨y3_5b, y3_5p, y3_5n, y3_5c, y3_5q, y3_5k, y3_5d, y3_5m, y3_5l, y3_5e, y3_5i, y3_5o⟩ := hM.post 5 rfl rfl
            have y3_6e := hM.post 6 rfl rfl
            have y3_7e := hM.post 7 rfl rfl
            have y3_8e := hM.post 8 rfl rfl
            have y3_9e := hM.post 9 rfl rfl
            have y3_10e := hM.post 10 rfl rfl
            have y3_11e := hM.post 11 rfl rfl
            have y3_12e := hM.post 12 rfl rfl
            have y3_13e := hM.post 13 rfl rfl
            obtain ⟨y3_14b, y3_14p, y3_14n, y3_14c, y3_14q, y3_14k, y3_14d, y3_14m, y3_14l, y3_14e, y3_14i, y3_14o⟩ := hM.post 14 rfl rfl
            obtain ⟨y3_15b, y3_15p, y3_15n, y3_15c, y3_15q, y3_15k, y3_15d, y3_15m, y3_15l, y3_15e, y3_15i, y3_15o⟩ := hM.post 15 rfl rfl
            have y3_16e := hM.post 16 rfl rfl
            have y3_17e := hM.post 17 rfl rfl
            have y3_18e := hM.post 18 rfl rfl
            have y3_19e := hM.post 19 rfl rfl
            have y3_20e := hM.post 20 rfl rfl
            have b0_0 : Hid (At (w.heap.size) 0 (.bool n0) v6) := Lib.hid (hM.keep.at 0 rfl)
            have b0_1 : Hid (At (w.heap.size) 1 (.slice p0 A0.length q0) v6) := Lib.hid (hM.keep.at 1 rfl)
            have b0_2 : Hid (At (w.heap.size) 2 (.slice p0' B0.length q0') v6) := Lib.hid (hM.keep.at 2 rfl)
            have b1_0 : Hid (At (w.heap.size + 1) 0 (.bool n1) v6) := Lib.hid (hM.keep.at 3 rfl)
            have b1_1 : Hid (At (w.heap.size + 1) 1 (.slice p1 A1.length q1) v6) := Lib.hid (hM.keep.at 4 rfl)
            have b1_2 : Hid (At (w.heap.size + 1) 2 (.slice p1' B1.length q1') v6) := Lib.hid (hM.keep.at 5 rfl)
            have b2_0 : Hid (At (w.heap.size + 1 + 1) 0 (.bool n2) v6) := Lib.hid (hM.keep.at 6 rfl)
            have b2_1 : Hid (At (w.heap.size + 1 + 1) 1 (.slice p2 A2.length q2) v6) := Lib.hid (hM.keep.at 7 rfl)
            have b2_2 : Hid (At (w.heap.size + 1 + 1) 2 (.slice p2' B2.length q2') v6) := Lib.hid (hM.keep.at 8 rfl)
            have gv6 : Gr v5 v6 := hM.gr
            have e6_ : Ext w v6 := Ext.below e5_ hM.blw
            have z0_ : sl ac 72 = .agg #[.bool n0, .slice p0 A0.length q0, .slice p0' B0.length q0'] := y3_0e
            have z1_ : sl ac 73 = .agg #[.bool n2, .slice p2 A2.length q2, .slice p2' B2.length q2'] := y3_1e
            have z2_ : sl ac 74 = .agg #[.bool y3_2b, .slice y3_2p y3_2n y3_2c, .slice y3_2q y3_2k y3_2d] := y3_2e
            have z3_ : sl ac 75 = .agg #[.bool n1, .slice p1 A1.length q1, .slice p1' B1.length q1'] := y3_3e
            have z4_ : sl ac 76 = .agg #[.bool n2, .slice p2 A2.length q2, .slice p2' B2.length q2'] := y3_4e
            have z5_ : sl ac 77 = .agg #[.bool y3_5b, .slice y3_5p y3_5n y3_5c, .slice y3_5q y3_5k y3_5d] := y3_5e
            have z6_ : sl ac 78 = .int .i64 ks := y3_6e
            have z7_ : sl ac 79 = .int .i64 k := y3_7e
            have z8_ : sl ac 80 = .int .i64 s := y3_8e
            have z9_ : sl ac 81 = .int .i64 ks := y3_9e
            have z10_ : sl ac 82 = .bool true := y3_10e
            have z11_ : sl ac 83 = .bool true := y3_11e
            have z12_ : sl ac 84 = .agg #[.bool n0, .slice p0 A0.length q0, .slice p0' B0.length q0'] := y3_12e
            have z13_ : sl ac 85 = .agg #[.bool n1, .slice p1 A1.length q1, .slice p1' B1.length q1'] := y3_13e
            have z14_ : sl ac 86 = .agg #[.bool y3_14b, .slice y3_14p y3_14n y3_14c, .slice y3_14q y3_14k y3_14d] := y3_14e
            have z15_ : sl ac 87 = .agg #[.bool y3_15b, .slice y3_15p y3_15n y3_15c, .slice y3_15q y3_15k y3_15d] := y3_15e
            have z16_ : sl ac 88 = .int .i64 k := y3_16e
            have z17_ : sl ac 89 = .int .i64 k := y3_17e
            have z18_ : sl ac 90 = .bool true := y3_18e
            have z19_ : sl ac 91 = .bool true := y3_19e
            have z20_ : sl ac 6 = .bool true := y3_20e
            rw [hM.ag.lay]
            simp only [lay, List.foldl_cons, List.foldl_nil, List.setIfInBounds_toArray, List.set_cons_zero, List.set_cons_succ, z0_, z1_, z2_, z3_, z4_, z5_, z6_, z7_, z8_, z9_, z10_, z11_, z12_, z13_, z14_, z15_, z16_, z17_, z18_, z19_, z20_]
            clear hM hkeep3 hob3 hne3 z0_ z1_ z2_ z3_ z4_ z5_ z6_ z7_ z8_ z9_ z10_ z11_ z12_ z13_ z14_ z15_ z16_ z17_ z18_ z19_ z20_ y3_0e y3_1e y3_2e y3_3e y3_4e y3_5e y3_6e y3_7e y3_8e y3_9e y3_10e y3_11e y3_12e y3_13e y3_14e y3_15e y3_16e y3_17e y3_18e y3_19e y3_20e
            go_wp2_with fail
            go_ret
            exact ⟨rfl, e6_⟩

end Go.Proofs.YtjjpmjhaodpgcaaGreatDoor
