/- RatTexts answers true at all fractions and texts. -/
import Derived.Test.YtaklejkdmfgplaaGreatDoorRefTxt06
namespace Go.Proofs.YtaklejkdmfgplaaGreatDoor
open Go Go.RowKit

set_option maxHeartbeats 1600000 in
set_option maxRecDepth 100000 in
theorem ratTexts_out {w : World} {v0 u0 : Value} {A0 B0 : List Nat} (h0 : Limbs w v0 A0) (g0 : Limbs w u0 B0) (n0 : Bool) (s : ByteArray) (hlb : longR [(n0, A0, B0)] = true) :
    Calls Tryz.prog 5 #[.agg #[.bool n0, v0, u0], .string s] w (Yes w) := by
  obtain ⟨p0, q0, rfl, -, -, -⟩ := h0.open
  obtain ⟨p0', q0', rfl, -, -, -⟩ := g0.open
  have HLB := Lib.hid hlb
  clear hlb
  go_enter Tryz.func5, Tryz.ntmps5
  go_wp2_with fail
  obtain ⟨v1, hv1⟩ : ∃ W, W = ((w.alloc (.cells #[.bool n0, .slice p0 A0.length q0, .slice p0' B0.length q0'] 36)).alloc (.cells #[.bool n0, .slice p0 A0.length q0, .slice p0' B0.length q0'] 36)) := ⟨_, rfl⟩
  have y1 : Ext w v1 := by rw [hv1]; exact (((Ext.refl _).alloc _).alloc _)
  have b0_0 : Hid (At (w.heap.size) 0 (.bool n0) v1) := by rw [hv1]; exact At.ext (At.n0 (by rfl)) ((Ext.refl _).alloc _)
  have b0_1 : Hid (At (w.heap.size) 1 (.slice p0 A0.length q0) v1) := by rw [hv1]; exact At.ext (At.n0 (by rfl)) ((Ext.refl _).alloc _)
  have b0_2 : Hid (At (w.heap.size) 2 (.slice p0' B0.length q0') v1) := by rw [hv1]; exact At.ext (At.n0 (by rfl)) ((Ext.refl _).alloc _)
  have k0 : Hid (Bx 3 (w.heap.size) v1) := by rw [hv1]; exact Bx.gr (Bx.n0 3 ⟨rfl, by decide⟩ (by decide) noI_s3) (Ext.gr ((Ext.refl _).alloc _))
  have u0 : Hid (w.heap.size < v1.heap.size) := b0_0.out.2
  have b1_0 : Hid (At (w.heap.size + 1) 0 (.bool n0) v1) := by rw [hv1]; exact At.ext (At.n1 (by rfl)) (Ext.refl _)
  have b1_1 : Hid (At (w.heap.size + 1) 1 (.slice p0 A0.length q0) v1) := by rw [hv1]; exact At.ext (At.n1 (by rfl)) (Ext.refl _)
  have b1_2 : Hid (At (w.heap.size + 1) 2 (.slice p0' B0.length q0') v1) := by rw [hv1]; exact At.ext (At.n1 (by rfl)) (Ext.refl _)
  have k1 : Hid (Bx 3 (w.heap.size + 1) v1) := by rw [hv1]; exact Bx.gr (Bx.n1 3 ⟨rfl, by decide⟩ (by decide) noI_s3) (Ext.gr (Ext.refl _))
  have u1 : Hid (w.heap.size + 1 < v1.heap.size) := b1_0.out.2
  have e1_ : Ext w v1 := y1
  rw [← hv1]
  clear hv1
  refine (long_calls (Ls := [(n0, A0, B0)]) (sl3_1 (b1_0.out) (b1_1.out) (b1_2.out) (⟨rfl, (h0.ext y1), (g0.ext y1)⟩)) true HLB.out).mono ?_
  rintro e w2 ⟨rfl, x2⟩
  have e2_ : Ext w w2 := Ext.trans e1_ x2
  go_wp2_with fail
  refine (awake06_calls _).mono ?_
  rintro e w3 ⟨rfl, x3⟩
  have e3_ : Ext w w3 := Ext.trans e2_ x3
  go_wp2_with fail
  go_ret
  exact ⟨rfl, e3_⟩

set_option maxHeartbeats 1600000 in
set_option maxRecDepth 100000 in
theorem ratTexts_len {w : World} {v0 u0 : Value} {A0 B0 : List Nat} (h0 : Limbs w v0 A0) (g0 : Limbs w u0 B0) (n0 : Bool) (s : ByteArray) (hlb : longR [(n0, A0, B0)] = false) (hs : s.size ≤ maxLen) (hs2 : 300 < s.size) :
    Calls Tryz.prog 5 #[.agg #[.bool n0, v0, u0], .string s] w (Yes w) := by
  obtain ⟨p0, q0, rfl, -, -, -⟩ := h0.open
  obtain ⟨p0', q0', rfl, -, -, -⟩ := g0.open
  have HLB := Lib.hid hlb
  unfold maxLen at hs
  have hsi : (301 : Int) ≤ s.size := by omega
  have hsj : (s.size : Int) ≤ 9223372036854775807 := by omega
  clear hlb hs hs2
  go_enter Tryz.func5, Tryz.ntmps5
  go_wp2_with fail
  obtain ⟨v1, hv1⟩ : ∃ W, W = ((w.alloc (.cells #[.bool n0, .slice p0 A0.length q0, .slice p0' B0.length q0'] 36)).alloc (.cells #[.bool n0, .slice p0 A0.length q0, .slice p0' B0.length q0'] 36)) := ⟨_, rfl⟩
  have y1 : Ext w v1 := by rw [hv1]; exact (((Ext.refl _).alloc _).alloc _)
  have b0_0 : Hid (At (w.heap.size) 0 (.bool n0) v1) := by rw [hv1]; exact At.ext (At.n0 (by rfl)) ((Ext.refl _).alloc _)
  have b0_1 : Hid (At (w.heap.size) 1 (.slice p0 A0.length q0) v1) := by rw [hv1]; exact At.ext (At.n0 (by rfl)) ((Ext.refl _).alloc _)
  have b0_2 : Hid (At (w.heap.size) 2 (.slice p0' B0.length q0') v1) := by rw [hv1]; exact At.ext (At.n0 (by rfl)) ((Ext.refl _).alloc _)
  have k0 : Hid (Bx 3 (w.heap.size) v1) := by rw [hv1]; exact Bx.gr (Bx.n0 3 ⟨rfl, by decide⟩ (by decide) noI_s3) (Ext.gr ((Ext.refl _).alloc _))
  have u0 : Hid (w.heap.size < v1.heap.size) := b0_0.out.2
  have b1_0 : Hid (At (w.heap.size + 1) 0 (.bool n0) v1) := by rw [hv1]; exact At.ext (At.n1 (by rfl)) (Ext.refl _)
  have b1_1 : Hid (At (w.heap.size + 1) 1 (.slice p0 A0.length q0) v1) := by rw [hv1]; exact At.ext (At.n1 (by rfl)) (Ext.refl _)
  have b1_2 : Hid (At (w.heap.size + 1) 2 (.slice p0' B0.length q0') v1) := by rw [hv1]; exact At.ext (At.n1 (by rfl)) (Ext.refl _)
  have k1 : Hid (Bx 3 (w.heap.size + 1) v1) := by rw [hv1]; exact Bx.gr (Bx.n1 3 ⟨rfl, by decide⟩ (by decide) noI_s3) (Ext.gr (Ext.refl _))
  have u1 : Hid (w.heap.size + 1 < v1.heap.size) := b1_0.out.2
  have e1_ : Ext w v1 := y1
  rw [← hv1]
  clear hv1
  refine (long_calls (Ls := [(n0, A0, B0)]) (sl3_1 (b1_0.out) (b1_1.out) (b1_2.out) (⟨rfl, (h0.ext y1), (g0.ext y1)⟩)) false HLB.out).mono ?_
  rintro e w2 ⟨rfl, x2⟩
  have e2_ : Ext w w2 := Ext.trans e1_ x2
  go_wp2_with fail
  refine (awake06_calls _).mono ?_
  rintro e w3 ⟨rfl, x3⟩
  have e3_ : Ext w w3 := Ext.trans e2_ x3
  go_wp2_with fail
  go_ret
  exact ⟨rfl, e3_⟩

set_option maxHeartbeats 1000000 in
set_option maxRecDepth 100000 in
theorem ratTexts_main {w : World} {v0 u0 : Value} {A0 B0 : List Nat} (h0 : Limbs w v0 A0) (g0 : Limbs w u0 B0) (n0 : Bool) (s : ByteArray) (hlb : longR [(n0, A0, B0)] = false) (hs : s.size ≤ 300) :
    Calls Tryz.prog 5 #[.agg #[.bool n0, v0, u0], .string s] w (Yes w) := by
  obtain ⟨p0, q0, rfl, -, -, -⟩ := h0.open
  obtain ⟨p0', q0', rfl, -, -, -⟩ := g0.open
  have HLB := Lib.hid hlb
  have HLA0 : Hid (A0.length ≤ 6) := (longR_get hlb (a := (n0, A0, B0)) (by simp)).1
  have HLB0 : Hid (B0.length ≤ 6) := (longR_get hlb (a := (n0, A0, B0)) (by simp)).2
  obtain ⟨z0, hz0⟩ : ∃ z, mkRat (iv n0 A0) (val B0) = z := ⟨_, rfl⟩
  have i0 : InR w n0 (.slice p0 A0.length q0) (.slice p0' B0.length q0') 6 z0 := ⟨A0, B0, h0, g0, hz0, HLA0.out, HLB0.out, by decide⟩
  obtain ⟨t, ht⟩ := str_of (showR z0)
  have HT := Lib.hid ht
  obtain ⟨⟨xb, xn, xd⟩, xc, hr1, hr2⟩ := read6_both s (by omega)
  have HR1 := Lib.hid hr1
  have HR2 := Lib.hid hr2
  have hsi : (s.size : Int) ≤ 300 := by omega
  have t0 : decide ((300 : Int) < (s.size : Int)) = false := decide_eq_false (by omega)
  clear hlb hz0 ht hr1 hr2 hs
  go_enter Tryz.func5, Tryz.ntmps5
  go_wp2_with fail
  obtain ⟨v1, hv1⟩ : ∃ W, W = ((w.alloc (.cells #[.bool n0, .slice p0 A0.length q0, .slice p0' B0.length q0'] 36)).alloc (.cells #[.bool n0, .slice p0 A0.length q0, .slice p0' B0.length q0'] 36)) := ⟨_, rfl⟩
  have y1 : Ext w v1 := by rw [hv1]; exact (((Ext.refl _).alloc _).alloc _)
  have b0_0 : Hid (At (w.heap.size) 0 (.bool n0) v1) := by rw [hv1]; exact At.ext (At.n0 (by rfl)) ((Ext.refl _).alloc _)
  have b0_1 : Hid (At (w.heap.size) 1 (.slice p0 A0.length q0) v1) := by rw [hv1]; exact At.ext (At.n0 (by rfl)) ((Ext.refl _).alloc _)
  have b0_2 : Hid (At (w.heap.size) 2 (.slice p0' B0.length q0') v1) := by rw [hv1]; exact At.ext (At.n0 (by rfl)) ((Ext.refl _).alloc _)
  have k0 : Hid (Bx 3 (w.heap.size) v1) := by rw [hv1]; exact Bx.gr (Bx.n0 3 ⟨rfl, by decide⟩ (by decide) noI_s3) (Ext.gr ((Ext.refl _).alloc _))
  have u0 : Hid (w.heap.size < v1.heap.size) := b0_0.out.2
  have b1_0 : Hid (At (w.heap.size + 1) 0 (.bool n0) v1) := by rw [hv1]; exact At.ext (At.n1 (by rfl)) (Ext.refl _)
  have b1_1 : Hid (At (w.heap.size + 1) 1 (.slice p0 A0.length q0) v1) := by rw [hv1]; exact At.ext (At.n1 (by rfl)) (Ext.refl _)
  have b1_2 : Hid (At (w.heap.size + 1) 2 (.slice p0' B0.length q0') v1) := by rw [hv1]; exact At.ext (At.n1 (by rfl)) (Ext.refl _)
  have k1 : Hid (Bx 3 (w.heap.size + 1) v1) := by rw [hv1]; exact Bx.gr (Bx.n1 3 ⟨rfl, by decide⟩ (by decide) noI_s3) (Ext.gr (Ext.refl _))
  have u1 : Hid (w.heap.size + 1 < v1.heap.size) := b1_0.out.2
  have e1_ : Ext w v1 := y1
  rw [← hv1]
  clear hv1
  refine (long_calls (Ls := [(n0, A0, B0)]) (sl3_1 (b1_0.out) (b1_1.out) (b1_2.out) (⟨rfl, (h0.ext y1), (g0.ext y1)⟩)) false HLB.out).mono ?_
  rintro e w2 ⟨rfl, x2⟩
  have e2_ : Ext w w2 := Ext.trans e1_ x2
  go_wp2_with fail
  refine (HR2.out _).mono ?_
  rintro e w3 ⟨sp2, sl2, sc2, tp2, tl2, tc2, rfl, o2, q2_, x3⟩
  have e3_ : Ext w w3 := Ext.trans e2_ x3
  go_wp2_with fail
  obtain ⟨v4, hv4⟩ : ∃ W, W = (w3.alloc (.cells #[.bool xb, .slice sp2 sl2 sc2, .slice tp2 tl2 tc2] 36)) := ⟨_, rfl⟩
  have y4 : Ext w3 v4 := by rw [hv4]; exact ((Ext.refl _).alloc _)
  have b2_0 : Hid (At (w3.heap.size) 0 (.bool xb) v4) := by rw [hv4]; exact At.ext (At.n0 (by rfl)) (Ext.refl _)
  have b2_1 : Hid (At (w3.heap.size) 1 (.slice sp2 sl2 sc2) v4) := by rw [hv4]; exact At.ext (At.n0 (by rfl)) (Ext.refl _)
  have b2_2 : Hid (At (w3.heap.size) 2 (.slice tp2 tl2 tc2) v4) := by rw [hv4]; exact At.ext (At.n0 (by rfl)) (Ext.refl _)
  have k2 : Hid (Bx 3 (w3.heap.size) v4) := by rw [hv4]; exact Bx.gr (Bx.n0 3 ⟨rfl, by decide⟩ (by decide) noI_s3) (Ext.gr (Ext.refl _))
  have u2 : Hid (w3.heap.size < v4.heap.size) := b2_0.out.2
  have e4_ : Ext w v4 := Ext.trans e3_ y4
  rw [← hv4]
  clear hv4
  have C2_0 := Lib.hid (b0_0.out.ext (x2.trans (x3.trans y4)))
  have C2_1 := Lib.hid (b0_1.out.ext (x2.trans (x3.trans y4)))
  have C2_2 := Lib.hid (b0_2.out.ext (x2.trans (x3.trans y4)))
  have CK2 := Lib.hid (k0.out.gr (x2.gr.trans (x3.gr.trans y4.gr)))
  have C5_0 := Lib.hid b2_0.out
  have C5_1 := Lib.hid b2_1.out
  have C5_2 := Lib.hid b2_2.out
  have CK5 := Lib.hid k2.out
  have FA5 := Lib.hid (o2.limbs.ext y4)
  have FU5 := Lib.hid (q2_.limbs.ext y4)
  have I0 := Lib.hid (i0.ext (y1.trans (x2.trans (x3.trans y4))))
  have EW : Hid (Ext w v4) := e4_
  obtain ⟨W4, rfl⟩ : ∃ W, W = v4 := ⟨_, rfl⟩
  obtain ⟨sb5, hsb5⟩ : ∃ s, w3.heap.size = s := ⟨_, rfl⟩
  rw [hsb5] at C5_0 C5_1 C5_2 CK5
  (try rw [hsb5])
  obtain ⟨sb2, hsb2⟩ : ∃ s, w.heap.size = s := ⟨_, rfl⟩
  rw [hsb2] at C2_0 C2_1 C2_2 CK2
  (try rw [hsb2])
  clear hsb2 hsb5
  go_loopw [7] (fun v7 wr => ∃ i : Nat, v7 = .int .i64 (i : Int) ∧ i ≤ 2 ∧ Ext W4 wr) (fun v7 _ => 2 - (intOf v7).toNat)
  case atStart => exact ⟨0, rfl, Nat.zero_le _, Ext.refl _⟩
  case round =>
    obtain ⟨i, rfl, hi, hx⟩ := hrel
    have XX := Lib.hid hx
    clear hx
    have b102_0 := Lib.hid (C2_0.out.ext XX.out)
    have b102_1 := Lib.hid (C2_1.out.ext XX.out)
    have b102_2 := Lib.hid (C2_2.out.ext XX.out)
    have k102 := Lib.hid (CK2.out.gr XX.out.gr)
    have u102 := Lib.hid b102_0.out.2
    have b105_0 := Lib.hid (C5_0.out.ext XX.out)
    have b105_1 := Lib.hid (C5_1.out.ext XX.out)
    have b105_2 := Lib.hid (C5_2.out.ext XX.out)
    have k105 := Lib.hid (CK5.out.gr XX.out.gr)
    have u105 := Lib.hid b105_0.out.2
    have fa5 := Lib.hid (FA5.out.ext XX.out)
    have fu5 := Lib.hid (FU5.out.ext XX.out)
    have i0 := I0.out.ext XX.out
    by_cases hi2 : i < 2
    · have LT := Lib.hid hi2
      have t3 : (i : Int) ≤ 1 := by omega
      clear hi
      go_wp2_with fail
      refine (HR1.out _).mono ?_
      rintro e w1 ⟨sp51, sl51, sc51, tp51, tl51, tc51, rfl, o51, q51_, x1⟩
      have e1_ : Ext W4 w1 := Ext.trans XX.out x1
      have g105_0 := (b105_0.out.ext x1).1
      have g105_1 := (b105_1.out.ext x1).1
      have g105_2 := (b105_2.out.ext x1).1
      have f105 : sb5 < w1.heap.size := (b105_0.out.ext x1).2
      go_wp2_with fail
      obtain ⟨v2, hv2⟩ : ∃ W, W = (w1.alloc (.cells #[.bool xb, .slice sp51 sl51 sc51, .slice tp51 tl51 tc51] 36)) := ⟨_, rfl⟩
      have y2 : Ext w1 v2 := by rw [hv2]; exact ((Ext.refl _).alloc _)
      have b0_0 : Hid (At (w1.heap.size) 0 (.bool xb) v2) := by rw [hv2]; exact At.ext (At.n0 (by rfl)) (Ext.refl _)
      have b0_1 : Hid (At (w1.heap.size) 1 (.slice sp51 sl51 sc51) v2) := by rw [hv2]; exact At.ext (At.n0 (by rfl)) (Ext.refl _)
      have b0_2 : Hid (At (w1.heap.size) 2 (.slice tp51 tl51 tc51) v2) := by rw [hv2]; exact At.ext (At.n0 (by rfl)) (Ext.refl _)
      have k0 : Hid (Bx 3 (w1.heap.size) v2) := by rw [hv2]; exact Bx.gr (Bx.n0 3 ⟨rfl, by decide⟩ (by decide) noI_s3) (Ext.gr (Ext.refl _))
      have u0 : Hid (w1.heap.size < v2.heap.size) := b0_0.out.2
      have e2_ : Ext W4 v2 := Ext.trans e1_ y2
      rw [← hv2]
      clear hv2
      refine (is_raw (o51.limbs.ext y2) (q51_.limbs.ext y2) (fa5.out.ext (x1.trans y2)) (fu5.out.ext (x1.trans y2)) xb xb true (by simp)).mono ?_
      rintro e w3 ⟨rfl, x3⟩
      have e3_ : Ext W4 w3 := Ext.trans e2_ x3
      have A0_0 := Lib.hid (b0_0.out.ext x3)
      have A0_1 := Lib.hid (b0_1.out.ext x3)
      have A0_2 := Lib.hid (b0_2.out.ext x3)
      have K0 := Lib.hid (k0.out.gr x3.gr)
      have Wa0 := Lib.hid (((o51.ext (y2.trans x3)).mono XX.out.size)).wr
      have La0 := Lib.hid (((o51.ext (y2.trans x3)).mono XX.out.size)).len
      have Wu0 := Lib.hid (((q51_.ext (y2.trans x3)).mono XX.out.size)).wr
      have Lu0 := Lib.hid (((q51_.ext (y2.trans x3)).mono XX.out.size)).len
      have XS : Hid (Ext W4 w3) := e3_
      have g0 := A0_0.out.1
      have g1 := A0_1.out.1
      have g2 := A0_2.out.1
      go_wp2_with fail
      refine (spoil06_calls (B := W4.heap.size) Wa0.out Wu0.out XS.out.size La0.out Lu0.out).mono ?_
      rintro e ws0 ⟨rfl, sp_⟩
      have XS : Hid (Ext W4 ws0) := Ext.below XS.out sp_.below
      clear sp_ g0 g1 g2
      go_wp2_with fail
      exact ⟨⟨i + 1, by first | rfl | go_num, LT.out, XS.out⟩, by simp [intOf]; have := LT.out; omega⟩
    · have t3 : (2 : Int) ≤ (i : Int) := by omega
      clear hi hi2
      go_wp2_with fail
      have hkeep51 : AllAt' ([(sb2, 0, .bool n0), (sb2, 1, .slice p0 A0.length q0), (sb2, 2, .slice p0' B0.length q0'), (sb5, 0, .bool xb), (sb5, 1, .slice sp2 sl2 sc2), (sb5, 2, .slice tp2 tl2 tc2)] : List (Nat × Nat × Value)) wr := AllAt'.cons b102_0.out (AllAt'.cons b102_1.out (AllAt'.cons b102_2.out (AllAt'.cons b105_0.out (AllAt'.cons b105_1.out (AllAt'.cons b105_2.out (AllAt'.nil _))))))
      have hob51 : ObOk W4.heap.size wr (([(sb2, 0, .bool n0), (sb2, 1, .slice p0 A0.length q0), (sb2, 2, .slice p0' B0.length q0'), (sb5, 0, .bool xb), (sb5, 1, .slice sp2 sl2 sc2), (sb5, 2, .slice tp2 tl2 tc2)] : List (Nat × Nat × Value)).map (·.1)) ([] : List (Nat × List (Nat × Value))) := trivial
      have hne51 : AllNe (([] : List (Nat × List (Nat × Value))).map (·.1)) := trivial
      (try simp only [List.append_eq, List.cons_append, List.nil_append])
      refine wp_region_gen ⟨[44, 45, 46, 47, 48, 49, 50, 51, 4], fun i => false, fun i => ([none, none, none, none, none, none, none, none, none] : List (Option (BoxRef × Nat))).getD i none, fun i => ([Sg.val (.agg #[.bool n0, .slice p0 A0.length q0, .slice p0' B0.length q0']), Sg.val (.string t), Sg.val (.agg #[.bool n0, .slice p0 A0.length q0, .slice p0' B0.length q0']), Sg.val (.string t), Sg.val (.bool true), Sg.val (.bool true), Sg.val (.bool true), Sg.val (.bool true), Sg.val (.bool true)] : List Sg).getD i Sg.any, [(sb2, 0, .bool n0), (sb2, 1, .slice p0 A0.length q0), (sb2, 2, .slice p0' B0.length q0'), (sb5, 0, .bool xb), (sb5, 1, .slice sp2 sl2 sc2), (sb5, 2, .slice tp2 tl2 tc2)], []⟩ W4.heap.size (by kernel_rfl) (by kernel_rfl) XX.out.size ?hfr hkeep51 hob51 hne51 ?hs ?he
      case hfr =>
        intro i v wk hi hst hv
        exact absurd hi (by simp)
      case hs =>
        refine ⟨?_, ?_, ?_, ?_, ?_, ?_, ?_, ?_, ?_, trivial⟩
        · refine RStep.op rfl rfl (fun ac wk hp K hK => ?_)
          have t2_ : ac.tmps[2]?.getD undef = .pointer (some ⟨sb2, 0, none⟩) := hp.slot 2 rfl rfl
          have c0_ := hp.cell 0 rfl
          have c1_ := hp.cell 1 rfl
          have c2_ := hp.cell 2 rfl
          have HP := Lib.hid hp
          clear hp
          go_simp
          refine hK.out _ _ ?_ (Ext.refl _) (fun h => absurd h (by simp))
          exact rfl
        · refine RStep.op rfl rfl (fun ac wk hp K hK => ?_)
          have u0e := hp.get 0 (by decide +kernel) rfl
          have t44_ : ac.tmps[44]?.getD undef = .agg #[.bool n0, .slice p0 A0.length q0, .slice p0' B0.length q0'] := slot_is' u0e
          have HP := Lib.hid hp
          clear hp
          go_simp
          refine (rshow_is (i0.gr HP.out.gr) (by decide) t HT.out).mono ?_
          rintro e wk' ⟨rfl, ix⟩
          refine hK.out _ _ ?_ ix (fun h => absurd h (by simp))
          exact rfl
        · refine RStep.op rfl rfl (fun ac wk hp K hK => ?_)
          have t2_ : ac.tmps[2]?.getD undef = .pointer (some ⟨sb2, 0, none⟩) := hp.slot 2 rfl rfl
          have c0_ := hp.cell 0 rfl
          have c1_ := hp.cell 1 rfl
          have c2_ := hp.cell 2 rfl
          have HP := Lib.hid hp
          clear hp
          go_simp
          refine hK.out _ _ ?_ (Ext.refl _) (fun h => absurd h (by simp))
          exact rfl
        · refine RStep.op rfl rfl (fun ac wk hp K hK => ?_)
          have u2e := hp.get 2 (by decide +kernel) rfl
          have t46_ : ac.tmps[46]?.getD undef = .agg #[.bool n0, .slice p0 A0.length q0, .slice p0' B0.length q0'] := slot_is' u2e
          have HP := Lib.hid hp
          clear hp
          go_simp
          refine (rshow06_is (i0.gr HP.out.gr) (by decide) t HT.out).mono ?_
          rintro e wk' ⟨rfl, ix⟩
          refine hK.out _ _ ?_ ix (fun h => absurd h (by simp))
          exact rfl
        · refine RStep.op rfl rfl (fun ac wk hp K hK => ?_)
          have u1e := hp.get 1 (by decide +kernel) rfl
          have t45_ : ac.tmps[45]?.getD undef = .string t := slot_is' u1e
          have u3e := hp.get 3 (by decide +kernel) rfl
          have t47_ : ac.tmps[47]?.getD undef = .string t := slot_is' u3e
          have HP := Lib.hid hp
          clear hp
          go_simp
          refine hK.out _ _ ?_ (Ext.refl _) (fun h => absurd h (by simp))
          exact (by first | rfl | (apply congrArg Value.bool; simp; done) | (apply congrArg Value.bool; simp; omega) | (simp [*]; done))
        · refine RStep.op rfl rfl (fun ac wk hp K hK => ?_)
          have u4e := hp.get 4 (by decide +kernel) rfl
          have t48_ : ac.tmps[48]?.getD undef = .bool true := slot_is' u4e
          have HP := Lib.hid hp
          clear hp
          go_simp
          refine hK.out _ _ ?_ (Ext.refl _) (fun h => absurd h (by simp))
          exact (by first | rfl | (apply congrArg Value.bool; simp; done) | (apply congrArg Value.bool; simp; omega) | (simp [*]; done))
        · refine RStep.yes 5 true rfl rfl (by decide +kernel) rfl rfl (fun ac wk hp K hK => ?_)
          have HP := Lib.hid hp
          clear hp
          go_simp
          refine (awake06_calls _).mono ?_
          rintro e wk' ⟨rfl, ix⟩
          refine hK.out _ _ ?_ ix (fun h => absurd h (by simp))
          exact rfl
        · refine RStep.op rfl rfl (fun ac wk hp K hK => ?_)
          have u5e := hp.get 5 (by decide +kernel) rfl
          have t49_ : ac.tmps[49]?.getD undef = .bool true := slot_is' u5e
          have u6e := hp.get 6 (by decide +kernel) rfl
          have t50_ : ac.tmps[50]?.getD undef = .bool true := slot_is' u6e
          have HP := Lib.hid hp
          clear hp
          go_simp
          refine hK.out _ _ ?_ (Ext.refl _) (fun h => absurd h (by simp))
          exact rfl
        · refine RStep.op rfl rfl (fun ac wk hp K hK => ?_)
          have u7e := hp.get 7 (by decide +kernel) rfl
          have t51_ : ac.tmps[51]?.getD undef = .bool true := slot_is' u7e
          have HP := Lib.hid hp
          clear hp
          go_simp
          refine hK.out _ _ ?_ (Ext.refl _) (fun h => absurd h (by simp))
          exact rfl
      case he =>
        intro ac v1 hM
        have y51_0e := hM.post 0 rfl rfl
        have y51_1e := hM.post 1 rfl rfl
        have y51_2e := hM.post 2 rfl rfl
        have y51_3e := hM.post 3 rfl rfl
        have y51_4e := hM.post 4 rfl rfl
        have y51_5e := hM.post 5 rfl rfl
        have y51_6e := hM.post 6 rfl rfl
        have y51_7e := hM.post 7 rfl rfl
        have y51_8e := hM.post 8 rfl rfl
        have b102_0 : Hid (At (sb2) 0 (.bool n0) v1) := Lib.hid (hM.keep.at 0 rfl)
        have b102_1 : Hid (At (sb2) 1 (.slice p0 A0.length q0) v1) := Lib.hid (hM.keep.at 1 rfl)
        have b102_2 : Hid (At (sb2) 2 (.slice p0' B0.length q0') v1) := Lib.hid (hM.keep.at 2 rfl)
        have b105_0 : Hid (At (sb5) 0 (.bool xb) v1) := Lib.hid (hM.keep.at 3 rfl)
        have b105_1 : Hid (At (sb5) 1 (.slice sp2 sl2 sc2) v1) := Lib.hid (hM.keep.at 4 rfl)
        have b105_2 : Hid (At (sb5) 2 (.slice tp2 tl2 tc2) v1) := Lib.hid (hM.keep.at 5 rfl)
        have gv1 : Gr wr v1 := hM.gr
        have e1_ : Ext W4 v1 := Ext.below XX.out hM.blw
        have z0_ : sl ac 44 = .agg #[.bool n0, .slice p0 A0.length q0, .slice p0' B0.length q0'] := y51_0e
        have z1_ : sl ac 45 = .string t := y51_1e
        have z2_ : sl ac 46 = .agg #[.bool n0, .slice p0 A0.length q0, .slice p0' B0.length q0'] := y51_2e
        have z3_ : sl ac 47 = .string t := y51_3e
        have z4_ : sl ac 48 = .bool true := y51_4e
        have z5_ : sl ac 49 = .bool true := y51_5e
        have z6_ : sl ac 50 = .bool true := y51_6e
        have z7_ : sl ac 51 = .bool true := y51_7e
        have z8_ : sl ac 4 = .bool true := y51_8e
        rw [hM.ag.lay]
        simp only [lay, List.foldl_cons, List.foldl_nil, List.setIfInBounds_toArray, List.set_cons_zero, List.set_cons_succ, z0_, z1_, z2_, z3_, z4_, z5_, z6_, z7_, z8_]
        clear hM hkeep51 hob51 hne51 z0_ z1_ z2_ z3_ z4_ z5_ z6_ z7_ z8_ y51_0e y51_1e y51_2e y51_3e y51_4e y51_5e y51_6e y51_7e y51_8e
        go_wp2_with fail
        go_ret
        exact ⟨rfl, EW.out.trans e1_⟩

theorem ratTexts_calls {w : World} {v0 u0 : Value} {A0 B0 : List Nat} (h0 : Limbs w v0 A0) (g0 : Limbs w u0 B0) (n0 : Bool) (s : ByteArray) (hs : s.size ≤ maxLen) :
    Calls Tryz.prog 5 #[.agg #[.bool n0, v0, u0], .string s] w (Yes w) := by
  obtain ⟨lb, hlb⟩ : ∃ b, longR [(n0, A0, B0)] = b := ⟨_, rfl⟩
  cases lb with
  | true => exact ratTexts_out h0 g0 n0 s hlb
  | false =>
    by_cases h : 300 < s.size
    · exact ratTexts_len h0 g0 n0 s hlb hs h
    · exact ratTexts_main h0 g0 n0 s hlb (by omega)
end Go.Proofs.YtaklejkdmfgplaaGreatDoor
