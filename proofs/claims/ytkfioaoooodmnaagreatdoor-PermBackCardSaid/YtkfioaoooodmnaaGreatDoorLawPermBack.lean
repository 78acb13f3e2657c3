/- PermBack answers true at all draws and rows. -/
import Derived.Test.YtkfioaoooodmnaaGreatDoorPartI
namespace Go.Proofs.YtkfioaoooodmnaaGreatDoor
open Go Go.RowKit

set_option maxHeartbeats 8000000 in
set_option maxRecDepth 100000 in
theorem permBack_long1 {w : World} {v u : Value} {D R : List Int} (hD : Ints w v D) (hR : Ints w u R) (h : 200 < D.length) :
    Calls Tryz.prog 9 #[v, u] w (Yes w) := by
  obtain ⟨pd, cd, rfl⟩ := hD.slice
  obtain ⟨pr, cr, rfl⟩ := hR.slice
  have Hd := Lib.hid hD
  have Hr := Lib.hid hR
  clear hD hR
  have t1 : (201 : Int) ≤ D.length := by omega
  clear h
  go_enter Tryz.func9, Tryz.ntmps9
  go_wp2_with fail
  refine (awake12_calls _).mono ?_
  rintro e w1 ⟨rfl, x1⟩
  have e1_ : Ext w w1 := Ext.trans (Ext.refl w) x1
  go_wp2_with fail
  go_ret
  exact ⟨rfl, e1_⟩

set_option maxHeartbeats 8000000 in
set_option maxRecDepth 100000 in
theorem permBack_long2 {w : World} {v u : Value} {D R : List Int} (hD : Ints w v D) (hR : Ints w u R) (h0 : D.length ≤ 200) (h : 200 < R.length) :
    Calls Tryz.prog 9 #[v, u] w (Yes w) := by
  obtain ⟨pd, cd, rfl⟩ := hD.slice
  obtain ⟨pr, cr, rfl⟩ := hR.slice
  have Hd := Lib.hid hD
  have Hr := Lib.hid hR
  clear hD hR
  have t1 : (201 : Int) ≤ R.length := by omega
  have t2 : (D.length : Int) ≤ 200 := by omega
  clear h h0
  go_enter Tryz.func9, Tryz.ntmps9
  go_wp2_with fail
  refine (awake12_calls _).mono ?_
  rintro e w1 ⟨rfl, x1⟩
  have e1_ : Ext w w1 := Ext.trans (Ext.refl w) x1
  go_wp2_with fail
  go_ret
  exact ⟨rfl, e1_⟩

set_option maxHeartbeats 8000000 in
set_option maxRecDepth 100000 in
theorem permBack_ok_ok {w : World} {v u : Value} {D R : List Int} (hD : Ints w v D) (hR : Ints w u R) (h0 : D.length ≤ 200) (h : R.length ≤ 200) (hd : errP D = 0) (hr : errR12 R = 0) (hr1 : 1 ≤ R.length) :
    Calls Tryz.prog 9 #[v, u] w (Yes w) := by
  obtain ⟨pd, cd, rfl⟩ := hD.slice
  obtain ⟨pr, cr, rfl⟩ := hR.slice
  have Hd := Lib.hid hD
  have Hr := Lib.hid hR
  clear hD hR
  have t1 : (R.length : Int) ≤ 200 := by omega
  have t2 : (D.length : Int) ≤ 200 := by omega
  have HE := Lib.hid hd
  have B1 := Lib.hid (back1 hd).1
  have B2 := Lib.hid (back1 hd).2
  have HF := Lib.hid hr
  have C1 := Lib.hid (back2 hr hr1).1
  have C2 := Lib.hid (back2 hr hr1).2
  have t4 : ((R.length : Int) == 0) = false := by rw [beq_eq_false_iff_ne]; omega
  obtain ⟨Q, hQ⟩ : ∃ Q, intsOf (drawsF R (R.length - 1) (things R.length)) = Q := ⟨_, rfl⟩
  rw [hQ] at C1 C2
  have HQ := Lib.hid hQ
  clear h h0 hd hr hr1 hQ
  go_enter Tryz.func9, Tryz.ntmps9
  go_wp2_with fail
  refine (awake12_calls _).mono ?_
  rintro e w1 ⟨rfl, x1⟩
  have e1_ : Ext w w1 := Ext.trans (Ext.refl w) x1
  go_wp2_with fail
  refine (prow_z (Hd.out.ext x1) HE.out).mono ?_
  rintro e w2 ⟨zr2, rfl, zo2, x2⟩
  have e2_ : Ext w w2 := Ext.trans e1_ x2
  obtain ⟨zp2, zc2, rfl⟩ := zo2.slice
  go_wp2_with fail
  refine (pdraws_zl zo2.ints B1.out B2.out).mono ?_
  rintro e w3 ⟨zr3, rfl, zo3, x3⟩
  have e3_ : Ext w w3 := Ext.trans e2_ x3
  obtain ⟨zp3, zc3, rfl⟩ := zo3.slice
  go_wp2_with fail
  refine (same12_calls zo3.ints (Hd.out.ext (x1.trans (x2.trans x3))) true (by simp)).mono ?_
  rintro e w4 ⟨rfl, x4⟩
  have e4_ : Ext w w4 := Ext.trans e3_ x4
  go_wp2_with fail
  refine (pdraws_zl (Hr.out.ext (x1.trans (x2.trans (x3.trans x4)))) HF.out HQ.out).mono ?_
  rintro e w5 ⟨zr5, rfl, zo5, x5⟩
  have e5_ : Ext w w5 := Ext.trans e4_ x5
  obtain ⟨zp5, zc5, rfl⟩ := zo5.slice
  go_wp2_with fail
  refine (prow_zl zo5.ints C1.out C2.out).mono ?_
  rintro e w6 ⟨zr6, rfl, zo6, x6⟩
  have e6_ : Ext w w6 := Ext.trans e5_ x6
  obtain ⟨zp6, zc6, rfl⟩ := zo6.slice
  go_wp2_with fail
  refine (same12_calls zo6.ints (Hr.out.ext (x1.trans (x2.trans (x3.trans (x4.trans (x5.trans x6)))))) true (by simp)).mono ?_
  rintro e w7 ⟨rfl, x7⟩
  have e7_ : Ext w w7 := Ext.trans e6_ x7
  go_wp2_with fail
  go_ret
  exact ⟨rfl, e7_⟩

set_option maxHeartbeats 8000000 in
set_option maxRecDepth 100000 in
theorem permBack_ok_none {w : World} {v u : Value} {D R : List Int} (hD : Ints w v D) (hR : Ints w u R) (h0 : D.length ≤ 200) (h : R.length ≤ 200) (hd : errP D = 0) (hr : R = []) :
    Calls Tryz.prog 9 #[v, u] w (Yes w) := by
  obtain ⟨pd, cd, rfl⟩ := hD.slice
  obtain ⟨pr, cr, rfl⟩ := hR.slice
  have Hd := Lib.hid hD
  have Hr := Lib.hid hR
  clear hD hR
  have t1 : (R.length : Int) ≤ 200 := by omega
  have t2 : (D.length : Int) ≤ 200 := by omega
  have HE := Lib.hid hd
  have B1 := Lib.hid (back1 hd).1
  have B2 := Lib.hid (back1 hd).2
  subst hr
  have HF : Hid (errR12 [] = 0) := errR12_of (by decide) (by decide)
  have HQ : Hid (intsOf (drawsF [] (([] : List Int).length - 1) (things ([] : List Int).length)) = []) := rfl
  clear h h0 hd
  go_enter Tryz.func9, Tryz.ntmps9
  go_wp2_with fail
  refine (awake12_calls _).mono ?_
  rintro e w1 ⟨rfl, x1⟩
  have e1_ : Ext w w1 := Ext.trans (Ext.refl w) x1
  go_wp2_with fail
  refine (prow_z (Hd.out.ext x1) HE.out).mono ?_
  rintro e w2 ⟨zr2, rfl, zo2, x2⟩
  have e2_ : Ext w w2 := Ext.trans e1_ x2
  obtain ⟨zp2, zc2, rfl⟩ := zo2.slice
  go_wp2_with fail
  refine (pdraws_zl zo2.ints B1.out B2.out).mono ?_
  rintro e w3 ⟨zr3, rfl, zo3, x3⟩
  have e3_ : Ext w w3 := Ext.trans e2_ x3
  obtain ⟨zp3, zc3, rfl⟩ := zo3.slice
  go_wp2_with fail
  refine (same12_calls zo3.ints (Hd.out.ext (x1.trans (x2.trans x3))) true (by simp)).mono ?_
  rintro e w4 ⟨rfl, x4⟩
  have e4_ : Ext w w4 := Ext.trans e3_ x4
  go_wp2_with fail
  refine (pdraws_zl (Hr.out.ext (x1.trans (x2.trans (x3.trans x4)))) HF.out HQ.out).mono ?_
  rintro e w5 ⟨zr5, rfl, zo5, x5⟩
  have e5_ : Ext w w5 := Ext.trans e4_ x5
  obtain ⟨zp5, zc5, rfl⟩ := zo5.slice
  go_wp2_with fail
  go_ret
  exact ⟨rfl, e5_⟩

set_option maxHeartbeats 8000000 in
set_option maxRecDepth 100000 in
theorem permBack_ok_no {w : World} {v u : Value} {D R : List Int} (hD : Ints w v D) (hR : Ints w u R) (h0 : D.length ≤ 200) (h : R.length ≤ 200) (hd : errP D = 0) (kr : Nat) (hr : errR12 R = kr) (hkr : kr ≠ 0) :
    Calls Tryz.prog 9 #[v, u] w (Yes w) := by
  obtain ⟨pd, cd, rfl⟩ := hD.slice
  obtain ⟨pr, cr, rfl⟩ := hR.slice
  have Hd := Lib.hid hD
  have Hr := Lib.hid hR
  clear hD hR
  have t1 : (R.length : Int) ≤ 200 := by omega
  have t2 : (D.length : Int) ≤ 200 := by omega
  have HE := Lib.hid hd
  have B1 := Lib.hid (back1 hd).1
  have B2 := Lib.hid (back1 hd).2
  have HF := Lib.hid hr
  have HKR := Lib.hid hkr
  have t4 : ((kr : Int) != 0) = true := by rw [bne_iff_ne]; omega
  clear h h0 hd hr hkr
  go_enter Tryz.func9, Tryz.ntmps9
  go_wp2_with fail
  refine (awake12_calls _).mono ?_
  rintro e w1 ⟨rfl, x1⟩
  have e1_ : Ext w w1 := Ext.trans (Ext.refl w) x1
  go_wp2_with fail
  refine (prow_z (Hd.out.ext x1) HE.out).mono ?_
  rintro e w2 ⟨zr2, rfl, zo2, x2⟩
  have e2_ : Ext w w2 := Ext.trans e1_ x2
  obtain ⟨zp2, zc2, rfl⟩ := zo2.slice
  go_wp2_with fail
  refine (pdraws_zl zo2.ints B1.out B2.out).mono ?_
  rintro e w3 ⟨zr3, rfl, zo3, x3⟩
  have e3_ : Ext w w3 := Ext.trans e2_ x3
  obtain ⟨zp3, zc3, rfl⟩ := zo3.slice
  go_wp2_with fail
  refine (same12_calls zo3.ints (Hd.out.ext (x1.trans (x2.trans x3))) true (by simp)).mono ?_
  rintro e w4 ⟨rfl, x4⟩
  have e4_ : Ext w w4 := Ext.trans e3_ x4
  go_wp2_with fail
  refine (pdraws_no (Hr.out.ext (x1.trans (x2.trans (x3.trans x4)))) kr HF.out HKR.out).mono ?_
  rintro e w5 ⟨rfl, x5⟩
  have e5_ : Ext w w5 := Ext.trans e4_ x5
  go_wp2_with fail
  go_ret
  exact ⟨rfl, e5_⟩

set_option maxHeartbeats 8000000 in
set_option maxRecDepth 100000 in
theorem permBack_no_ok {w : World} {v u : Value} {D R : List Int} (hD : Ints w v D) (hR : Ints w u R) (h0 : D.length ≤ 200) (h : R.length ≤ 200) (kd : Nat) (hd : errP D = kd) (hk : kd ≠ 0) (hr : errR12 R = 0) (hr1 : 1 ≤ R.length) :
    Calls Tryz.prog 9 #[v, u] w (Yes w) := by
  obtain ⟨pd, cd, rfl⟩ := hD.slice
  obtain ⟨pr, cr, rfl⟩ := hR.slice
  have Hd := Lib.hid hD
  have Hr := Lib.hid hR
  clear hD hR
  have t1 : (R.length : Int) ≤ 200 := by omega
  have t2 : (D.length : Int) ≤ 200 := by omega
  have HE := Lib.hid hd
  have HK := Lib.hid hk
  have t3 : ((kd : Int) == 0) = false := by rw [beq_eq_false_iff_ne]; omega
  have HF := Lib.hid hr
  have C1 := Lib.hid (back2 hr hr1).1
  have C2 := Lib.hid (back2 hr hr1).2
  have t4 : ((R.length : Int) == 0) = false := by rw [beq_eq_false_iff_ne]; omega
  obtain ⟨Q, hQ⟩ : ∃ Q, intsOf (drawsF R (R.length - 1) (things R.length)) = Q := ⟨_, rfl⟩
  rw [hQ] at C1 C2
  have HQ := Lib.hid hQ
  clear h h0 hd hk hr hr1 hQ
  go_enter Tryz.func9, Tryz.ntmps9
  go_wp2_with fail
  refine (awake12_calls _).mono ?_
  rintro e w1 ⟨rfl, x1⟩
  have e1_ : Ext w w1 := Ext.trans (Ext.refl w) x1
  go_wp2_with fail
  refine (prow_no (Hd.out.ext x1) kd HE.out HK.out).mono ?_
  rintro e w2 ⟨rfl, x2⟩
  have e2_ : Ext w w2 := Ext.trans e1_ x2
  go_wp2_with fail
  refine (pdraws_zl (Hr.out.ext (x1.trans x2)) HF.out HQ.out).mono ?_
  rintro e w3 ⟨zr3, rfl, zo3, x3⟩
  have e3_ : Ext w w3 := Ext.trans e2_ x3
  obtain ⟨zp3, zc3, rfl⟩ := zo3.slice
  go_wp2_with fail
  refine (prow_zl zo3.ints C1.out C2.out).mono ?_
  rintro e w4 ⟨zr4, rfl, zo4, x4⟩
  have e4_ : Ext w w4 := Ext.trans e3_ x4
  obtain ⟨zp4, zc4, rfl⟩ := zo4.slice
  go_wp2_with fail
  refine (same12_calls zo4.ints (Hr.out.ext (x1.trans (x2.trans (x3.trans x4)))) true (by simp)).mono ?_
  rintro e w5 ⟨rfl, x5⟩
  have e5_ : Ext w w5 := Ext.trans e4_ x5
  go_wp2_with fail
  go_ret
  exact ⟨rfl, e5_⟩

set_option maxHeartbeats 8000000 in
set_option maxRecDepth 100000 in
theorem permBack_no_none {w : World} {v u : Value} {D R : List Int} (hD : Ints w v D) (hR : Ints w u R) (h0 : D.length ≤ 200) (h : R.length ≤ 200) (kd : Nat) (hd : errP D = kd) (hk : kd ≠ 0) (hr : R = []) :
    Calls Tryz.prog 9 #[v, u] w (Yes w) := by
  obtain ⟨pd, cd, rfl⟩ := hD.slice
  obtain ⟨pr, cr, rfl⟩ := hR.slice
  have Hd := Lib.hid hD
  have Hr := Lib.hid hR
  clear hD hR
  have t1 : (R.length : Int) ≤ 200 := by omega
  have t2 : (D.length : Int) ≤ 200 := by omega
  have HE := Lib.hid hd
  have HK := Lib.hid hk
  have t3 : ((kd : Int) == 0) = false := by rw [beq_eq_false_iff_ne]; omega
  subst hr
  have HF : Hid (errR12 [] = 0) := errR12_of (by decide) (by decide)
  have HQ : Hid (intsOf (drawsF [] (([] : List Int).length - 1) (things ([] : List Int).length)) = []) := rfl
  clear h h0 hd hk
  go_enter Tryz.func9, Tryz.ntmps9
  go_wp2_with fail
  refine (awake12_calls _).mono ?_
  rintro e w1 ⟨rfl, x1⟩
  have e1_ : Ext w w1 := Ext.trans (Ext.refl w) x1
  go_wp2_with fail
  refine (prow_no (Hd.out.ext x1) kd HE.out HK.out).mono ?_
  rintro e w2 ⟨rfl, x2⟩
  have e2_ : Ext w w2 := Ext.trans e1_ x2
  go_wp2_with fail
  refine (pdraws_zl (Hr.out.ext (x1.trans x2)) HF.out HQ.out).mono ?_
  rintro e w3 ⟨zr3, rfl, zo3, x3⟩
  have e3_ : Ext w w3 := Ext.trans e2_ x3
  obtain ⟨zp3, zc3, rfl⟩ := zo3.slice
  go_wp2_with fail
  go_ret
  exact ⟨rfl, e3_⟩

set_option maxHeartbeats 8000000 in
set_option maxRecDepth 100000 in
theorem permBack_no_no {w : World} {v u : Value} {D R : List Int} (hD : Ints w v D) (hR : Ints w u R) (h0 : D.length ≤ 200) (h : R.length ≤ 200) (kd : Nat) (hd : errP D = kd) (hk : kd ≠ 0) (kr : Nat) (hr : errR12 R = kr) (hkr : kr ≠ 0) :
    Calls Tryz.prog 9 #[v, u] w (Yes w) := by
  obtain ⟨pd, cd, rfl⟩ := hD.slice
  obtain ⟨pr, cr, rfl⟩ := hR.slice
  have Hd := Lib.hid hD
  have Hr := Lib.hid hR
  clear hD hR
  have t1 : (R.length : Int) ≤ 200 := by omega
  have t2 : (D.length : Int) ≤ 200 := by omega
  have HE := Lib.hid hd
  have HK := Lib.hid hk
  have t3 : ((kd : Int) == 0) = false := by rw [beq_eq_false_iff_ne]; omega
  have HF := Lib.hid hr
  have HKR := Lib.hid hkr
  have t4 : ((kr : Int) != 0) = true := by rw [bne_iff_ne]; omega
  clear h h0 hd hk hr hkr
  go_enter Tryz.func9, Tryz.ntmps9
  go_wp2_with fail
  refine (awake12_calls _).mono ?_
  rintro e w1 ⟨rfl, x1⟩
  have e1_ : Ext w w1 := Ext.trans (Ext.refl w) x1
  go_wp2_with fail
  refine (prow_no (Hd.out.ext x1) kd HE.out HK.out).mono ?_
  rintro e w2 ⟨rfl, x2⟩
  have e2_ : Ext w w2 := Ext.trans e1_ x2
  go_wp2_with fail
  refine (pdraws_no (Hr.out.ext (x1.trans x2)) kr HF.out HKR.out).mono ?_
  rintro e w3 ⟨rfl, x3⟩
  have e3_ : Ext w w3 := Ext.trans e2_ x3
  go_wp2_with fail
  go_ret
  exact ⟨rfl, e3_⟩

theorem permBack_calls {w : World} {v u : Value} {D R : List Int} (hD : Ints w v D) (hR : Ints w u R) :
    Calls Tryz.prog 9 #[v, u] w (Yes w) := by
  by_cases h0 : D.length ≤ 200
  case neg => exact permBack_long1 hD hR (by omega)
  by_cases h : R.length ≤ 200
  case neg => exact permBack_long2 hD hR h0 (by omega)
  by_cases hd : errP D = 0
  · by_cases hr : errR12 R = 0
    · rcases Nat.eq_zero_or_pos R.length with h1 | h1
      · exact permBack_ok_none hD hR h0 h hd (List.length_eq_zero_iff.1 h1)
      · exact permBack_ok_ok hD hR h0 h hd hr h1
    · exact permBack_ok_no hD hR h0 h hd _ rfl hr
  · by_cases hr : errR12 R = 0
    · rcases Nat.eq_zero_or_pos R.length with h1 | h1
      · exact permBack_no_none hD hR h0 h _ rfl hd (List.length_eq_zero_iff.1 h1)
      · exact permBack_no_ok hD hR h0 h _ rfl hd hr h1
    · exact permBack_no_no hD hR h0 h _ rfl hd _ rfl hr
end Go.Proofs.YtkfioaoooodmnaaGreatDoor
