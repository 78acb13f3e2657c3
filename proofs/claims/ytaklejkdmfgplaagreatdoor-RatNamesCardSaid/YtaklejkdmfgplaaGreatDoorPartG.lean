/- Facts and contracts, joined: Awake06. -/
import Derived.Test.YtaklejkdmfgplaaGreatDoorPartF

/- awake of chapter 06 answers true. -/
namespace Go.Proofs.YtaklejkdmfgplaaGreatDoor
open Go Go.RowKit

theorem own_may {w : World} {b n : Bool} {v u : Value} {m d : Nat} {q z : Rat} {A B : List Nat} (h : IsR w b v u m d q) (hq : q = z) (hm : decide (val B ≠ 0 ∧ decide (z.num < 0) = n ∧ dig z.num.natAbs = A ∧ dig z.den = B) = true) : decide (b = n ∧ dig m = A ∧ dig d = B) = true := by
  subst hq
  obtain ⟨-, h2, h3, h4⟩ := decide_eq_true_eq.mp hm
  rw [decide_eq_true_eq, ← h.1, ← h.2.1, ← h.2.2.1]
  exact ⟨h2, h3, h4⟩
theorem mk_lowest {z : Int} {d : Nat} (h0 : d ≠ 0) (hg : Nat.gcd z.natAbs d = 1) : (mkRat z d).num = z ∧ (mkRat z d).den = d := by
  rw [mk_num h0, mk_den h0, hg]; simp
/-- the text of a fraction, held against its bytes -/
theorem showR_of {q : Rat} {l : List UInt8} (h : errQ l = 0) (hq : readQ l = q) : l = showR q := by
  unfold readQ at hq
  rw [if_neg (by simp [h])] at hq
  unfold errQ at h
  rcases indexByte_range l 47 with hi | ⟨i, hi, hl⟩
  · rw [if_pos hi] at h hq
    subst hq
    unfold showR
    rw [Rat.num_intCast, Rat.den_intCast, if_pos rfl, List.append_nil, back_show h]
  · rw [if_neg (by omega), hi] at h hq
    simp only [Int.toNat_natCast] at h hq
    by_cases h1 : errI (l.take i) ≠ 0
    · rw [if_pos h1] at h; exact absurd h h1
    rw [if_neg h1] at h
    by_cases h2 : errR (l.drop (i + 1)) ≠ 0
    · rw [if_pos h2] at h; exact absurd h h2
    rw [if_neg h2] at h
    split at h
    · rename_i h3
      obtain ⟨e1, e2⟩ := mk_lowest h3.2.1 h3.2.2
      subst hq
      unfold showR
      rw [e1, e2, if_neg h3.1, back_show (by omega), show_read (by omega)]
      have h47 := (Lib.indexByte_some hi).1
      obtain ⟨_, h47⟩ := List.getElem?_eq_some_iff.1 h47
      rw [← h47, List.getElem_cons_drop, List.take_append_drop]
    · omega

set_option maxHeartbeats 8000000 in
set_option maxRecDepth 100000 in
theorem awake06_calls (w : World) : Calls Tryz.prog 23 #[] w fun e w' => e = .returned (.bool true) ∧ Ext w w' := by
  go_enter Tryz.func23, Tryz.ntmps23
  go_wp2_with fail
  obtain ⟨v1, hv1⟩ : ∃ W, W = ((w.alloc (.cells #[.int .u64 4] 54)).alloc (.cells #[.int .u64 6] 54)) := ⟨_, rfl⟩
  have y1 : Ext w v1 := by rw [hv1]; exact (((Ext.refl _).alloc _).alloc _)
  have r0 : Hid (Limbs v1 (.slice (some ⟨w.heap.size, 0, none⟩) 1 1) [4]) := by rw [hv1]; exact (lit_n0 [4] (by decide) rfl 1 rfl (by decide)).ext ((Ext.refl _).alloc _)
  have r1 : Hid (Limbs v1 (.slice (some ⟨w.heap.size + 1, 0, none⟩) 1 1) [6]) := by rw [hv1]; exact (lit_n1 [6] (by decide) rfl 1 rfl (by decide)).ext (Ext.refl _)
  have e1_ : Ext w v1 := y1
  rw [← hv1]
  clear hv1
  refine (rmake_is (q := (mkRat 2 3)) (inI_mk (lit_in r0.out) false) (lit_in r1.out) (by decide) (by decide) (by decide) (by decide +kernel)).mono ?_
  rintro e w2 ⟨sb1, sv1, su1, sm1, sd1, rfl, e1, o1, x2⟩
  have e2_ : Ext w w2 := Ext.trans e1_ x2
  obtain ⟨sp1, sl1, sc1, tp1, tl1, tc1, rfl, rfl⟩ := e1.slice
  go_wp2_with fail
  obtain ⟨v3, hv3⟩ : ∃ W, W = ((w2.alloc (.cells #[.bool sb1, .slice sp1 sl1 sc1, .slice tp1 tl1 tc1] 36)).alloc (.cells #[.int .u64 5] 54)) := ⟨_, rfl⟩
  have y3 : Ext w2 v3 := by rw [hv3]; exact (((Ext.refl _).alloc _).alloc _)
  have b2_0 : Hid (At (w2.heap.size) 0 (.bool sb1) v3) := by rw [hv3]; exact At.ext (At.n0 (by rfl)) ((Ext.refl _).alloc _)
  have b2_1 : Hid (At (w2.heap.size) 1 (.slice sp1 sl1 sc1) v3) := by rw [hv3]; exact At.ext (At.n0 (by rfl)) ((Ext.refl _).alloc _)
  have b2_2 : Hid (At (w2.heap.size) 2 (.slice tp1 tl1 tc1) v3) := by rw [hv3]; exact At.ext (At.n0 (by rfl)) ((Ext.refl _).alloc _)
  have k2 : Hid (Bx 3 (w2.heap.size) v3) := by rw [hv3]; exact Bx.gr (Bx.n0 3 ⟨rfl, by decide⟩ (by decide) noI_s3) (Ext.gr ((Ext.refl _).alloc _))
  have u2 : Hid (w2.heap.size < v3.heap.size) := b2_0.out.2
  have r3 : Hid (Limbs v3 (.slice (some ⟨w2.heap.size + 1, 0, none⟩) 1 1) [5]) := by rw [hv3]; exact (lit_n1 [5] (by decide) rfl 1 rfl (by decide)).ext (Ext.refl _)
  have e3_ : Ext w v3 := Ext.trans e2_ y3
  rw [← hv3]
  clear hv3
  refine (rmake_is (q := (0 : Rat)) (inI_mk (inN_nil _) true) (lit_in r3.out) (by decide) (by decide) (by decide) (by decide +kernel)).mono ?_
  rintro e w4 ⟨sb2, sv2, su2, sm2, sd2, rfl, e2, o2, x4⟩
  have e4_ : Ext w w4 := Ext.trans e3_ x4
  obtain ⟨sp2, sl2, sc2, tp2, tl2, tc2, rfl, rfl⟩ := e2.slice
  go_wp2_with fail
  obtain ⟨v5, hv5⟩ : ∃ W, W = ((w4.alloc (.cells #[.bool sb2, .slice sp2 sl2 sc2, .slice tp2 tl2 tc2] 36)).alloc (.cells #[.int .u64 1] 54)) := ⟨_, rfl⟩
  have y5 : Ext w4 v5 := by rw [hv5]; exact (((Ext.refl _).alloc _).alloc _)
  have b4_0 : Hid (At (w4.heap.size) 0 (.bool sb2) v5) := by rw [hv5]; exact At.ext (At.n0 (by rfl)) ((Ext.refl _).alloc _)
  have b4_1 : Hid (At (w4.heap.size) 1 (.slice sp2 sl2 sc2) v5) := by rw [hv5]; exact At.ext (At.n0 (by rfl)) ((Ext.refl _).alloc _)
  have b4_2 : Hid (At (w4.heap.size) 2 (.slice tp2 tl2 tc2) v5) := by rw [hv5]; exact At.ext (At.n0 (by rfl)) ((Ext.refl _).alloc _)
  have k4 : Hid (Bx 3 (w4.heap.size) v5) := by rw [hv5]; exact Bx.gr (Bx.n0 3 ⟨rfl, by decide⟩ (by decide) noI_s3) (Ext.gr ((Ext.refl _).alloc _))
  have u4 : Hid (w4.heap.size < v5.heap.size) := b4_0.out.2
  have r5 : Hid (Limbs v5 (.slice (some ⟨w4.heap.size + 1, 0, none⟩) 1 1) [1]) := by rw [hv5]; exact (lit_n1 [1] (by decide) rfl 1 rfl (by decide)).ext (Ext.refl _)
  have e5_ : Ext w v5 := Ext.trans e4_ y5
  rw [← hv5]
  clear hv5
  refine (rmake_zero (inI_mk (lit_in r5.out) false) (inN_nil _) rfl (by decide) (by decide)).mono ?_
  rintro e w6 ⟨rfl, x6⟩
  have e6_ : Ext w w6 := Ext.trans e5_ x6
  go_wp2_with fail
  obtain ⟨v7, hv7⟩ : ∃ W, W = (w6.alloc (.cells #[.bool false, .slice none 0 0, .slice none 0 0] 36)) := ⟨_, rfl⟩
  have y7 : Ext w6 v7 := by rw [hv7]; exact ((Ext.refl _).alloc _)
  have b6_0 : Hid (At (w6.heap.size) 0 (.bool false) v7) := by rw [hv7]; exact At.ext (At.n0 (by rfl)) (Ext.refl _)
  have b6_1 : Hid (At (w6.heap.size) 1 (.slice none 0 0) v7) := by rw [hv7]; exact At.ext (At.n0 (by rfl)) (Ext.refl _)
  have b6_2 : Hid (At (w6.heap.size) 2 (.slice none 0 0) v7) := by rw [hv7]; exact At.ext (At.n0 (by rfl)) (Ext.refl _)
  have k6 : Hid (Bx 3 (w6.heap.size) v7) := by rw [hv7]; exact Bx.gr (Bx.n0 3 ⟨rfl, by decide⟩ (by decide) noI_s3) (Ext.gr (Ext.refl _))
  have u6 : Hid (w6.heap.size < v7.heap.size) := b6_0.out.2
  have e7_ : Ext w v7 := Ext.trans e6_ y7
  rw [← hv7]
  clear hv7
  refine (lover_is (q := (mkRat 1 2)) _ 1 2 (by decide) (by decide) (by decide) (by decide) (by decide) (by decide +kernel)).mono ?_
  rintro e w8 ⟨sb4, sv4, su4, sm4, sd4, rfl, e4, o4, x8⟩
  have e8_ : Ext w w8 := Ext.trans e7_ x8
  obtain ⟨sp4, sl4, sc4, tp4, tl4, tc4, rfl, rfl⟩ := e4.slice
  go_wp2_with fail
  refine (rof_is _ 0 (by decide) (by decide)).mono ?_
  rintro e w9 ⟨sb5, sv5, su5, sm5, sd5, rfl, e5, o5, x9⟩
  have e9_ : Ext w w9 := Ext.trans e8_ x9
  obtain ⟨sp5, sl5, sc5, tp5, tl5, tc5, rfl, rfl⟩ := e5.slice
  go_wp2_with fail
  refine (rquo_zero ((e4.ext x9).inR (k := 1) (lenR_over (n := 1) (d := 2) (q := (mkRat 1 2)) (by decide) (by decide) (by decide) (by decide) (by decide +kernel))) (e5.inR (k := 1) (LenR.int (LenI.small (by have h1 : (-9223372036854775808 : Int) ≤ 0 := (by decide); have h2 : 0 ≤ (9223372036854775807 : Int) := (by decide); omega)) (by decide))) (by decide) (by decide +kernel)).mono ?_
  rintro e w10 ⟨rfl, x10⟩
  have e10_ : Ext w w10 := Ext.trans e9_ x10
  go_wp2_with fail
  obtain ⟨v11, hv11⟩ : ∃ W, W = (w10.alloc (.cells #[.bool false, .slice none 0 0, .slice none 0 0] 36)) := ⟨_, rfl⟩
  have y11 : Ext w10 v11 := by rw [hv11]; exact ((Ext.refl _).alloc _)
  have b7_0 : Hid (At (w10.heap.size) 0 (.bool false) v11) := by rw [hv11]; exact At.ext (At.n0 (by rfl)) (Ext.refl _)
  have b7_1 : Hid (At (w10.heap.size) 1 (.slice none 0 0) v11) := by rw [hv11]; exact At.ext (At.n0 (by rfl)) (Ext.refl _)
  have b7_2 : Hid (At (w10.heap.size) 2 (.slice none 0 0) v11) := by rw [hv11]; exact At.ext (At.n0 (by rfl)) (Ext.refl _)
  have k7 : Hid (Bx 3 (w10.heap.size) v11) := by rw [hv11]; exact Bx.gr (Bx.n0 3 ⟨rfl, by decide⟩ (by decide) noI_s3) (Ext.gr (Ext.refl _))
  have u7 : Hid (w10.heap.size < v11.heap.size) := b7_0.out.2
  have e11_ : Ext w v11 := Ext.trans e10_ y11
  rw [← hv11]
  clear hv11
  refine (rread_err ⟨#[50, 47, 52]⟩ _ (by decide) 3 (by decide +kernel) (by decide)).mono ?_
  rintro e w12 ⟨rfl, x12⟩
  have e12_ : Ext w w12 := Ext.trans e11_ x12
  go_wp2_with fail
  obtain ⟨v13, hv13⟩ : ∃ W, W = (w12.alloc (.cells #[.bool false, .slice none 0 0, .slice none 0 0] 36)) := ⟨_, rfl⟩
  have y13 : Ext w12 v13 := by rw [hv13]; exact ((Ext.refl _).alloc _)
  have b8_0 : Hid (At (w12.heap.size) 0 (.bool false) v13) := by rw [hv13]; exact At.ext (At.n0 (by rfl)) (Ext.refl _)
  have b8_1 : Hid (At (w12.heap.size) 1 (.slice none 0 0) v13) := by rw [hv13]; exact At.ext (At.n0 (by rfl)) (Ext.refl _)
  have b8_2 : Hid (At (w12.heap.size) 2 (.slice none 0 0) v13) := by rw [hv13]; exact At.ext (At.n0 (by rfl)) (Ext.refl _)
  have k8 : Hid (Bx 3 (w12.heap.size) v13) := by rw [hv13]; exact Bx.gr (Bx.n0 3 ⟨rfl, by decide⟩ (by decide) noI_s3) (Ext.gr (Ext.refl _))
  have u8 : Hid (w12.heap.size < v13.heap.size) := b8_0.out.2
  have e13_ : Ext w v13 := Ext.trans e12_ y13
  rw [← hv13]
  clear hv13
  refine (rread_ok (q := (mkRat (-1) 2)) ⟨#[45, 49, 47, 50]⟩ _ (by decide) (by decide +kernel) (by decide +kernel)).mono ?_
  rintro e w14 ⟨sb8, sv8, su8, sm8, sd8, rfl, e8, o8, x14⟩
  have e14_ : Ext w w14 := Ext.trans e13_ x14
  obtain ⟨sp8, sl8, sc8, tp8, tl8, tc8, rfl, rfl⟩ := e8.slice
  go_wp2_with fail
  obtain ⟨v15, hv15⟩ : ∃ W, W = (w14.alloc (.cells #[.bool sb8, .slice sp8 sl8 sc8, .slice tp8 tl8 tc8] 36)) := ⟨_, rfl⟩
  have y15 : Ext w14 v15 := by rw [hv15]; exact ((Ext.refl _).alloc _)
  have b9_0 : Hid (At (w14.heap.size) 0 (.bool sb8) v15) := by rw [hv15]; exact At.ext (At.n0 (by rfl)) (Ext.refl _)
  have b9_1 : Hid (At (w14.heap.size) 1 (.slice sp8 sl8 sc8) v15) := by rw [hv15]; exact At.ext (At.n0 (by rfl)) (Ext.refl _)
  have b9_2 : Hid (At (w14.heap.size) 2 (.slice tp8 tl8 tc8) v15) := by rw [hv15]; exact At.ext (At.n0 (by rfl)) (Ext.refl _)
  have k9 : Hid (Bx 3 (w14.heap.size) v15) := by rw [hv15]; exact Bx.gr (Bx.n0 3 ⟨rfl, by decide⟩ (by decide) noI_s3) (Ext.gr (Ext.refl _))
  have u9 : Hid (w14.heap.size < v15.heap.size) := b9_0.out.2
  have e15_ : Ext w v15 := Ext.trans e14_ y15
  rw [← hv15]
  clear hv15
  refine (half_is (q := (mkRat 1 8)) _ 3 (by decide) (by decide +kernel)).mono ?_
  rintro e w16 ⟨sb9, sv9, su9, sm9, sd9, rfl, e9, o9, x16⟩
  have e16_ : Ext w w16 := Ext.trans e15_ x16
  obtain ⟨sp9, sl9, sc9, tp9, tl9, tc9, rfl, rfl⟩ := e9.slice
  go_wp2_with fail
  obtain ⟨v17, hv17⟩ : ∃ W, W = (w16.alloc (.cells #[.bool sb9, .slice sp9 sl9 sc9, .slice tp9 tl9 tc9] 36)) := ⟨_, rfl⟩
  have y17 : Ext w16 v17 := by rw [hv17]; exact ((Ext.refl _).alloc _)
  have b10_0 : Hid (At (w16.heap.size) 0 (.bool sb9) v17) := by rw [hv17]; exact At.ext (At.n0 (by rfl)) (Ext.refl _)
  have b10_1 : Hid (At (w16.heap.size) 1 (.slice sp9 sl9 sc9) v17) := by rw [hv17]; exact At.ext (At.n0 (by rfl)) (Ext.refl _)
  have b10_2 : Hid (At (w16.heap.size) 2 (.slice tp9 tl9 tc9) v17) := by rw [hv17]; exact At.ext (At.n0 (by rfl)) (Ext.refl _)
  have k10 : Hid (Bx 3 (w16.heap.size) v17) := by rw [hv17]; exact Bx.gr (Bx.n0 3 ⟨rfl, by decide⟩ (by decide) noI_s3) (Ext.gr (Ext.refl _))
  have u10 : Hid (w16.heap.size < v17.heap.size) := b10_0.out.2
  have e17_ : Ext w v17 := Ext.trans e16_ y17
  rw [← hv17]
  clear hv17
  refine (lover_is (q := (mkRat (-1) 2)) _ (-1) 2 (by decide) (by decide) (by decide) (by decide) (by decide) (by decide +kernel)).mono ?_
  rintro e w18 ⟨sb10, sv10, su10, sm10, sd10, rfl, e10, o10, x18⟩
  have e18_ : Ext w w18 := Ext.trans e17_ x18
  obtain ⟨sp10, sl10, sc10, tp10, tl10, tc10, rfl, rfl⟩ := e10.slice
  go_wp2_with fail
  refine (rpow_is (e10.inR (k := 1) (lenR_over (n := (-1)) (d := 2) (q := (mkRat (-1) 2)) (by decide) (by decide) (by decide) (by decide) (by decide +kernel))) (by decide) 3 (by decide) (by decide +kernel) (by decide +kernel)).mono ?_
  rintro e w19 ⟨sb11, sv11, su11, sm11, sd11, rfl, e11, o11, x19⟩
  have e19_ : Ext w w19 := Ext.trans e18_ x19
  obtain ⟨sp11, sl11, sc11, tp11, tl11, tc11, rfl, rfl⟩ := e11.slice
  go_wp2_with fail
  obtain ⟨v20, hv20⟩ : ∃ W, W = (w19.alloc (.cells #[.bool sb11, .slice sp11 sl11 sc11, .slice tp11 tl11 tc11] 36)) := ⟨_, rfl⟩
  have y20 : Ext w19 v20 := by rw [hv20]; exact ((Ext.refl _).alloc _)
  have b11_0 : Hid (At (w19.heap.size) 0 (.bool sb11) v20) := by rw [hv20]; exact At.ext (At.n0 (by rfl)) (Ext.refl _)
  have b11_1 : Hid (At (w19.heap.size) 1 (.slice sp11 sl11 sc11) v20) := by rw [hv20]; exact At.ext (At.n0 (by rfl)) (Ext.refl _)
  have b11_2 : Hid (At (w19.heap.size) 2 (.slice tp11 tl11 tc11) v20) := by rw [hv20]; exact At.ext (At.n0 (by rfl)) (Ext.refl _)
  have k11 : Hid (Bx 3 (w19.heap.size) v20) := by rw [hv20]; exact Bx.gr (Bx.n0 3 ⟨rfl, by decide⟩ (by decide) noI_s3) (Ext.gr (Ext.refl _))
  have u11 : Hid (w19.heap.size < v20.heap.size) := b11_0.out.2
  have e20_ : Ext w v20 := Ext.trans e19_ y20
  rw [← hv20]
  clear hv20
  have hkeep1 : AllAt' ([(w2.heap.size, 0, .bool sb1), (w2.heap.size, 1, .slice sp1 sl1 sc1), (w2.heap.size, 2, .slice tp1 tl1 tc1), (w4.heap.size, 0, .bool sb2), (w4.heap.size, 1, .slice sp2 sl2 sc2), (w4.heap.size, 2, .slice tp2 tl2 tc2), (w6.heap.size, 0, .bool false), (w6.heap.size, 1, .slice none 0 0), (w6.heap.size, 2, .slice none 0 0), (w10.heap.size, 0, .bool false), (w10.heap.size, 1, .slice none 0 0), (w10.heap.size, 2, .slice none 0 0), (w12.heap.size, 0, .bool false), (w12.heap.size, 1, .slice none 0 0), (w12.heap.size, 2, .slice none 0 0), (w14.heap.size, 0, .bool sb8), (w14.heap.size, 1, .slice sp8 sl8 sc8), (w14.heap.size, 2, .slice tp8 tl8 tc8), (w16.heap.size, 0, .bool sb9), (w16.heap.size, 1, .slice sp9 sl9 sc9), (w16.heap.size, 2, .slice tp9 tl9 tc9), (w19.heap.size, 0, .bool sb11), (w19.heap.size, 1, .slice sp11 sl11 sc11), (w19.heap.size, 2, .slice tp11 tl11 tc11)] : List (Nat × Nat × Value)) v20 := AllAt'.cons (b2_0.out.ext (x4.trans (y5.trans (x6.trans (y7.trans (x8.trans (x9.trans (x10.trans (y11.trans (x12.trans (y13.trans (x14.trans (y15.trans (x16.trans (y17.trans (x18.trans (x19.trans y20))))))))))))))))) (AllAt'.cons (b2_1.out.ext (x4.trans (y5.trans (x6.trans (y7.trans (x8.trans (x9.trans (x10.trans (y11.trans (x12.trans (y13.trans (x14.trans (y15.trans (x16.trans (y17.trans (x18.trans (x19.trans y20))))))))))))))))) (AllAt'.cons (b2_2.out.ext (x4.trans (y5.trans (x6.trans (y7.trans (x8.trans (x9.trans (x10.trans (y11.trans (x12.trans (y13.trans (x14.trans (y15.trans (x16.trans (y17.trans (x18.trans (x19.trans y20))))))))))))))))) (AllAt'.cons (b4_0.out.ext (x6.trans (y7.trans (x8.trans (x9.trans (x10.trans (y11.trans (x12.trans (y13.trans (x14.trans (y15.trans (x16.trans (y17.trans (x18.trans (x19.trans y20))))))))))))))) (AllAt'.cons (b4_1.out.ext (x6.trans (y7.trans (x8.trans (x9.trans (x10.trans (y11.trans (x12.trans (y13.trans (x14.trans (y15.trans (x16.trans (y17.trans (x18.trans (x19.trans y20))))))))))))))) (AllAt'.cons (b4_2.out.ext (x6.trans (y7.trans (x8.trans (x9.trans (x10.trans (y11.trans (x12.trans (y13.trans (x14.trans (y15.trans (x16.trans (y17.trans (x18.trans (x19.trans y20))))))))))))))) (AllAt'.cons (b6_0.out.ext (x8.trans (x9.trans (x10.trans (y11.trans (x12.trans (y13.trans (x14.trans (y15.trans (x16.trans (y17.trans (x18.trans (x19.trans y20))))))))))))) (AllAt'.cons (b6_1.out.ext (x8.trans (x9.trans (x10.trans (y11.trans (x12.trans (y13.trans (x14.trans (y15.trans (x16.trans (y17.trans (x18.trans (x19.trans y20))))))))))))) (AllAt'.cons (b6_2.out.ext (x8.trans (x9.trans (x10.trans (y11.trans (x12.trans (y13.trans (x14.trans (y15.trans (x16.trans (y17.trans (x18.trans (x19.trans y20))))))))))))) (AllAt'.cons (b7_0.out.ext (x12.trans (y13.trans (x14.trans (y15.trans (x16.trans (y17.trans (x18.trans (x19.trans y20))))))))) (AllAt'.cons (b7_1.out.ext (x12.trans (y13.trans (x14.trans (y15.trans (x16.trans (y17.trans (x18.trans (x19.trans y20))))))))) (AllAt'.cons (b7_2.out.ext (x12.trans (y13.trans (x14.trans (y15.trans (x16.trans (y17.trans (x18.trans (x19.trans y20))))))))) (AllAt'.cons (b8_0.out.ext (x14.trans (y15.trans (x16.trans (y17.trans (x18.trans (x19.trans y20))))))) (AllAt'.cons (b8_1.out.ext (x14.trans (y15.trans (x16.trans (y17.trans (x18.trans (x19.trans y20))))))) (AllAt'.cons (b8_2.out.ext (x14.trans (y15.trans (x16.trans (y17.trans (x18.trans (x19.trans y20))))))) (AllAt'.cons (b9_0.out.ext (x16.trans (y17.trans (x18.trans (x19.trans y20))))) (AllAt'.cons (b9_1.out.ext (x16.trans (y17.trans (x18.trans (x19.trans y20))))) (AllAt'.cons (b9_2.out.ext (x16.trans (y17.trans (x18.trans (x19.trans y20))))) (AllAt'.cons (b10_0.out.ext (x18.trans (x19.trans y20))) (AllAt'.cons (b10_1.out.ext (x18.trans (x19.trans y20))) (AllAt'.cons (b10_2.out.ext (x18.trans (x19.trans y20))) (AllAt'.cons b11_0.out (AllAt'.cons b11_1.out (AllAt'.cons b11_2.out (AllAt'.nil _))))))))))))))))))))))))
  have hob1 : ObOk w.heap.size v20 (([(w2.heap.size, 0, .bool sb1), (w2.heap.size, 1, .slice sp1 sl1 sc1), (w2.heap.size, 2, .slice tp1 tl1 tc1), (w4.heap.size, 0, .bool sb2), (w4.heap.size, 1, .slice sp2 sl2 sc2), (w4.heap.size, 2, .slice tp2 tl2 tc2), (w6.heap.size, 0, .bool false), (w6.heap.size, 1, .slice none 0 0), (w6.heap.size, 2, .slice none 0 0), (w10.heap.size, 0, .bool false), (w10.heap.size, 1, .slice none 0 0), (w10.heap.size, 2, .slice none 0 0), (w12.heap.size, 0, .bool false), (w12.heap.size, 1, .slice none 0 0), (w12.heap.size, 2, .slice none 0 0), (w14.heap.size, 0, .bool sb8), (w14.heap.size, 1, .slice sp8 sl8 sc8), (w14.heap.size, 2, .slice tp8 tl8 tc8), (w16.heap.size, 0, .bool sb9), (w16.heap.size, 1, .slice sp9 sl9 sc9), (w16.heap.size, 2, .slice tp9 tl9 tc9), (w19.heap.size, 0, .bool sb11), (w19.heap.size, 1, .slice sp11 sl11 sc11), (w19.heap.size, 2, .slice tp11 tl11 tc11)] : List (Nat × Nat × Value)).map (·.1)) ([] : List (Nat × List (Nat × Value))) := trivial
  have hne1 : AllNe (([] : List (Nat × List (Nat × Value))).map (·.1)) := trivial
  (try simp only [List.append_eq, List.cons_append, List.nil_append])
  refine wp_region_gen ⟨[59, 60, 61, 62, 63, 64, 65, 66, 67, 68, 69, 70, 71, 72, 73, 74, 75, 76, 77, 78, 79, 80, 81, 82, 83, 84, 85, 86, 87, 88, 89, 90, 91, 92, 93, 94, 95, 96, 97, 98, 99, 100, 101, 102, 103, 104, 105, 106, 107, 108, 109, 110, 111, 112, 113, 114, 115, 116, 117, 118, 119, 120, 121, 122, 123, 124, 125, 126, 127, 128, 129, 130, 131, 0], fun i => false, fun i => ([none, none, none, none, none, none, none, none, none, none, none, none, none, none, none, none, none, none, none, none, none, none, none, none, none, none, none, none, none, none, none, none, none, none, none, none, none, none, none, none, none, none, none, none, none, none, none, none, none, none, none, none, none, none, none, none, none, none, none, none, none, none, none, none, none, none, none, none, none, none, none, none, none, none] : List (Option (BoxRef × Nat))).getD i none, fun i => ([Sg.val (.int .i64 0), Sg.val (.bool true), Sg.val (.bool true), Sg.ratO w.heap.size (mkRat 2 3), Sg.val (.string ⟨#[50, 47, 51]⟩), Sg.val (.bool true), Sg.val (.bool true), Sg.val (.bool true), Sg.val (.int .i64 0), Sg.val (.bool true), Sg.val (.bool true), Sg.val (.bool true), Sg.ratO w.heap.size (0 : Rat), Sg.nat 1, Sg.rat (0 : Rat), Sg.val (.bool true), Sg.val (.bool true), Sg.val (.bool true), Sg.val (.int .i64 7), Sg.val (.bool true), Sg.val (.bool true), Sg.val (.bool true), Sg.ratO w.heap.size (mkRat (-1) 2), Sg.val (.string ⟨#[45, 49, 47, 50]⟩), Sg.val (.bool true), Sg.val (.bool true), Sg.val (.bool true), Sg.ratO w.heap.size (mkRat 1 2), Sg.ratO w.heap.size (mkRat 1 3), Sg.ratO w.heap.size ((mkRat 1 2) + (mkRat 1 3)), Sg.val (.string ⟨#[53, 47, 54]⟩), Sg.val (.bool true), Sg.val (.bool true), Sg.val (.bool true), Sg.val (.int .i64 7), Sg.val (.bool true), Sg.val (.bool true), Sg.val (.bool true), Sg.val (.int .i64 3), Sg.val (.bool true), Sg.val (.bool true), Sg.val (.bool true), Sg.val (.int .i64 0), Sg.val (.bool true), Sg.val (.bool true), Sg.val (.bool true), Sg.ratO w.heap.size (mkRat (-1) 2), Sg.ratO w.heap.size (mkRat (-1) 2), Sg.val (.bool true), Sg.val (.bool true), Sg.val (.bool true), Sg.val (.int .i64 0), Sg.val (.bool true), Sg.val (.bool true), Sg.val (.bool true), Sg.ratO w.heap.size (mkRat 1 8), Sg.val (.string ⟨#[49, 47, 56]⟩), Sg.val (.bool true), Sg.val (.bool true), Sg.val (.bool true), Sg.val (.int .i64 0), Sg.val (.bool true), Sg.val (.bool true), Sg.val (.bool true), Sg.ratO w.heap.size ((mkRat (-1) 2) ^ 3), Sg.val (.string ⟨#[45, 49, 47, 56]⟩), Sg.val (.bool true), Sg.val (.bool true), Sg.val (.bool true), Sg.ratO w.heap.size ((3 : Int) : Rat), Sg.val (.string ⟨#[51]⟩), Sg.val (.bool true), Sg.val (.bool true), Sg.val (.bool true)] : List Sg).getD i Sg.any, [(w2.heap.size, 0, .bool sb1), (w2.heap.size, 1, .slice sp1 sl1 sc1), (w2.heap.size, 2, .slice tp1 tl1 tc1), (w4.heap.size, 0, .bool sb2), (w4.heap.size, 1, .slice sp2 sl2 sc2), (w4.heap.size, 2, .slice tp2 tl2 tc2), (w6.heap.size, 0, .bool false), (w6.heap.size, 1, .slice none 0 0), (w6.heap.size, 2, .slice none 0 0), (w10.heap.size, 0, .bool false), (w10.heap.size, 1, .slice none 0 0), (w10.heap.size, 2, .slice none 0 0), (w12.heap.size, 0, .bool false), (w12.heap.size, 1, .slice none 0 0), (w12.heap.size, 2, .slice none 0 0), (w14.heap.size, 0, .bool sb8), (w14.heap.size, 1, .slice sp8 sl8 sc8), (w14.heap.size, 2, .slice tp8 tl8 tc8), (w16.heap.size, 0, .bool sb9), (w16.heap.size, 1, .slice sp9 sl9 sc9), (w16.heap.size, 2, .slice tp9 tl9 tc9), (w19.heap.size, 0, .bool sb11), (w19.heap.size, 1, .slice sp11 sl11 sc11), (w19.heap.size, 2, .slice tp11 tl11 tc11)], []⟩ w.heap.size (by kernel_rfl) (by kernel_rfl) e20_.size ?hfr hkeep1 hob1 hne1 ?hs ?he
  case hfr =>
    intro i v wk hi hst hv
    exact absurd hi (by simp)
  case hs =>
    refine ⟨?_, ?_, ?_, ?_, ?_, ?_, ?_, ?_, ?_, ?_, ?_, ?_, ?_, ?_, ?_, ?_, ?_, ?_, ?_, ?_, ?_, ?_, ?_, ?_, ?_, ?_, ?_, ?_, ?_, ?_, ?_, ?_, ?_, ?_, ?_, ?_, ?_, ?_, ?_, ?_, ?_, ?_, ?_, ?_, ?_, ?_, ?_, ?_, ?_, ?_, ?_, ?_, ?_, ?_, ?_, ?_, ?_, ?_, ?_, ?_, ?_, ?_, ?_, ?_, ?_, ?_, ?_, ?_, ?_, ?_, ?_, ?_, ?_, ?_, trivial⟩
    · refine RStep.op rfl rfl (fun ac wk hp K hK => ?_)
      have t2_ : ac.tmps[2]?.getD undef = .int .i64 0 := hp.slot 2 rfl rfl
      have HP := Lib.hid hp
      clear hp
      go_simp
      refine hK.out _ _ ?_ (Ext.refl _) (fun h => absurd h (by simp))
      exact rfl
    · refine RStep.op rfl rfl (fun ac wk hp K hK => ?_)
      have u0e := hp.get 0 (by decide +kernel) rfl
      have t59_ : ac.tmps[59]?.getD undef = .int .i64 0 := slot_is' u0e
      have HP := Lib.hid hp
      clear hp
      go_simp
      refine hK.out _ _ ?_ (Ext.refl _) (fun h => absurd h (by simp))
      exact rfl
    · refine RStep.op rfl rfl (fun ac wk hp K hK => ?_)
      have u1e := hp.get 1 (by decide +kernel) rfl
      have t60_ : ac.tmps[60]?.getD undef = .bool true := slot_is' u1e
      have HP := Lib.hid hp
      clear hp
      go_simp
      refine hK.out _ _ ?_ (Ext.refl _) (fun h => absurd h (by simp))
      exact rfl
    · refine RStep.yes 2 true rfl rfl (by decide +kernel) rfl rfl (fun ac wk hp K hK => ?_)
      have t1_ : ac.tmps[1]?.getD undef = .pointer (some ⟨w2.heap.size, 0, none⟩) := hp.slot 1 rfl rfl
      have c0_ := hp.cell 0 rfl
      have c1_ := hp.cell 1 rfl
      have c2_ := hp.cell 2 rfl
      have HP := Lib.hid hp
      clear hp
      go_simp
      refine hK.out _ _ ?_ (Ext.refl _) (fun h => absurd h (by simp))
      exact ⟨_, _, _, _, _, _, _, _, _, rfl, (e1.gr ((y3.gr.trans (x4.gr.trans (y5.gr.trans (x6.gr.trans (y7.gr.trans (x8.gr.trans (x9.gr.trans (x10.gr.trans (y11.gr.trans (x12.gr.trans (y13.gr.trans (x14.gr.trans (y15.gr.trans (x16.gr.trans (y17.gr.trans (x18.gr.trans (x19.gr.trans y20.gr))))))))))))))))).trans HP.out.gr)), ((o1.gr ((y3.gr.trans (x4.gr.trans (y5.gr.trans (x6.gr.trans (y7.gr.trans (x8.gr.trans (x9.gr.trans (x10.gr.trans (y11.gr.trans (x12.gr.trans (y13.gr.trans (x14.gr.trans (y15.gr.trans (x16.gr.trans (y17.gr.trans (x18.gr.trans (x19.gr.trans y20.gr))))))))))))))))).trans HP.out.gr)).mono e1_.size)⟩
    · refine RStep.yes 2 true rfl rfl (by decide +kernel) rfl rfl (fun ac wk hp K hK => ?_)
      obtain ⟨u3b, u3p, u3n, u3c, u3q, u3k, u3d, u3m, u3l, u3e, u3i, u3o⟩ := hp.get 3 (by decide +kernel) rfl
      have t62_ : ac.tmps[62]?.getD undef = .agg #[.bool u3b, .slice u3p u3n u3c, .slice u3q u3k u3d] := slot_is' u3e
      have HP := Lib.hid hp
      clear hp
      go_simp
      refine (rshow_is (u3i.inR (k := 1) (by unfold LenR; rw [Nat.pow_one, Bs_def]; decide +kernel)) (by decide) ⟨#[50, 47, 51]⟩ (showR_of (by decide +kernel) (by decide +kernel))).mono ?_
      rintro e wk' ⟨rfl, ix⟩
      refine hK.out _ _ ?_ ix (fun h => absurd h (by simp))
      exact rfl
    · refine RStep.yes 2 true rfl rfl (by decide +kernel) rfl rfl (fun ac wk hp K hK => ?_)
      have u4e := hp.get 4 (by decide +kernel) rfl
      have t63_ : ac.tmps[63]?.getD undef = .string ⟨#[50, 47, 51]⟩ := slot_is' u4e
      have HP := Lib.hid hp
      clear hp
      go_simp
      refine hK.out _ _ ?_ (Ext.refl _) (fun h => absurd h (by simp))
      exact rfl
    · refine RStep.op rfl rfl (fun ac wk hp K hK => ?_)
      have u2e := hp.get 2 (by decide +kernel) rfl
      have t61_ : ac.tmps[61]?.getD undef = .bool true := slot_is' u2e
      have u5e := hp.get 5 (by decide +kernel) rfl
      have t64_ : ac.tmps[64]?.getD undef = .bool true := slot_is' u5e
      have HP := Lib.hid hp
      clear hp
      go_simp
      refine hK.out _ _ ?_ (Ext.refl _) (fun h => absurd h (by simp))
      exact rfl
    · refine RStep.op rfl rfl (fun ac wk hp K hK => ?_)
      have u6e := hp.get 6 (by decide +kernel) rfl
      have t65_ : ac.tmps[65]?.getD undef = .bool true := slot_is' u6e
      have HP := Lib.hid hp
      clear hp
      go_simp
      refine hK.out _ _ ?_ (Ext.refl _) (fun h => absurd h (by simp))
      exact rfl
    · refine RStep.yes 7 true rfl rfl (by decide +kernel) rfl rfl (fun ac wk hp K hK => ?_)
      have t4_ : ac.tmps[4]?.getD undef = .int .i64 0 := hp.slot 4 rfl rfl
      have HP := Lib.hid hp
      clear hp
      go_simp
      refine hK.out _ _ ?_ (Ext.refl _) (fun h => absurd h (by simp))
      exact rfl
    · refine RStep.yes 7 true rfl rfl (by decide +kernel) rfl rfl (fun ac wk hp K hK => ?_)
      have u8e := hp.get 8 (by decide +kernel) rfl
      have t67_ : ac.tmps[67]?.getD undef = .int .i64 0 := slot_is' u8e
      have HP := Lib.hid hp
      clear hp
      go_simp
      refine hK.out _ _ ?_ (Ext.refl _) (fun h => absurd h (by simp))
      exact rfl
    · refine RStep.op rfl rfl (fun ac wk hp K hK => ?_)
      have u7e := hp.get 7 (by decide +kernel) rfl
      have t66_ : ac.tmps[66]?.getD undef = .bool true := slot_is' u7e
      have u9e := hp.get 9 (by decide +kernel) rfl
      have t68_ : ac.tmps[68]?.getD undef = .bool true := slot_is' u9e
      have HP := Lib.hid hp
      clear hp
      go_simp
      refine hK.out _ _ ?_ (Ext.refl _) (fun h => absurd h (by simp))
      exact rfl
    · refine RStep.op rfl rfl (fun ac wk hp K hK => ?_)
      have u10e := hp.get 10 (by decide +kernel) rfl
      have t69_ : ac.tmps[69]?.getD undef = .bool true := slot_is' u10e
      have HP := Lib.hid hp
      clear hp
      go_simp
      refine hK.out _ _ ?_ (Ext.refl _) (fun h => absurd h (by simp))
      exact rfl
    · refine RStep.yes 11 true rfl rfl (by decide +kernel) rfl rfl (fun ac wk hp K hK => ?_)
      have t3_ : ac.tmps[3]?.getD undef = .pointer (some ⟨w4.heap.size, 0, none⟩) := hp.slot 3 rfl rfl
      have c0_ := hp.cell 3 rfl
      have c1_ := hp.cell 4 rfl
      have c2_ := hp.cell 5 rfl
      have HP := Lib.hid hp
      clear hp
      go_simp
      refine hK.out _ _ ?_ (Ext.refl _) (fun h => absurd h (by simp))
      exact ⟨_, _, _, _, _, _, _, _, _, rfl, (e2.gr ((y5.gr.trans (x6.gr.trans (y7.gr.trans (x8.gr.trans (x9.gr.trans (x10.gr.trans (y11.gr.trans (x12.gr.trans (y13.gr.trans (x14.gr.trans (y15.gr.trans (x16.gr.trans (y17.gr.trans (x18.gr.trans (x19.gr.trans y20.gr))))))))))))))).trans HP.out.gr)), ((o2.gr ((y5.gr.trans (x6.gr.trans (y7.gr.trans (x8.gr.trans (x9.gr.trans (x10.gr.trans (y11.gr.trans (x12.gr.trans (y13.gr.trans (x14.gr.trans (y15.gr.trans (x16.gr.trans (y17.gr.trans (x18.gr.trans (x19.gr.trans y20.gr))))))))))))))).trans HP.out.gr)).mono e3_.size)⟩
    · refine RStep.yes 11 true rfl rfl (by decide +kernel) rfl rfl (fun ac wk hp K hK => ?_)
      have HP := Lib.hid hp
      clear hp
      go_simp
      exact hK.out _ _ ⟨_, _, _, rfl, lit_dig (lit_n0 [1] (by decide) rfl 1 rfl (by decide)) (by decide) (by decide)⟩ ((Ext.refl _).alloc _) (fun h => absurd h (by simp))
    · refine RStep.yes 11 true rfl rfl (by decide +kernel) rfl rfl (fun ac wk hp K hK => ?_)
      obtain ⟨u13p, u13n, u13c, u13e, u13i⟩ := hp.get 13 (by decide +kernel) rfl
      have t72_ : ac.tmps[72]?.getD undef = .slice u13p u13n u13c := slot_is' u13e
      have HP := Lib.hid hp
      clear hp
      go_simp
      refine hK.out _ _ ?_ (Ext.refl _) (fun h => absurd h (by simp))
      exact ⟨_, _, _, _, _, _, _, _, _, rfl, isR_mk (q := (0 : Rat)) (zero_is _) u13i rfl⟩
    · refine RStep.yes 11 true rfl rfl (by decide +kernel) rfl rfl (fun ac wk hp K hK => ?_)
      obtain ⟨u12b, u12p, u12n, u12c, u12q, u12k, u12d, u12m, u12l, u12e, u12i, u12o⟩ := hp.get 12 (by decide +kernel) rfl
      have t71_ : ac.tmps[71]?.getD undef = .agg #[.bool u12b, .slice u12p u12n u12c, .slice u12q u12k u12d] := slot_is' u12e
      obtain ⟨u14b, u14p, u14n, u14c, u14q, u14k, u14d, u14m, u14l, u14e, u14i⟩ := hp.get 14 (by decide +kernel) rfl
      have t73_ : ac.tmps[73]?.getD undef = .agg #[.bool u14b, .slice u14p u14n u14c, .slice u14q u14k u14d] := slot_is' u14e
      have HP := Lib.hid hp
      clear hp
      go_simp
      refine (is_is u12i u14i true (decide_eq_true (show ((0 : Rat) : Rat) = (0 : Rat) from rfl))).mono ?_
      rintro e wk' ⟨rfl, ix⟩
      refine hK.out _ _ ?_ ix (fun h => absurd h (by simp))
      exact rfl
    · refine RStep.op rfl rfl (fun ac wk hp K hK => ?_)
      have u11e := hp.get 11 (by decide +kernel) rfl
      have t70_ : ac.tmps[70]?.getD undef = .bool true := slot_is' u11e
      have u15e := hp.get 15 (by decide +kernel) rfl
      have t74_ : ac.tmps[74]?.getD undef = .bool true := slot_is' u15e
      have HP := Lib.hid hp
      clear hp
      go_simp
      refine hK.out _ _ ?_ (Ext.refl _) (fun h => absurd h (by simp))
      exact rfl
    · refine RStep.op rfl rfl (fun ac wk hp K hK => ?_)
      have u16e := hp.get 16 (by decide +kernel) rfl
      have t75_ : ac.tmps[75]?.getD undef = .bool true := slot_is' u16e
      have HP := Lib.hid hp
      clear hp
      go_simp
      refine hK.out _ _ ?_ (Ext.refl _) (fun h => absurd h (by simp))
      exact rfl
    · refine RStep.yes 17 true rfl rfl (by decide +kernel) rfl rfl (fun ac wk hp K hK => ?_)
      have t6_ : ac.tmps[6]?.getD undef = .int .i64 7 := hp.slot 6 rfl rfl
      have HP := Lib.hid hp
      clear hp
      go_simp
      refine hK.out _ _ ?_ (Ext.refl _) (fun h => absurd h (by simp))
      exact rfl
    · refine RStep.yes 17 true rfl rfl (by decide +kernel) rfl rfl (fun ac wk hp K hK => ?_)
      have u18e := hp.get 18 (by decide +kernel) rfl
      have t77_ : ac.tmps[77]?.getD undef = .int .i64 7 := slot_is' u18e
      have HP := Lib.hid hp
      clear hp
      go_simp
      refine hK.out _ _ ?_ (Ext.refl _) (fun h => absurd h (by simp))
      exact rfl
    · refine RStep.op rfl rfl (fun ac wk hp K hK => ?_)
      have u17e := hp.get 17 (by decide +kernel) rfl
      have t76_ : ac.tmps[76]?.getD undef = .bool true := slot_is' u17e
      have u19e := hp.get 19 (by decide +kernel) rfl
      have t78_ : ac.tmps[78]?.getD undef = .bool true := slot_is' u19e
      have HP := Lib.hid hp
      clear hp
      go_simp
      refine hK.out _ _ ?_ (Ext.refl _) (fun h => absurd h (by simp))
      exact rfl
    · refine RStep.op rfl rfl (fun ac wk hp K hK => ?_)
      have u20e := hp.get 20 (by decide +kernel) rfl
      have t79_ : ac.tmps[79]?.getD undef = .bool true := slot_is' u20e
      have HP := Lib.hid hp
      clear hp
      go_simp
      refine hK.out _ _ ?_ (Ext.refl _) (fun h => absurd h (by simp))
      exact rfl
    · refine RStep.yes 21 true rfl rfl (by decide +kernel) rfl rfl (fun ac wk hp K hK => ?_)
      have HP := Lib.hid hp
      clear hp
      go_simp
      refine (lover_is (q := (mkRat (-1) 2)) _ 1 (-2) (by decide) (by decide) (by decide) (by decide) (by decide) (by decide +kernel)).mono ?_
      rintro e wk' ⟨sb14, sv14, su14, sm14, sd14, rfl, e14, o14, ix⟩
      obtain ⟨sp14, sl14, sc14, tp14, tl14, tc14, rfl, rfl⟩ := e14.slice
      refine hK.out _ _ ?_ ix (fun h => absurd h (by simp))
      exact ⟨_, _, _, _, _, _, _, _, _, rfl, e14, (o14.mono (Nat.le_trans e20_.size HP.out.gr.size))⟩
    · refine RStep.yes 21 true rfl rfl (by decide +kernel) rfl rfl (fun ac wk hp K hK => ?_)
      obtain ⟨u22b, u22p, u22n, u22c, u22q, u22k, u22d, u22m, u22l, u22e, u22i, u22o⟩ := hp.get 22 (by decide +kernel) rfl
      have t81_ : ac.tmps[81]?.getD undef = .agg #[.bool u22b, .slice u22p u22n u22c, .slice u22q u22k u22d] := slot_is' u22e
      have HP := Lib.hid hp
      clear hp
      go_simp
      refine (rshow_is (u22i.inR (k := 1) (lenR_over (n := 1) (d := (-2)) (q := (mkRat (-1) 2)) (by decide) (by decide) (by decide) (by decide) (by decide +kernel))) (by decide) ⟨#[45, 49, 47, 50]⟩ (showR_of (by decide +kernel) (by decide +kernel))).mono ?_
      rintro e wk' ⟨rfl, ix⟩
      refine hK.out _ _ ?_ ix (fun h => absurd h (by simp))
      exact rfl
    · refine RStep.yes 21 true rfl rfl (by decide +kernel) rfl rfl (fun ac wk hp K hK => ?_)
      have u23e := hp.get 23 (by decide +kernel) rfl
      have t82_ : ac.tmps[82]?.getD undef = .string ⟨#[45, 49, 47, 50]⟩ := slot_is' u23e
      have HP := Lib.hid hp
      clear hp
      go_simp
      refine hK.out _ _ ?_ (Ext.refl _) (fun h => absurd h (by simp))
      exact rfl
    · refine RStep.op rfl rfl (fun ac wk hp K hK => ?_)
      have u21e := hp.get 21 (by decide +kernel) rfl
      have t80_ : ac.tmps[80]?.getD undef = .bool true := slot_is' u21e
      have u24e := hp.get 24 (by decide +kernel) rfl
      have t83_ : ac.tmps[83]?.getD undef = .bool true := slot_is' u24e
      have HP := Lib.hid hp
      clear hp
      go_simp
      refine hK.out _ _ ?_ (Ext.refl _) (fun h => absurd h (by simp))
      exact rfl
    · refine RStep.op rfl rfl (fun ac wk hp K hK => ?_)
      have u25e := hp.get 25 (by decide +kernel) rfl
      have t84_ : ac.tmps[84]?.getD undef = .bool true := slot_is' u25e
      have HP := Lib.hid hp
      clear hp
      go_simp
      refine hK.out _ _ ?_ (Ext.refl _) (fun h => absurd h (by simp))
      exact rfl
    · refine RStep.yes 26 true rfl rfl (by decide +kernel) rfl rfl (fun ac wk hp K hK => ?_)
      have HP := Lib.hid hp
      clear hp
      go_simp
      refine (lover_is (q := (mkRat 1 2)) _ 1 2 (by decide) (by decide) (by decide) (by decide) (by decide) (by decide +kernel)).mono ?_
      rintro e wk' ⟨sb16, sv16, su16, sm16, sd16, rfl, e16, o16, ix⟩
      obtain ⟨sp16, sl16, sc16, tp16, tl16, tc16, rfl, rfl⟩ := e16.slice
      refine hK.out _ _ ?_ ix (fun h => absurd h (by simp))
      exact ⟨_, _, _, _, _, _, _, _, _, rfl, e16, (o16.mono (Nat.le_trans e20_.size HP.out.gr.size))⟩
    · refine RStep.yes 26 true rfl rfl (by decide +kernel) rfl rfl (fun ac wk hp K hK => ?_)
      have HP := Lib.hid hp
      clear hp
      go_simp
      refine (lover_is (q := (mkRat 1 3)) _ 1 3 (by decide) (by decide) (by decide) (by decide) (by decide) (by decide +kernel)).mono ?_
      rintro e wk' ⟨sb17, sv17, su17, sm17, sd17, rfl, e17, o17, ix⟩
      obtain ⟨sp17, sl17, sc17, tp17, tl17, tc17, rfl, rfl⟩ := e17.slice
      refine hK.out _ _ ?_ ix (fun h => absurd h (by simp))
      exact ⟨_, _, _, _, _, _, _, _, _, rfl, e17, (o17.mono (Nat.le_trans e20_.size HP.out.gr.size))⟩
    · refine RStep.yes 26 true rfl rfl (by decide +kernel) rfl rfl (fun ac wk hp K hK => ?_)
      obtain ⟨u27b, u27p, u27n, u27c, u27q, u27k, u27d, u27m, u27l, u27e, u27i, u27o⟩ := hp.get 27 (by decide +kernel) rfl
      have t86_ : ac.tmps[86]?.getD undef = .agg #[.bool u27b, .slice u27p u27n u27c, .slice u27q u27k u27d] := slot_is' u27e
      obtain ⟨u28b, u28p, u28n, u28c, u28q, u28k, u28d, u28m, u28l, u28e, u28i, u28o⟩ := hp.get 28 (by decide +kernel) rfl
      have t87_ : ac.tmps[87]?.getD undef = .agg #[.bool u28b, .slice u28p u28n u28c, .slice u28q u28k u28d] := slot_is' u28e
      have HP := Lib.hid hp
      clear hp
      go_simp
      refine (radd_is (u27i.inR (k := 1) (lenR_over (n := 1) (d := 2) (q := (mkRat 1 2)) (by decide) (by decide) (by decide) (by decide) (by decide +kernel))) (u28i.inR (k := 1) (lenR_over (n := 1) (d := 3) (q := (mkRat 1 3)) (by decide) (by decide) (by decide) (by decide) (by decide +kernel))) (by decide)).mono ?_
      rintro e wk' ⟨sb18, sv18, su18, sm18, sd18, rfl, e18, o18, ix⟩
      obtain ⟨sp18, sl18, sc18, tp18, tl18, tc18, rfl, rfl⟩ := e18.slice
      refine hK.out _ _ ?_ ix (fun h => absurd h (by simp))
      exact ⟨_, _, _, _, _, _, _, _, _, rfl, e18, (o18.mono (Nat.le_trans e20_.size HP.out.gr.size))⟩
    · refine RStep.yes 26 true rfl rfl (by decide +kernel) rfl rfl (fun ac wk hp K hK => ?_)
      obtain ⟨u29b, u29p, u29n, u29c, u29q, u29k, u29d, u29m, u29l, u29e, u29i, u29o⟩ := hp.get 29 (by decide +kernel) rfl
      have t88_ : ac.tmps[88]?.getD undef = .agg #[.bool u29b, .slice u29p u29n u29c, .slice u29q u29k u29d] := slot_is' u29e
      have HP := Lib.hid hp
      clear hp
      go_simp
      refine (rshow_is (u29i.inR (k := 3) (LenR.add (lenR_over (n := 1) (d := 2) (q := (mkRat 1 2)) (by decide) (by decide) (by decide) (by decide) (by decide +kernel)) (lenR_over (n := 1) (d := 3) (q := (mkRat 1 3)) (by decide) (by decide) (by decide) (by decide) (by decide +kernel)))) (by decide) ⟨#[53, 47, 54]⟩ (showR_of (by decide +kernel) (by decide +kernel))).mono ?_
      rintro e wk' ⟨rfl, ix⟩
      refine hK.out _ _ ?_ ix (fun h => absurd h (by simp))
      exact rfl
    · refine RStep.yes 26 true rfl rfl (by decide +kernel) rfl rfl (fun ac wk hp K hK => ?_)
      have u30e := hp.get 30 (by decide +kernel) rfl
      have t89_ : ac.tmps[89]?.getD undef = .string ⟨#[53, 47, 54]⟩ := slot_is' u30e
      have HP := Lib.hid hp
      clear hp
      go_simp
      refine hK.out _ _ ?_ (Ext.refl _) (fun h => absurd h (by simp))
      exact rfl
    · refine RStep.op rfl rfl (fun ac wk hp K hK => ?_)
      have u26e := hp.get 26 (by decide +kernel) rfl
      have t85_ : ac.tmps[85]?.getD undef = .bool true := slot_is' u26e
      have u31e := hp.get 31 (by decide +kernel) rfl
      have t90_ : ac.tmps[90]?.getD undef = .bool true := slot_is' u31e
      have HP := Lib.hid hp
      clear hp
      go_simp
      refine hK.out _ _ ?_ (Ext.refl _) (fun h => absurd h (by simp))
      exact rfl
    · refine RStep.op rfl rfl (fun ac wk hp K hK => ?_)
      have u32e := hp.get 32 (by decide +kernel) rfl
      have t91_ : ac.tmps[91]?.getD undef = .bool true := slot_is' u32e
      have HP := Lib.hid hp
      clear hp
      go_simp
      refine hK.out _ _ ?_ (Ext.refl _) (fun h => absurd h (by simp))
      exact rfl
    · refine RStep.yes 33 true rfl rfl (by decide +kernel) rfl rfl (fun ac wk hp K hK => ?_)
      have t8_ : ac.tmps[8]?.getD undef = .int .i64 7 := hp.slot 8 rfl rfl
      have HP := Lib.hid hp
      clear hp
      go_simp
      refine hK.out _ _ ?_ (Ext.refl _) (fun h => absurd h (by simp))
      exact rfl
    · refine RStep.yes 33 true rfl rfl (by decide +kernel) rfl rfl (fun ac wk hp K hK => ?_)
      have u34e := hp.get 34 (by decide +kernel) rfl
      have t93_ : ac.tmps[93]?.getD undef = .int .i64 7 := slot_is' u34e
      have HP := Lib.hid hp
      clear hp
      go_simp
      refine hK.out _ _ ?_ (Ext.refl _) (fun h => absurd h (by simp))
      exact rfl
    · refine RStep.op rfl rfl (fun ac wk hp K hK => ?_)
      have u33e := hp.get 33 (by decide +kernel) rfl
      have t92_ : ac.tmps[92]?.getD undef = .bool true := slot_is' u33e
      have u35e := hp.get 35 (by decide +kernel) rfl
      have t94_ : ac.tmps[94]?.getD undef = .bool true := slot_is' u35e
      have HP := Lib.hid hp
      clear hp
      go_simp
      refine hK.out _ _ ?_ (Ext.refl _) (fun h => absurd h (by simp))
      exact rfl
    · refine RStep.op rfl rfl (fun ac wk hp K hK => ?_)
      have u36e := hp.get 36 (by decide +kernel) rfl
      have t95_ : ac.tmps[95]?.getD undef = .bool true := slot_is' u36e
      have HP := Lib.hid hp
      clear hp
      go_simp
      refine hK.out _ _ ?_ (Ext.refl _) (fun h => absurd h (by simp))
      exact rfl
    · refine RStep.yes 37 true rfl rfl (by decide +kernel) rfl rfl (fun ac wk hp K hK => ?_)
      have t10_ : ac.tmps[10]?.getD undef = .int .i64 3 := hp.slot 10 rfl rfl
      have HP := Lib.hid hp
      clear hp
      go_simp
      refine hK.out _ _ ?_ (Ext.refl _) (fun h => absurd h (by simp))
      exact rfl
    · refine RStep.yes 37 true rfl rfl (by decide +kernel) rfl rfl (fun ac wk hp K hK => ?_)
      have u38e := hp.get 38 (by decide +kernel) rfl
      have t97_ : ac.tmps[97]?.getD undef = .int .i64 3 := slot_is' u38e
      have HP := Lib.hid hp
      clear hp
      go_simp
      refine hK.out _ _ ?_ (Ext.refl _) (fun h => absurd h (by simp))
      exact rfl
    · refine RStep.op rfl rfl (fun ac wk hp K hK => ?_)
      have u37e := hp.get 37 (by decide +kernel) rfl
      have t96_ : ac.tmps[96]?.getD undef = .bool true := slot_is' u37e
      have u39e := hp.get 39 (by decide +kernel) rfl
      have t98_ : ac.tmps[98]?.getD undef = .bool true := slot_is' u39e
      have HP := Lib.hid hp
      clear hp
      go_simp
      refine hK.out _ _ ?_ (Ext.refl _) (fun h => absurd h (by simp))
      exact rfl
    · refine RStep.op rfl rfl (fun ac wk hp K hK => ?_)
      have u40e := hp.get 40 (by decide +kernel) rfl
      have t99_ : ac.tmps[99]?.getD undef = .bool true := slot_is' u40e
      have HP := Lib.hid hp
      clear hp
      go_simp
      refine hK.out _ _ ?_ (Ext.refl _) (fun h => absurd h (by simp))
      exact rfl
    · refine RStep.yes 41 true rfl rfl (by decide +kernel) rfl rfl (fun ac wk hp K hK => ?_)
      have t12_ : ac.tmps[12]?.getD undef = .int .i64 0 := hp.slot 12 rfl rfl
      have HP := Lib.hid hp
      clear hp
      go_simp
      refine hK.out _ _ ?_ (Ext.refl _) (fun h => absurd h (by simp))
      exact rfl
    · refine RStep.yes 41 true rfl rfl (by decide +kernel) rfl rfl (fun ac wk hp K hK => ?_)
      have u42e := hp.get 42 (by decide +kernel) rfl
      have t101_ : ac.tmps[101]?.getD undef = .int .i64 0 := slot_is' u42e
      have HP := Lib.hid hp
      clear hp
      go_simp
      refine hK.out _ _ ?_ (Ext.refl _) (fun h => absurd h (by simp))
      exact rfl
    · refine RStep.op rfl rfl (fun ac wk hp K hK => ?_)
      have u41e := hp.get 41 (by decide +kernel) rfl
      have t100_ : ac.tmps[100]?.getD undef = .bool true := slot_is' u41e
      have u43e := hp.get 43 (by decide +kernel) rfl
      have t102_ : ac.tmps[102]?.getD undef = .bool true := slot_is' u43e
      have HP := Lib.hid hp
      clear hp
      go_simp
      refine hK.out _ _ ?_ (Ext.refl _) (fun h => absurd h (by simp))
      exact rfl
    · refine RStep.op rfl rfl (fun ac wk hp K hK => ?_)
      have u44e := hp.get 44 (by decide +kernel) rfl
      have t103_ : ac.tmps[103]?.getD undef = .bool true := slot_is' u44e
      have HP := Lib.hid hp
      clear hp
      go_simp
      refine hK.out _ _ ?_ (Ext.refl _) (fun h => absurd h (by simp))
      exact rfl
    · refine RStep.yes 45 true rfl rfl (by decide +kernel) rfl rfl (fun ac wk hp K hK => ?_)
      have t11_ : ac.tmps[11]?.getD undef = .pointer (some ⟨w14.heap.size, 0, none⟩) := hp.slot 11 rfl rfl
      have c0_ := hp.cell 15 rfl
      have c1_ := hp.cell 16 rfl
      have c2_ := hp.cell 17 rfl
      have HP := Lib.hid hp
      clear hp
      go_simp
      refine hK.out _ _ ?_ (Ext.refl _) (fun h => absurd h (by simp))
      exact ⟨_, _, _, _, _, _, _, _, _, rfl, (e8.gr ((y15.gr.trans (x16.gr.trans (y17.gr.trans (x18.gr.trans (x19.gr.trans y20.gr))))).trans HP.out.gr)), ((o8.gr ((y15.gr.trans (x16.gr.trans (y17.gr.trans (x18.gr.trans (x19.gr.trans y20.gr))))).trans HP.out.gr)).mono e13_.size)⟩
    · refine RStep.yes 45 true rfl rfl (by decide +kernel) rfl rfl (fun ac wk hp K hK => ?_)
      have HP := Lib.hid hp
      clear hp
      go_simp
      refine (lover_is (q := (mkRat (-1) 2)) _ 1 (-2) (by decide) (by decide) (by decide) (by decide) (by decide) (by decide +kernel)).mono ?_
      rintro e wk' ⟨sb20, sv20, su20, sm20, sd20, rfl, e20, o20, ix⟩
      obtain ⟨sp20, sl20, sc20, tp20, tl20, tc20, rfl, rfl⟩ := e20.slice
      refine hK.out _ _ ?_ ix (fun h => absurd h (by simp))
      exact ⟨_, _, _, _, _, _, _, _, _, rfl, e20, (o20.mono (Nat.le_trans e20_.size HP.out.gr.size))⟩
    · refine RStep.yes 45 true rfl rfl (by decide +kernel) rfl rfl (fun ac wk hp K hK => ?_)
      obtain ⟨u46b, u46p, u46n, u46c, u46q, u46k, u46d, u46m, u46l, u46e, u46i, u46o⟩ := hp.get 46 (by decide +kernel) rfl
      have t105_ : ac.tmps[105]?.getD undef = .agg #[.bool u46b, .slice u46p u46n u46c, .slice u46q u46k u46d] := slot_is' u46e
      obtain ⟨u47b, u47p, u47n, u47c, u47q, u47k, u47d, u47m, u47l, u47e, u47i, u47o⟩ := hp.get 47 (by decide +kernel) rfl
      have t106_ : ac.tmps[106]?.getD undef = .agg #[.bool u47b, .slice u47p u47n u47c, .slice u47q u47k u47d] := slot_is' u47e
      have HP := Lib.hid hp
      clear hp
      go_simp
      refine (is_is u46i u47i true (decide_eq_true (show ((mkRat (-1) 2) : Rat) = (mkRat (-1) 2) from rfl))).mono ?_
      rintro e wk' ⟨rfl, ix⟩
      refine hK.out _ _ ?_ ix (fun h => absurd h (by simp))
      exact rfl
    · refine RStep.op rfl rfl (fun ac wk hp K hK => ?_)
      have u45e := hp.get 45 (by decide +kernel) rfl
      have t104_ : ac.tmps[104]?.getD undef = .bool true := slot_is' u45e
      have u48e := hp.get 48 (by decide +kernel) rfl
      have t107_ : ac.tmps[107]?.getD undef = .bool true := slot_is' u48e
      have HP := Lib.hid hp
      clear hp
      go_simp
      refine hK.out _ _ ?_ (Ext.refl _) (fun h => absurd h (by simp))
      exact rfl
    · refine RStep.op rfl rfl (fun ac wk hp K hK => ?_)
      have u49e := hp.get 49 (by decide +kernel) rfl
      have t108_ : ac.tmps[108]?.getD undef = .bool true := slot_is' u49e
      have HP := Lib.hid hp
      clear hp
      go_simp
      refine hK.out _ _ ?_ (Ext.refl _) (fun h => absurd h (by simp))
      exact rfl
    · refine RStep.yes 50 true rfl rfl (by decide +kernel) rfl rfl (fun ac wk hp K hK => ?_)
      have t14_ : ac.tmps[14]?.getD undef = .int .i64 0 := hp.slot 14 rfl rfl
      have HP := Lib.hid hp
      clear hp
      go_simp
      refine hK.out _ _ ?_ (Ext.refl _) (fun h => absurd h (by simp))
      exact rfl
    · refine RStep.yes 50 true rfl rfl (by decide +kernel) rfl rfl (fun ac wk hp K hK => ?_)
      have u51e := hp.get 51 (by decide +kernel) rfl
      have t110_ : ac.tmps[110]?.getD undef = .int .i64 0 := slot_is' u51e
      have HP := Lib.hid hp
      clear hp
      go_simp
      refine hK.out _ _ ?_ (Ext.refl _) (fun h => absurd h (by simp))
      exact rfl
    · refine RStep.op rfl rfl (fun ac wk hp K hK => ?_)
      have u50e := hp.get 50 (by decide +kernel) rfl
      have t109_ : ac.tmps[109]?.getD undef = .bool true := slot_is' u50e
      have u52e := hp.get 52 (by decide +kernel) rfl
      have t111_ : ac.tmps[111]?.getD undef = .bool true := slot_is' u52e
      have HP := Lib.hid hp
      clear hp
      go_simp
      refine hK.out _ _ ?_ (Ext.refl _) (fun h => absurd h (by simp))
      exact rfl
    · refine RStep.op rfl rfl (fun ac wk hp K hK => ?_)
      have u53e := hp.get 53 (by decide +kernel) rfl
      have t112_ : ac.tmps[112]?.getD undef = .bool true := slot_is' u53e
      have HP := Lib.hid hp
      clear hp
      go_simp
      refine hK.out _ _ ?_ (Ext.refl _) (fun h => absurd h (by simp))
      exact rfl
    · refine RStep.yes 54 true rfl rfl (by decide +kernel) rfl rfl (fun ac wk hp K hK => ?_)
      have t13_ : ac.tmps[13]?.getD undef = .pointer (some ⟨w16.heap.size, 0, none⟩) := hp.slot 13 rfl rfl
      have c0_ := hp.cell 18 rfl
      have c1_ := hp.cell 19 rfl
      have c2_ := hp.cell 20 rfl
      have HP := Lib.hid hp
      clear hp
      go_simp
      refine hK.out _ _ ?_ (Ext.refl _) (fun h => absurd h (by simp))
      exact ⟨_, _, _, _, _, _, _, _, _, rfl, (e9.gr ((y17.gr.trans (x18.gr.trans (x19.gr.trans y20.gr))).trans HP.out.gr)), ((o9.gr ((y17.gr.trans (x18.gr.trans (x19.gr.trans y20.gr))).trans HP.out.gr)).mono e15_.size)⟩
    · refine RStep.yes 54 true rfl rfl (by decide +kernel) rfl rfl (fun ac wk hp K hK => ?_)
      obtain ⟨u55b, u55p, u55n, u55c, u55q, u55k, u55d, u55m, u55l, u55e, u55i, u55o⟩ := hp.get 55 (by decide +kernel) rfl
      have t114_ : ac.tmps[114]?.getD undef = .agg #[.bool u55b, .slice u55p u55n u55c, .slice u55q u55k u55d] := slot_is' u55e
      have HP := Lib.hid hp
      clear hp
      go_simp
      refine (rshow_is (u55i.inR (k := 1) (by unfold LenR; rw [Nat.pow_one, Bs_def]; decide +kernel)) (by decide) ⟨#[49, 47, 56]⟩ (showR_of (by decide +kernel) (by decide +kernel))).mono ?_
      rintro e wk' ⟨rfl, ix⟩
      refine hK.out _ _ ?_ ix (fun h => absurd h (by simp))
      exact rfl
    · refine RStep.yes 54 true rfl rfl (by decide +kernel) rfl rfl (fun ac wk hp K hK => ?_)
      have u56e := hp.get 56 (by decide +kernel) rfl
      have t115_ : ac.tmps[115]?.getD undef = .string ⟨#[49, 47, 56]⟩ := slot_is' u56e
      have HP := Lib.hid hp
      clear hp
      go_simp
      refine hK.out _ _ ?_ (Ext.refl _) (fun h => absurd h (by simp))
      exact rfl
    · refine RStep.op rfl rfl (fun ac wk hp K hK => ?_)
      have u54e := hp.get 54 (by decide +kernel) rfl
      have t113_ : ac.tmps[113]?.getD undef = .bool true := slot_is' u54e
      have u57e := hp.get 57 (by decide +kernel) rfl
      have t116_ : ac.tmps[116]?.getD undef = .bool true := slot_is' u57e
      have HP := Lib.hid hp
      clear hp
      go_simp
      refine hK.out _ _ ?_ (Ext.refl _) (fun h => absurd h (by simp))
      exact rfl
    · refine RStep.op rfl rfl (fun ac wk hp K hK => ?_)
      have u58e := hp.get 58 (by decide +kernel) rfl
      have t117_ : ac.tmps[117]?.getD undef = .bool true := slot_is' u58e
      have HP := Lib.hid hp
      clear hp
      go_simp
      refine hK.out _ _ ?_ (Ext.refl _) (fun h => absurd h (by simp))
      exact rfl
    · refine RStep.yes 59 true rfl rfl (by decide +kernel) rfl rfl (fun ac wk hp K hK => ?_)
      have t16_ : ac.tmps[16]?.getD undef = .int .i64 0 := hp.slot 16 rfl rfl
      have HP := Lib.hid hp
      clear hp
      go_simp
      refine hK.out _ _ ?_ (Ext.refl _) (fun h => absurd h (by simp))
      exact rfl
    · refine RStep.yes 59 true rfl rfl (by decide +kernel) rfl rfl (fun ac wk hp K hK => ?_)
      have u60e := hp.get 60 (by decide +kernel) rfl
      have t119_ : ac.tmps[119]?.getD undef = .int .i64 0 := slot_is' u60e
      have HP := Lib.hid hp
      clear hp
      go_simp
      refine hK.out _ _ ?_ (Ext.refl _) (fun h => absurd h (by simp))
      exact rfl
    · refine RStep.op rfl rfl (fun ac wk hp K hK => ?_)
      have u59e := hp.get 59 (by decide +kernel) rfl
      have t118_ : ac.tmps[118]?.getD undef = .bool true := slot_is' u59e
      have u61e := hp.get 61 (by decide +kernel) rfl
      have t120_ : ac.tmps[120]?.getD undef = .bool true := slot_is' u61e
      have HP := Lib.hid hp
      clear hp
      go_simp
      refine hK.out _ _ ?_ (Ext.refl _) (fun h => absurd h (by simp))
      exact rfl
    · refine RStep.op rfl rfl (fun ac wk hp K hK => ?_)
      have u62e := hp.get 62 (by decide +kernel) rfl
      have t121_ : ac.tmps[121]?.getD undef = .bool true := slot_is' u62e
      have HP := Lib.hid hp
      clear hp
      go_simp
      refine hK.out _ _ ?_ (Ext.refl _) (fun h => absurd h (by simp))
      exact rfl
    · refine RStep.yes 63 true rfl rfl (by decide +kernel) rfl rfl (fun ac wk hp K hK => ?_)
      have t15_ : ac.tmps[15]?.getD undef = .pointer (some ⟨w19.heap.size, 0, none⟩) := hp.slot 15 rfl rfl
      have c0_ := hp.cell 21 rfl
      have c1_ := hp.cell 22 rfl
      have c2_ := hp.cell 23 rfl
      have HP := Lib.hid hp
      clear hp
      go_simp
      refine hK.out _ _ ?_ (Ext.refl _) (fun h => absurd h (by simp))
      exact ⟨_, _, _, _, _, _, _, _, _, rfl, (e11.gr (y20.gr.trans HP.out.gr)), ((o11.gr (y20.gr.trans HP.out.gr)).mono e18_.size)⟩
    · refine RStep.yes 63 true rfl rfl (by decide +kernel) rfl rfl (fun ac wk hp K hK => ?_)
      obtain ⟨u64b, u64p, u64n, u64c, u64q, u64k, u64d, u64m, u64l, u64e, u64i, u64o⟩ := hp.get 64 (by decide +kernel) rfl
      have t123_ : ac.tmps[123]?.getD undef = .agg #[.bool u64b, .slice u64p u64n u64c, .slice u64q u64k u64d] := slot_is' u64e
      have HP := Lib.hid hp
      clear hp
      go_simp
      refine (rshow_is (u64i.inR (k := 1) (by unfold LenR; rw [Nat.pow_one, Bs_def]; decide +kernel)) (by decide) ⟨#[45, 49, 47, 56]⟩ (showR_of (by decide +kernel) (by decide +kernel))).mono ?_
      rintro e wk' ⟨rfl, ix⟩
      refine hK.out _ _ ?_ ix (fun h => absurd h (by simp))
      exact rfl
    · refine RStep.yes 63 true rfl rfl (by decide +kernel) rfl rfl (fun ac wk hp K hK => ?_)
      have u65e := hp.get 65 (by decide +kernel) rfl
      have t124_ : ac.tmps[124]?.getD undef = .string ⟨#[45, 49, 47, 56]⟩ := slot_is' u65e
      have HP := Lib.hid hp
      clear hp
      go_simp
      refine hK.out _ _ ?_ (Ext.refl _) (fun h => absurd h (by simp))
      exact rfl
    · refine RStep.op rfl rfl (fun ac wk hp K hK => ?_)
      have u63e := hp.get 63 (by decide +kernel) rfl
      have t122_ : ac.tmps[122]?.getD undef = .bool true := slot_is' u63e
      have u66e := hp.get 66 (by decide +kernel) rfl
      have t125_ : ac.tmps[125]?.getD undef = .bool true := slot_is' u66e
      have HP := Lib.hid hp
      clear hp
      go_simp
      refine hK.out _ _ ?_ (Ext.refl _) (fun h => absurd h (by simp))
      exact rfl
    · refine RStep.op rfl rfl (fun ac wk hp K hK => ?_)
      have u67e := hp.get 67 (by decide +kernel) rfl
      have t126_ : ac.tmps[126]?.getD undef = .bool true := slot_is' u67e
      have HP := Lib.hid hp
      clear hp
      go_simp
      refine hK.out _ _ ?_ (Ext.refl _) (fun h => absurd h (by simp))
      exact rfl
    · refine RStep.yes 68 true rfl rfl (by decide +kernel) rfl rfl (fun ac wk hp K hK => ?_)
      have HP := Lib.hid hp
      clear hp
      go_simp
      refine (rof_is _ 3 (by decide) (by decide)).mono ?_
      rintro e wk' ⟨sb24, sv24, su24, sm24, sd24, rfl, e24, o24, ix⟩
      obtain ⟨sp24, sl24, sc24, tp24, tl24, tc24, rfl, rfl⟩ := e24.slice
      refine hK.out _ _ ?_ ix (fun h => absurd h (by simp))
      exact ⟨_, _, _, _, _, _, _, _, _, rfl, e24, (o24.mono (Nat.le_trans e20_.size HP.out.gr.size))⟩
    · refine RStep.yes 68 true rfl rfl (by decide +kernel) rfl rfl (fun ac wk hp K hK => ?_)
      obtain ⟨u69b, u69p, u69n, u69c, u69q, u69k, u69d, u69m, u69l, u69e, u69i, u69o⟩ := hp.get 69 (by decide +kernel) rfl
      have t128_ : ac.tmps[128]?.getD undef = .agg #[.bool u69b, .slice u69p u69n u69c, .slice u69q u69k u69d] := slot_is' u69e
      have HP := Lib.hid hp
      clear hp
      go_simp
      refine (rshow_is (u69i.inR (k := 1) (LenR.int (LenI.small (by have h1 : (-9223372036854775808 : Int) ≤ 3 := (by decide); have h2 : 3 ≤ (9223372036854775807 : Int) := (by decide); omega)) (by decide))) (by decide) ⟨#[51]⟩ (showR_of (by decide +kernel) (by decide +kernel))).mono ?_
      rintro e wk' ⟨rfl, ix⟩
      refine hK.out _ _ ?_ ix (fun h => absurd h (by simp))
      exact rfl
    · refine RStep.yes 68 true rfl rfl (by decide +kernel) rfl rfl (fun ac wk hp K hK => ?_)
      have u70e := hp.get 70 (by decide +kernel) rfl
      have t129_ : ac.tmps[129]?.getD undef = .string ⟨#[51]⟩ := slot_is' u70e
      have HP := Lib.hid hp
      clear hp
      go_simp
      refine hK.out _ _ ?_ (Ext.refl _) (fun h => absurd h (by simp))
      exact rfl
    · refine RStep.op rfl rfl (fun ac wk hp K hK => ?_)
      have u68e := hp.get 68 (by decide +kernel) rfl
      have t127_ : ac.tmps[127]?.getD undef = .bool true := slot_is' u68e
      have u71e := hp.get 71 (by decide +kernel) rfl
      have t130_ : ac.tmps[130]?.getD undef = .bool true := slot_is' u71e
      have HP := Lib.hid hp
      clear hp
      go_simp
      refine hK.out _ _ ?_ (Ext.refl _) (fun h => absurd h (by simp))
      exact rfl
    · refine RStep.op rfl rfl (fun ac wk hp K hK => ?_)
      have u72e := hp.get 72 (by decide +kernel) rfl
      have t131_ : ac.tmps[131]?.getD undef = .bool true := slot_is' u72e
      have HP := Lib.hid hp
      clear hp
      go_simp
      refine hK.out _ _ ?_ (Ext.refl _) (fun h => absurd h (by simp))
      exact rfl
  case he =>
    intro ac v21 hM
    have y1_0e := hM.post 0 rfl rfl
    have y1_1e := hM.post 1 rfl rfl
    have y1_2e := hM.post 2 rfl rfl
    obtain ⟨y1_3b, y1_3p, y1_3n, y1_3c, y1_3q, y1_3k, y1_3d, y1_3m, y1_3l, y1_3e, y1_3i, y1_3o⟩ := hM.post 3 rfl rfl
    have y1_4e := hM.post 4 rfl rfl
    have y1_5e := hM.post 5 rfl rfl
    have y1_6e := hM.post 6 rfl rfl
    have y1_7e := hM.post 7 rfl rfl
    have y1_8e := hM.post 8 rfl rfl
    have y1_9e := hM.post 9 rfl rfl
    have y1_10e := hM.post 10 rfl rfl
    have y1_11e := hM.post 11 rfl rfl
    obtain ⟨y1_12b, y1_12p, y1_12n, y1_12c, y1_12q, y1_12k, y1_12d, y1_12m, y1_12l, y1_12e, y1_12i, y1_12o⟩ := hM.post 12 rfl rfl
    obtain ⟨y1_13p, y1_13n, y1_13c, y1_13e, y1_13i⟩ := hM.post 13 rfl rfl
    obtain ⟨y1_14b, y1_14p, y1_14n, y1_14c, y1_14q, y1_14k, y1_14d, y1_14m, y1_14l, y1_14e, y1_14i⟩ := hM.post 14 rfl rfl
    have y1_15e := hM.post 15 rfl rfl
    have y1_16e := hM.post 16 rfl rfl
    have y1_17e := hM.post 17 rfl rfl
    have y1_18e := hM.post 18 rfl rfl
    have y1_19e := hM.post 19 rfl rfl
    have y1_20e := hM.post 20 rfl rfl
    have y1_21e := hM.post 21 rfl rfl
    obtain ⟨y1_22b, y1_22p, y1_22n, y1_22c, y1_22q, y1_22k, y1_22d, y1_22m, y1_22l, y1_22e, y1_22i, y1_22o⟩ := hM.post 22 rfl rfl
    have y1_23e := hM.post 23 rfl rfl
    have y1_24e := hM.post 24 rfl rfl
    have y1_25e := hM.post 25 rfl rfl
    have y1_26e := hM.post 26 rfl rfl
    obtain ⟨y1_27b, y1_27p, y1_27n, y1_27c, y1_27q, y1_27k, y1_27d, y1_27m, y1_27l, y1_27e, y1_27i, y1_27o⟩ := hM.post 27 rfl rfl
    obtain ⟨y1_28b, y1_28p, y1_28n, y1_28c, y1_28q, y1_28k, y1_28d, y1_28m, y1_28l, y1_28e, y1_28i, y1_28o⟩ := hM.post 28 rfl rfl
    obtain ⟨y1_29b, y1_29p, y1_29n, y1_29c, y1_29q, y1_29k, y1_29d, y1_29m, y1_29l, y1_29e, y1_29i, y1_29o⟩ := hM.post 29 rfl rfl
    have y1_30e := hM.post 30 rfl rfl
    have y1_31e := hM.post 31 rfl rfl
    have y1_32e := hM.post 32 rfl rfl
    have y1_33e := hM.post 33 rfl rfl
    have y1_34e := hM.post 34 rfl rfl
    have y1_35e := hM.post 35 rfl rfl
    have y1_36e := hM.post 36 rfl rfl
    have y1_37e := hM.post 37 rfl rfl
    have y1_38e := hM.post 38 rfl rfl
    have y1_39e := hM.post 39 rfl rfl
    have y1_40e := hM.post 40 rfl rfl
    have y1_41e := hM.post 41 rfl rfl
    have y1_42e := hM.post 42 rfl rfl
    have y1_43e := hM.post 43 rfl rfl
    have y1_44e := hM.post 44 rfl rfl
    have y1_45e := hM.post 45 rfl rfl
    obtain ⟨y1_46b, y1_46p, y1_46n, y1_46c, y1_46q, y1_46k, y1_46d, y1_46m, y1_46l, y1_46e, y1_46i, y1_46o⟩ := hM.post 46 rfl rfl
    obtain ⟨y1_47b, y1_47p, y1_47n, y1_47c, y1_47q, y1_47k, y1_47d, y1_47m, y1_47l, y1_47e, y1_47i, y1_47o⟩ := hM.post 47 rfl rfl
    have y1_48e := hM.post 48 rfl rfl
    have y1_49e := hM.post 49 rfl rfl
    have y1_50e := hM.post 50 rfl rfl
    have y1_51e := hM.post 51 rfl rfl
    have y1_52e := hM.post 52 rfl rfl
    have y1_53e := hM.post 53 rfl rfl
    have y1_54e := hM.post 54 rfl rfl
    obtain ⟨y1_55b, y1_55p, y1_55n, y1_55c, y1_55q, y1_55k, y1_55d, y1_55m, y1_55l, y1_55e, y1_55i, y1_55o⟩ := hM.post 55 rfl rfl
    have y1_56e := hM.post 56 rfl rfl
    have y1_57e := hM.post 57 rfl rfl
    have y1_58e := hM.post 58 rfl rfl
    have y1_59e := hM.post 59 rfl rfl
    have y1_60e := hM.post 60 rfl rfl
    have y1_61e := hM.post 61 rfl rfl
    have y1_62e := hM.post 62 rfl rfl
    have y1_63e := hM.post 63 rfl rfl
    obtain ⟨y1_64b, y1_64p, y1_64n, y1_64c, y1_64q, y1_64k, y1_64d, y1_64m, y1_64l, y1_64e, y1_64i, y1_64o⟩ := hM.post 64 rfl rfl
    have y1_65e := hM.post 65 rfl rfl
    have y1_66e := hM.post 66 rfl rfl
    have y1_67e := hM.post 67 rfl rfl
    have y1_68e := hM.post 68 rfl rfl
    obtain ⟨y1_69b, y1_69p, y1_69n, y1_69c, y1_69q, y1_69k, y1_69d, y1_69m, y1_69l, y1_69e, y1_69i, y1_69o⟩ := hM.post 69 rfl rfl
    have y1_70e := hM.post 70 rfl rfl
    have y1_71e := hM.post 71 rfl rfl
    have y1_72e := hM.post 72 rfl rfl
    have y1_73e := hM.post 73 rfl rfl
    have b2_0 : Hid (At (w2.heap.size) 0 (.bool sb1) v21) := Lib.hid (hM.keep.at 0 rfl)
    have b2_1 : Hid (At (w2.heap.size) 1 (.slice sp1 sl1 sc1) v21) := Lib.hid (hM.keep.at 1 rfl)
    have b2_2 : Hid (At (w2.heap.size) 2 (.slice tp1 tl1 tc1) v21) := Lib.hid (hM.keep.at 2 rfl)
    have b4_0 : Hid (At (w4.heap.size) 0 (.bool sb2) v21) := Lib.hid (hM.keep.at 3 rfl)
    have b4_1 : Hid (At (w4.heap.size) 1 (.slice sp2 sl2 sc2) v21) := Lib.hid (hM.keep.at 4 rfl)
    have b4_2 : Hid (At (w4.heap.size) 2 (.slice tp2 tl2 tc2) v21) := Lib.hid (hM.keep.at 5 rfl)
    have b6_0 : Hid (At (w6.heap.size) 0 (.bool false) v21) := Lib.hid (hM.keep.at 6 rfl)
    have b6_1 : Hid (At (w6.heap.size) 1 (.slice none 0 0) v21) := Lib.hid (hM.keep.at 7 rfl)
    have b6_2 : Hid (At (w6.heap.size) 2 (.slice none 0 0) v21) := Lib.hid (hM.keep.at 8 rfl)
    have b7_0 : Hid (At (w10.heap.size) 0 (.bool false) v21) := Lib.hid (hM.keep.at 9 rfl)
    have b7_1 : Hid (At (w10.heap.size) 1 (.slice none 0 0) v21) := Lib.hid (hM.keep.at 10 rfl)
    have b7_2 : Hid (At (w10.heap.size) 2 (.slice none 0 0) v21) := Lib.hid (hM.keep.at 11 rfl)
    have b8_0 : Hid (At (w12.heap.size) 0 (.bool false) v21) := Lib.hid (hM.keep.at 12 rfl)
    have b8_1 : Hid (At (w12.heap.size) 1 (.slice none 0 0) v21) := Lib.hid (hM.keep.at 13 rfl)
    have b8_2 : Hid (At (w12.heap.size) 2 (.slice none 0 0) v21) := Lib.hid (hM.keep.at 14 rfl)
    have b9_0 : Hid (At (w14.heap.size) 0 (.bool sb8) v21) := Lib.hid (hM.keep.at 15 rfl)
    have b9_1 : Hid (At (w14.heap.size) 1 (.slice sp8 sl8 sc8) v21) := Lib.hid (hM.keep.at 16 rfl)
    have b9_2 : Hid (At (w14.heap.size) 2 (.slice tp8 tl8 tc8) v21) := Lib.hid (hM.keep.at 17 rfl)
    have b10_0 : Hid (At (w16.heap.size) 0 (.bool sb9) v21) := Lib.hid (hM.keep.at 18 rfl)
    have b10_1 : Hid (At (w16.heap.size) 1 (.slice sp9 sl9 sc9) v21) := Lib.hid (hM.keep.at 19 rfl)
    have b10_2 : Hid (At (w16.heap.size) 2 (.slice tp9 tl9 tc9) v21) := Lib.hid (hM.keep.at 20 rfl)
    have b11_0 : Hid (At (w19.heap.size) 0 (.bool sb11) v21) := Lib.hid (hM.keep.at 21 rfl)
    have b11_1 : Hid (At (w19.heap.size) 1 (.slice sp11 sl11 sc11) v21) := Lib.hid (hM.keep.at 22 rfl)
    have b11_2 : Hid (At (w19.heap.size) 2 (.slice tp11 tl11 tc11) v21) := Lib.hid (hM.keep.at 23 rfl)
    have gv21 : Gr v20 v21 := hM.gr
    have e21_ : Ext w v21 := Ext.below e20_ hM.blw
    have z0_ : sl ac 59 = .int .i64 0 := y1_0e
    have z1_ : sl ac 60 = .bool true := y1_1e
    have z2_ : sl ac 61 = .bool true := y1_2e
    have z3_ : sl ac 62 = .agg #[.bool y1_3b, .slice y1_3p y1_3n y1_3c, .slice y1_3q y1_3k y1_3d] := y1_3e
    have z4_ : sl ac 63 = .string ⟨#[50, 47, 51]⟩ := y1_4e
    have z5_ : sl ac 64 = .bool true := y1_5e
    have z6_ : sl ac 65 = .bool true := y1_6e
    have z7_ : sl ac 66 = .bool true := y1_7e
    have z8_ : sl ac 67 = .int .i64 0 := y1_8e
    have z9_ : sl ac 68 = .bool true := y1_9e
    have z10_ : sl ac 69 = .bool true := y1_10e
    have z11_ : sl ac 70 = .bool true := y1_11e
    have z12_ : sl ac 71 = .agg #[.bool y1_12b, .slice y1_12p y1_12n y1_12c, .slice y1_12q y1_12k y1_12d] := y1_12e
    have z13_ : sl ac 72 = .slice y1_13p y1_13n y1_13c := y1_13e
    have z14_ : sl ac 73 = .agg #[.bool y1_14b, .slice y1_14p y1_14n y1_14c, .slice y1_14q y1_14k y1_14d] := y1_14e
    have z15_ : sl ac 74 = .bool true := y1_15e
    have z16_ : sl ac 75 = .bool true := y1_16e
    have z17_ : sl ac 76 = .bool true := y1_17e
    have z18_ : sl ac 77 = .int .i64 7 := y1_18e
    have z19_ : sl ac 78 = .bool true := y1_19e
    have z20_ : sl ac 79 = .bool true := y1_20e
    have z21_ : sl ac 80 = .bool true := y1_21e
    have z22_ : sl ac 81 = .agg #[.bool y1_22b, .slice y1_22p y1_22n y1_22c, .slice y1_22q y1_22k y1_22d] := y1_22e
    have z23_ : sl ac 82 = .string ⟨#[45, 49, 47, 50]⟩ := y1_23e
    have z24_ : sl ac 83 = .bool true := y1_24e
    have z25_ : sl ac 84 = .bool true := y1_25e
    have z26_ : sl ac 85 = .bool true := y1_26e
    have z27_ : sl ac 86 = .agg #[.bool y1_27b, .slice y1_27p y1_27n y1_27c, .slice y1_27q y1_27k y1_27d] := y1_27e
    have z28_ : sl ac 87 = .agg #[.bool y1_28b, .slice y1_28p y1_28n y1_28c, .slice y1_28q y1_28k y1_28d] := y1_28e
    have z29_ : sl ac 88 = .agg #[.bool y1_29b, .slice y1_29p y1_29n y1_29c, .slice y1_29q y1_29k y1_29d] := y1_29e
    have z30_ : sl ac 89 = .string ⟨#[53, 47, 54]⟩ := y1_30e
    have z31_ : sl ac 90 = .bool true := y1_31e
    have z32_ : sl ac 91 = .bool true := y1_32e
    have z33_ : sl ac 92 = .bool true := y1_33e
    have z34_ : sl ac 93 = .int .i64 7 := y1_34e
    have z35_ : sl ac 94 = .bool true := y1_35e
    have z36_ : sl ac 95 = .bool true := y1_36e
    have z37_ : sl ac 96 = .bool true := y1_37e
    have z38_ : sl ac 97 = .int .i64 3 := y1_38e
    have z39_ : sl ac 98 = .bool true := y1_39e
    have z40_ : sl ac 99 = .bool true := y1_40e
    have z41_ : sl ac 100 = .bool true := y1_41e
    have z42_ : sl ac 101 = .int .i64 0 := y1_42e
    have z43_ : sl ac 102 = .bool true := y1_43e
    have z44_ : sl ac 103 = .bool true := y1_44e
    have z45_ : sl ac 104 = .bool true := y1_45e
    have z46_ : sl ac 105 = .agg #[.bool y1_46b, .slice y1_46p y1_46n y1_46c, .slice y1_46q y1_46k y1_46d] := y1_46e
    have z47_ : sl ac 106 = .agg #[.bool y1_47b, .slice y1_47p y1_47n y1_47c, .slice y1_47q y1_47k y1_47d] := y1_47e
    have z48_ : sl ac 107 = .bool true := y1_48e
    have z49_ : sl ac 108 = .bool true := y1_49e
    have z50_ : sl ac 109 = .bool true := y1_50e
    have z51_ : sl ac 110 = .int .i64 0 := y1_51e
    have z52_ : sl ac 111 = .bool true := y1_52e
    have z53_ : sl ac 112 = .bool true := y1_53e
    have z54_ : sl ac 113 = .bool true := y1_54e
    have z55_ : sl ac 114 = .agg #[.bool y1_55b, .slice y1_55p y1_55n y1_55c, .slice y1_55q y1_55k y1_55d] := y1_55e
    have z56_ : sl ac 115 = .string ⟨#[49, 47, 56]⟩ := y1_56e
    have z57_ : sl ac 116 = .bool true := y1_57e
    have z58_ : sl ac 117 = .bool true := y1_58e
    have z59_ : sl ac 118 = .bool true := y1_59e
    have z60_ : sl ac 119 = .int .i64 0 := y1_60e
    have z61_ : sl ac 120 = .bool true := y1_61e
    have z62_ : sl ac 121 = .bool true := y1_62e
    have z63_ : sl ac 122 = .bool true := y1_63e
    have z64_ : sl ac 123 = .agg #[.bool y1_64b, .slice y1_64p y1_64n y1_64c, .slice y1_64q y1_64k y1_64d] := y1_64e
    have z65_ : sl ac 124 = .string ⟨#[45, 49, 47, 56]⟩ := y1_65e
    have z66_ : sl ac 125 = .bool true := y1_66e
    have z67_ : sl ac 126 = .bool true := y1_67e
    have z68_ : sl ac 127 = .bool true := y1_68e
    have z69_ : sl ac 128 = .agg #[.bool y1_69b, .slice y1_69p y1_69n y1_69c, .slice y1_69q y1_69k y1_69d] := y1_69e
    have z70_ : sl ac 129 = .string ⟨#[51]⟩ := y1_70e
    have z71_ : sl ac 130 = .bool true := y1_71e
    have z72_ : sl ac 131 = .bool true := y1_72e
    have z73_ : sl ac 0 = .bool true := y1_73e
    rw [hM.ag.lay]
    simp only [lay, List.foldl_cons, List.foldl_nil, List.setIfInBounds_toArray, List.set_cons_zero, List.set_cons_succ, z0_, z1_, z2_, z3_, z4_, z5_, z6_, z7_, z8_, z9_, z10_, z11_, z12_, z13_, z14_, z15_, z16_, z17_, z18_, z19_, z20_, z21_, z22_, z23_, z24_, z25_, z26_, z27_, z28_, z29_, z30_, z31_, z32_, z33_, z34_, z35_, z36_, z37_, z38_, z39_, z40_, z41_, z42_, z43_, z44_, z45_, z46_, z47_, z48_, z49_, z50_, z51_, z52_, z53_, z54_, z55_, z56_, z57_, z58_, z59_, z60_, z61_, z62_, z63_, z64_, z65_, z66_, z67_, z68_, z69_, z70_, z71_, z72_, z73_]
    clear hM hkeep1 hob1 hne1 z0_ z1_ z2_ z3_ z4_ z5_ z6_ z7_ z8_ z9_ z10_ z11_ z12_ z13_ z14_ z15_ z16_ z17_ z18_ z19_ z20_ z21_ z22_ z23_ z24_ z25_ z26_ z27_ z28_ z29_ z30_ z31_ z32_ z33_ z34_ z35_ z36_ z37_ z38_ z39_ z40_ z41_ z42_ z43_ z44_ z45_ z46_ z47_ z48_ z49_ z50_ z51_ z52_ z53_ z54_ z55_ z56_ z57_ z58_ z59_ z60_ z61_ z62_ z63_ z64_ z65_ z66_ z67_ z68_ z69_ z70_ z71_ z72_ z73_ y1_0e y1_1e y1_2e y1_3e y1_4e y1_5e y1_6e y1_7e y1_8e y1_9e y1_10e y1_11e y1_12e y1_13e y1_14e y1_15e y1_16e y1_17e y1_18e y1_19e y1_20e y1_21e y1_22e y1_23e y1_24e y1_25e y1_26e y1_27e y1_28e y1_29e y1_30e y1_31e y1_32e y1_33e y1_34e y1_35e y1_36e y1_37e y1_38e y1_39e y1_40e y1_41e y1_42e y1_43e y1_44e y1_45e y1_46e y1_47e y1_48e y1_49e y1_50e y1_51e y1_52e y1_53e y1_54e y1_55e y1_56e y1_57e y1_58e y1_59e y1_60e y1_61e y1_62e y1_63e y1_64e y1_65e y1_66e y1_67e y1_68e y1_69e y1_70e y1_71e y1_72e y1_73e
    go_wp2_with fail
    go_ret
    exact ⟨rfl, e21_⟩

end Go.Proofs.YtaklejkdmfgplaaGreatDoor
