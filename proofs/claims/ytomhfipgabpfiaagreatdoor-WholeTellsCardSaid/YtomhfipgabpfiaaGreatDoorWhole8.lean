/- The law's awake. -/
import Derived.Test.YtomhfipgabpfiaaGreatDoorWhole7
namespace Go.Proofs.YtomhfipgabpfiaaGreatDoor
open Go Go.RowKit

theorem read_is (s : ByteArray) (w : World) (hs : s.size ≤ 500) (k : Int) (z : Int) (hk : ((errI s.data.toList : Nat) : Int) = k) (hz : readI s.data.toList = z) :
    Calls Tryz.prog 32 #[.string s] w fun e w' => ∃ b v m, e = .returned (.tuple #[.agg #[.bool b, v], .int .i64 k]) ∧ IsI w' b v m z ∧ Ext w w' := by
  subst hk hz
  exact (iread_calls s w hs).mono fun _ _ ⟨v, h1, h2, h3⟩ => ⟨_, v, _, h1, ⟨rfl, rfl, h2.limbs⟩, h3⟩
/-- a whole number's text -/
noncomputable def showI (z : Int) : List UInt8 := if z < 0 then 45 :: showL z.natAbs else showL z.natAbs
theorem show_is {w : World} {b : Bool} {v : Value} {k : Nat} {z : Int} (h : InI w b v k z) (hk : k ≤ 65535) (t : ByteArray) (ht : t.data.toList = showI z) (hz : (showL z.natAbs).length ≤ 4294967296) :
    Calls Tryz.prog 34 #[.agg #[.bool b, v]] w fun e w' => e = .returned (.string t) ∧ Ext w w' := by
  obtain ⟨A, a1, rfl, a3⟩ := h
  obtain ⟨s, hs⟩ := str_of (showL (iv b A).natAbs)
  exact ishow_calls a1 (by omega) b s t hs (by rw [ht, showI, hs]) (by rw [Lib.size_eq s, hs]; exact hz)

theorem errI_neg (t : List UInt8) : errI (45 :: t) = if errR t ≠ 0 then errR t else if readN t = 0 then 3 else 0 := by unfold errI; rw [if_pos (List.head?_cons ..), List.tail_cons]
theorem readI_neg (t : List UInt8) (h : errI (45 :: t) = 0) : readI (45 :: t) = -(readN t : Int) := by unfold readI; rw [if_neg (by rw [h]; simp), if_pos (List.head?_cons ..), List.tail_cons]
theorem err_big : errI [45, 49, 56, 52, 52, 54, 55, 52, 52, 48, 55, 51, 55, 48, 57, 53, 53, 49, 54, 49, 54] = 0 ∧ readI [45, 49, 56, 52, 52, 54, 55, 52, 52, 48, 55, 51, 55, 48, 57, 53, 53, 49, 54, 49, 54] = -18446744073709551616 := by
  have e1 : errR [49, 56, 52, 52, 54, 55, 52, 52, 48, 55, 51, 55, 48, 57, 53, 53, 49, 54, 49, 54] = 0 := by decide +kernel
  have e2 : readN [49, 56, 52, 52, 54, 55, 52, 52, 48, 55, 51, 55, 48, 57, 53, 53, 49, 54, 49, 54] = 18446744073709551616 := by decide +kernel
  have e3 : errI (45 :: [49, 56, 52, 52, 54, 55, 52, 52, 48, 55, 51, 55, 48, 57, 53, 53, 49, 54, 49, 54]) = 0 := by
    rw [errI_neg, e1, e2]; rfl
  exact ⟨e3, by rw [readI_neg _ e3, e2]; rfl⟩
theorem err_no : errI [45, 48] = 3 ∧ readI [45, 48] = 0 := by
  have e1 : errR [48] = 0 := by decide +kernel
  have e2 : readN [48] = 0 := by decide +kernel
  have e3 : errI (45 :: [48]) = 3 := by rw [errI_neg, e1, e2]; rfl
  exact ⟨e3, by unfold readI; rw [e3]; rfl⟩

/-- the boxes of awake -/
def AwkAt (s t : Nat) (n1 n2 n3 : Bool) (v1 v2 v3 : Value) (W : World) : Prop :=
  (W.cell? ⟨s, 0, none⟩ = some (.bool n1) ∧ W.cell? ⟨s, 1, none⟩ = some v1) ∧ (W.cell? ⟨s + 1, 0, none⟩ = some (.bool n2) ∧ W.cell? ⟨s + 1, 1, none⟩ = some v2) ∧ (W.cell? ⟨t, 0, none⟩ = some (.bool n3) ∧ W.cell? ⟨t, 1, none⟩ = some v3) ∧ s + 1 < W.heap.size ∧ t < W.heap.size
theorem AwkAt.ext {s t : Nat} {n1 n2 n3 : Bool} {v1 v2 v3 : Value} {a b : World} (h : AwkAt s t n1 n2 n3 v1 v2 v3 a) (x : Ext a b) : AwkAt s t n1 n2 n3 v1 v2 v3 b := by
  obtain ⟨⟨a1, a2⟩, ⟨b1, b2⟩, ⟨c1, c2⟩, hs, ht⟩ := h
  have := x.size
  refine ⟨⟨cell_ext x a1 ?_, cell_ext x a2 ?_⟩, ⟨cell_ext x b1 ?_, cell_ext x b2 ?_⟩, ⟨cell_ext x c1 ?_, cell_ext x c2 ?_⟩, ?_, ?_⟩ <;> (try simp only []) <;> omega
theorem big_is {w : World} : IsI (w.alloc (.cells #[.int .u64 0, .int .u64 1] 46)) true (.slice (some ⟨w.heap.size, 0, none⟩) 2 2) 18446744073709551616 (-18446744073709551616) := by
  refine ⟨by decide, by decide, ?_⟩
  have h : dig 18446744073709551616 = [0, 1] := by
    rw [← show val [0, 1] = 18446744073709551616 by simp [val, Bs_def]]
    exact dig_val (by rw [Bs_def]; simp) (.inr (by simp))
  rw [h]
  exact limbs_lit w [0, 1] (by rw [Bs_def]; simp) _ rfl 2 rfl (by rw [Lmax_def]; simp)
theorem big_len : LenI 2 (-18446744073709551616) := by unfold LenI; rw [show (2 : Nat) = 1 + 1 from rfl, Nat.pow_succ, Nat.pow_one, Bs_def]; decide
theorem show_m2 : (ByteArray.mk #[45, 50]).data.toList = showI (-2) := by
  unfold showI
  rw [if_pos (by decide), show showL ((-2 : Int)).natAbs = [50] from showL_of (by decide +kernel) (by decide +kernel)]

set_option maxHeartbeats 4000000 in
set_option maxRecDepth 100000 in
theorem lawake_calls (w : World) : Calls Tryz.prog 6 #[] w fun e w' => e = .returned (.bool true) ∧ Ext w w' := by
  have y0 := Ext.refl w
  go_enter Tryz.func6, Tryz.ntmps6
  go_wp2_with fail
  refine (of_is _ (-17) (by decide) (by decide)).mono ?_
  rintro e w1 ⟨b1, v1, m1, rfl, i1, x1⟩
  go_wp2_with fail
  refine (of_is _ (-5) (by decide) (by decide)).mono ?_
  rintro e w2 ⟨b2, v2, m2, rfl, i2, x2⟩
  go_wp2_with fail
  refine (divy_is ((i1.ext x2).inI (LenI.small (by decide))) (i2.inI (LenI.small (by decide))) (by decide) (by decide) (by decide)).mono ?_
  rintro e w3 ⟨b3, v3, m3, v4, m4, rfl, i3, i4, x3⟩
  obtain ⟨qa, qn, qc, rfl⟩ := i3.slice
  obtain ⟨ra, rn, rc, rfl⟩ := i4.slice
  rw [show (-17 : Int) / -5 = 4 by decide] at i3
  rw [show (-17 : Int) % -5 = 3 by decide] at i4
  go_wp2_with fail
  have y3 := (x1.trans (x2.trans x3))
  refine (of_is _ 1 (by decide) (by decide)).mono ?_
  rintro e w5 ⟨b5, v5, m5, rfl, i5, x5⟩
  obtain ⟨⟨p1, p2⟩, ⟨p3, p4⟩, -⟩ := box22 x5
  have hs5 : w3.heap.size + 1 < w5.heap.size := by have := x5.size; simp at this; omega
  have y5 : Ext w3 w5 := (((Ext.refl w3).alloc _).alloc _).trans x5
  go_wp2_with fail
  refine (of_is _ 0 (by decide) (by decide)).mono ?_
  rintro e w6 ⟨b6, v6, m6, rfl, i6, x6⟩
  go_wp2_with fail
  refine (divz_is ((i5.ext x6).inI (LenI.small (by decide))) (i6.inI (LenI.small (by decide))) (by decide) (by decide) rfl).mono ?_
  rintro e w7 ⟨v7, m7, v8, m8, rfl, i7, i8, x7⟩
  obtain ⟨sa, sn, sc, rfl⟩ := i7.slice
  obtain ⟨ta, tn, tc, rfl⟩ := i8.slice
  go_wp2_with fail
  refine (read_is _ _ (by decide) 0 (-18446744073709551616) (by rw [show _ = _ from err_big.1]; rfl) err_big.2).mono ?_
  rintro e w8 ⟨b8, v8, m9, rfl, i9, x8⟩
  obtain ⟨ua, un, uc, rfl⟩ := i9.slice
  go_wp2_with fail
  refine (read_is _ _ (by decide) 3 0 (by rw [show _ = _ from err_no.1]; rfl) err_no.2).mono ?_
  rintro e w9 ⟨b9, v9, m10, rfl, i10, x9⟩
  obtain ⟨za, zn, zc, rfl⟩ := i10.slice
  obtain ⟨t1, t2, -⟩ := box2 x9
  go_wp2_with fail
  refine (of_is _ (-9223372036854775808) (by decide) (by decide)).mono ?_
  rintro e w10 ⟨b10, v10, m10', rfl, i10', x10⟩
  go_wp2_with fail
  refine (small_is (i10'.inI (LenI.small (by decide))) (by decide) (-9223372036854775808) (by decide) true (by decide)).mono ?_
  rintro e w11 ⟨rfl, x11⟩
  go_wp2_with fail
  have Y9 : Ext w9 w11 := ((Ext.refl w9).alloc _).trans (x10.trans x11)
  have Y8 : Ext w8 w11 := ((((Ext.refl w8).alloc _).trans x9)).trans Y9
  have Y7 : Ext w7 w11 := ((((Ext.refl w7).alloc _).alloc _).trans x8).trans Y8
  have Y5 : Ext w5 w11 := x6.trans (x7.trans Y7)
  have Y3 : Ext w3 w11 := y5.trans Y5
  have Y0 : Ext w w11 := y3.trans Y3
  have B0 : AwkAt w3.heap.size w8.heap.size b3 false b8 (.slice qa qn qc) (.slice ra rn rc) (.slice ua un uc) w11 := ⟨⟨cell_ext Y5 p1 (by show w3.heap.size < _; omega), cell_ext Y5 p2 (by show w3.heap.size < _; omega)⟩, ⟨cell_ext Y5 p3 hs5, cell_ext Y5 p4 hs5⟩, ⟨cell_ext Y9 t1 (by have := x9.size; simp at this; show w8.heap.size < _; omega), cell_ext Y9 t2 (by have := x9.size; simp at this; show w8.heap.size < _; omega)⟩, by have := Y5.size; omega, by have := Y9.size; have := x9.size; simp at this; omega⟩
  have HB := Lib.hid B0
  obtain ⟨⟨g1, g2⟩, ⟨g3, g4⟩, ⟨g5, g6⟩, -⟩ := B0
  have X0 : Ext w11 w11.drew := (Ext.refl w11).drew
  have z0 := X0
  simp only [List.append_eq, List.cons_append, List.nil_append]
  go_region_held3 (fun W => W.cell? ⟨w3.heap.size, 0, none⟩ = some (.bool b3) ∧ W.cell? ⟨w3.heap.size, 1, none⟩ = some (.slice qa qn qc) ∧ W.cell? ⟨w3.heap.size + 1, 0, none⟩ = some (.bool false) ∧ W.cell? ⟨w3.heap.size + 1, 1, none⟩ = some (.slice ra rn rc) ∧ W.cell? ⟨w8.heap.size, 0, none⟩ = some (.bool b8) ∧ W.cell? ⟨w8.heap.size, 1, none⟩ = some (.slice ua un uc)) (go_keep)
    (first
      | (have pre := z18; go_at_call 28; refine (sign_is ((i9.ext (Y8.trans X18)).inI (k := 2) big_len) (by decide) (-1) (by decide)).mono ?_; rintro e a19 ⟨rfl, z19⟩; have X19 := X18.trans z19; obtain ⟨⟨g1, g2⟩, ⟨g3, g4⟩, ⟨g5, g6⟩, -⟩ := HB.out.ext X19)
      | (have pre := z17; go_at_call 24; refine (may_is (i9.ext (Y8.trans X17))).mono ?_; rintro e a18 ⟨rfl, z18⟩; have X18 := X17.trans z18; obtain ⟨⟨g1, g2⟩, ⟨g3, g4⟩, ⟨g5, g6⟩, -⟩ := HB.out.ext X18)
      | (have pre := z16; go_at_call 34; refine (show_is (e16.inI (LenI.small (by decide))) (by decide) ⟨#[45, 50]⟩ show_m2 (by decide +kernel)).mono ?_; rintro e a17 ⟨rfl, z17⟩; have X17 := X16.trans z17; obtain ⟨⟨g1, g2⟩, ⟨g3, g4⟩, ⟨g5, g6⟩, -⟩ := HB.out.ext X17)
      | (have pre := z15; go_at_call 26; refine (of_is _ (-2) (by decide) (by decide)).mono ?_; rintro e a16 ⟨sb16, sv16, sm16, rfl, e16, z16⟩; have X16 := X15.trans z16; obtain ⟨⟨g1, g2⟩, ⟨g3, g4⟩, ⟨g5, g6⟩, -⟩ := HB.out.ext X16)
      | (have pre := z14; go_at_call 33; refine (same_is (i9.ext (Y8.trans (X14.alloc _))) big_is true (by decide)).mono ?_; rintro e a15 ⟨rfl, z15⟩; have X15 := (X14.alloc _).trans z15; obtain ⟨⟨g1, g2⟩, ⟨g3, g4⟩, ⟨g5, g6⟩, -⟩ := HB.out.ext X15)
      | (have pre := z13; go_at_call 33; refine (same_is (i4.ext (Y3.trans X13)) e13 true (by decide)).mono ?_; rintro e a14 ⟨rfl, z14⟩; have X14 := X13.trans z14; obtain ⟨⟨g1, g2⟩, ⟨g3, g4⟩, ⟨g5, g6⟩, -⟩ := HB.out.ext X14; have ne1 := World.new_ne a14 _ g1; have ne2 := World.new_ne a14 _ g2; have ne3 := World.new_ne a14 _ g3; have ne4 := World.new_ne a14 _ g4; have ne5 := World.new_ne a14 _ g5; have ne6 := World.new_ne a14 _ g6)
      | (have pre := z12; go_at_call 26; refine (of_is _ (3) (by decide) (by decide)).mono ?_; rintro e a13 ⟨sb13, sv13, sm13, rfl, e13, z13⟩; have X13 := X12.trans z13; obtain ⟨⟨g1, g2⟩, ⟨g3, g4⟩, ⟨g5, g6⟩, -⟩ := HB.out.ext X13)
      | (have pre := z11; go_at_call 33; refine (same_is (i3.ext (Y3.trans X11)) e11 true (by decide)).mono ?_; rintro e a12 ⟨rfl, z12⟩; have X12 := X11.trans z12; obtain ⟨⟨g1, g2⟩, ⟨g3, g4⟩, ⟨g5, g6⟩, -⟩ := HB.out.ext X12)
      | (have pre := z10; go_at_call 26; refine (of_is _ (4) (by decide) (by decide)).mono ?_; rintro e a11 ⟨sb11, sv11, sm11, rfl, e11, z11⟩; have X11 := X10.trans z11; obtain ⟨⟨g1, g2⟩, ⟨g3, g4⟩, ⟨g5, g6⟩, -⟩ := HB.out.ext X11)
      | (have pre := z9; go_at_call 33; refine (same_is (e8.ext z9) e9 true (by decide)).mono ?_; rintro e a10 ⟨rfl, z10⟩; have X10 := X9.trans z10; obtain ⟨⟨g1, g2⟩, ⟨g3, g4⟩, ⟨g5, g6⟩, -⟩ := HB.out.ext X10)
      | (have pre := z8; go_at_call 26; refine (of_is _ (15) (by decide) (by decide)).mono ?_; rintro e a9 ⟨sb9, sv9, sm9, rfl, e9, z9⟩; have X9 := X8.trans z9; obtain ⟨⟨g1, g2⟩, ⟨g3, g4⟩, ⟨g5, g6⟩, -⟩ := HB.out.ext X9)
      | (have pre := z7; go_at_call 12; refine (mul_is ((e6.ext z7).inI (LenI.small (by decide))) (e7.inI (LenI.small (by decide))) (by decide)).mono ?_; rintro e a8 ⟨sb8, sv8, sm8, rfl, e8, z8⟩; have X8 := X7.trans z8; obtain ⟨⟨g1, g2⟩, ⟨g3, g4⟩, ⟨g5, g6⟩, -⟩ := HB.out.ext X8)
      | (have pre := z6; go_at_call 26; refine (of_is _ (-5) (by decide) (by decide)).mono ?_; rintro e a7 ⟨sb7, sv7, sm7, rfl, e7, z7⟩; have X7 := X6.trans z7; obtain ⟨⟨g1, g2⟩, ⟨g3, g4⟩, ⟨g5, g6⟩, -⟩ := HB.out.ext X7)
      | (have pre := z5; go_at_call 26; refine (of_is _ (-3) (by decide) (by decide)).mono ?_; rintro e a6 ⟨sb6, sv6, sm6, rfl, e6, z6⟩; have X6 := X5.trans z6; obtain ⟨⟨g1, g2⟩, ⟨g3, g4⟩, ⟨g5, g6⟩, -⟩ := HB.out.ext X6)
      | (have pre := z4; go_at_call 33; refine (same_is (e3.ext z4) e4 true (by decide)).mono ?_; rintro e a5 ⟨rfl, z5⟩; have X5 := X4.trans z5; obtain ⟨⟨g1, g2⟩, ⟨g3, g4⟩, ⟨g5, g6⟩, -⟩ := HB.out.ext X5)
      | (have pre := z3; go_at_call 26; refine (of_is _ (-2) (by decide) (by decide)).mono ?_; rintro e a4 ⟨sb4, sv4, sm4, rfl, e4, z4⟩; have X4 := X3.trans z4; obtain ⟨⟨g1, g2⟩, ⟨g3, g4⟩, ⟨g5, g6⟩, -⟩ := HB.out.ext X4)
      | (have pre := z2; go_at_call 10; refine (add_is ((e1.ext z2).inI (LenI.small (by decide))) (e2.inI (LenI.small (by decide))) (by decide) (by decide)).mono ?_; rintro e a3 ⟨sb3, sv3, sm3, rfl, e3, z3⟩; have X3 := X2.trans z3; obtain ⟨⟨g1, g2⟩, ⟨g3, g4⟩, ⟨g5, g6⟩, -⟩ := HB.out.ext X3)
      | (have pre := z1; go_at_call 26; refine (of_is _ (-5) (by decide) (by decide)).mono ?_; rintro e a2 ⟨sb2, sv2, sm2, rfl, e2, z2⟩; have X2 := X1.trans z2; obtain ⟨⟨g1, g2⟩, ⟨g3, g4⟩, ⟨g5, g6⟩, -⟩ := HB.out.ext X2)
      | (have pre := z0; go_at_call 26; refine (of_is _ (3) (by decide) (by decide)).mono ?_; rintro e a1 ⟨sb1, sv1, sm1, rfl, e1, z1⟩; have X1 := X0.trans z1; obtain ⟨⟨g1, g2⟩, ⟨g3, g4⟩, ⟨g5, g6⟩, -⟩ := HB.out.ext X1))
  go_wp2_with fail
  go_ret
  exact ⟨rfl, Y0.trans X19⟩
end Go.Proofs.YtomhfipgabpfiaaGreatDoor
