/- The contract of tombolaref06.Make. -/
import Derived.Test.YtaklejkdmfgplaaGreatDoorRefMake06
namespace Go.Proofs.YtaklejkdmfgplaaGreatDoor
open Go Go.RowKit

set_option maxHeartbeats 4000000 in
set_option maxRecDepth 100000 in
theorem rmake06_is {w : World} {b : Bool} {v u : Value} {k l n : Nat} {z : Int} {q : Rat} (hx : InI w b v k z) (hd : InN w u l n) (hn : n ≠ 0) (hk : k ≤ 1000) (hl : l ≤ 1000) (hq : mkRat z n = q) :
    Calls Tryz.prog 24 #[.agg #[.bool b, v], u] w (RetR0 w q) := by
  have hm := hx.mag
  obtain ⟨A, hA, hz, -⟩ := id hx
  obtain ⟨B, hB, -, -⟩ := id hd
  obtain ⟨pa, qa, rfl, -, -, -⟩ := hA.open
  obtain ⟨pb, qb, rfl, -, -, -⟩ := hB.open
  have HN := Lib.hid hn
  have HK := Lib.hid hk
  have HL := Lib.hid hl
  have HG0 : Hid (Nat.gcd z.natAbs n ≠ 0) := fun h => hn (Nat.gcd_eq_zero_iff.1 h).2
  have HZN : Hid (sgI b (z.natAbs / Nat.gcd z.natAbs n) = q.num) := by
    show _ = _
    have h := iv_mk (b := b) (A := A) hn
    rw [hz, hq] at h
    rw [← h, ← hz, iv_abs]; unfold iv sgI; rw [val_dig]
  have HD : Hid (n / Nat.gcd z.natAbs n = q.den) := by show _ = _; rw [← hq, mk_den hn]
  clear hz hA hB hq hn hk hl
  go_enter Tryz.func24, Tryz.ntmps24
  go_wp2_with fail
  obtain ⟨v1, hv1⟩ : ∃ W, W = ((w.alloc (.cells #[.bool b, .slice pa A.length qa] 25)).alloc (.cells #[.bool false, .slice none 0 0, .slice none 0 0] 36)) := ⟨_, rfl⟩
  have y1 : Ext w v1 := by rw [hv1]; exact (((Ext.refl _).alloc _).alloc _)
  have b0_0 : Hid (At (w.heap.size) 0 (.bool b) v1) := by rw [hv1]; exact At.ext (At.n0 (by rfl)) ((Ext.refl _).alloc _)
  have b0_1 : Hid (At (w.heap.size) 1 (.slice pa A.length qa) v1) := by rw [hv1]; exact At.ext (At.n0 (by rfl)) ((Ext.refl _).alloc _)
  have k0 : Hid (Bx 2 (w.heap.size) v1) := by rw [hv1]; exact Bx.gr (Bx.n0 2 ⟨rfl, by decide⟩ (by decide) noI_s2) (Ext.gr ((Ext.refl _).alloc _))
  have u0 : Hid (w.heap.size < v1.heap.size) := b0_0.out.2
  have b1_0 : Hid (At (w.heap.size + 1) 0 (.bool false) v1) := by rw [hv1]; exact At.ext (At.n1 (by rfl)) (Ext.refl _)
  have b1_1 : Hid (At (w.heap.size + 1) 1 (.slice none 0 0) v1) := by rw [hv1]; exact At.ext (At.n1 (by rfl)) (Ext.refl _)
  have b1_2 : Hid (At (w.heap.size + 1) 2 (.slice none 0 0) v1) := by rw [hv1]; exact At.ext (At.n1 (by rfl)) (Ext.refl _)
  have k1 : Hid (Bx 3 (w.heap.size + 1) v1) := by rw [hv1]; exact Bx.gr (Bx.n1 3 ⟨rfl, by decide⟩ (by decide) noI_s3) (Ext.gr (Ext.refl _))
  have u1 : Hid (w.heap.size + 1 < v1.heap.size) := b1_0.out.2
  have e1_ : Ext w v1 := y1
  rw [← hv1]
  clear hv1
  refine (trim06_n (hd.ext y1) (by have h1 := HK.out; have h2 := HL.out; omega)).mono ?_
  rintro e w2 ⟨sv1, rfl, o1, x2⟩
  have e2_ : Ext w w2 := Ext.trans e1_ x2
  obtain ⟨sp1, sl1, sc1, rfl⟩ := o1.slice'
  have hs16 := len_nz o1 HN.out
  have g0_1 := (b0_1.out.ext x2).1
  have f0 : w.heap.size < w2.heap.size := (b0_0.out.ext x2).2
  go_wp2_with fail
  refine (gcd06_n (hm.ext (y1.trans x2)) (Limbs.inN (k := l) o1.limbs (InN.lt hd)) (by have h1 := HK.out; have h2 := HL.out; omega) (by have h1 := HK.out; have h2 := HL.out; omega)).mono ?_
  rintro e w3 ⟨sv2, rfl, o2, x3⟩
  have e3_ : Ext w w3 := Ext.trans e2_ x3
  obtain ⟨sp2, sl2, sc2, rfl⟩ := o2.slice'
  clear g0_1 f0
  have g0_1 := (b0_1.out.ext (x2.trans x3)).1
  have f0 : w.heap.size < w3.heap.size := (b0_0.out.ext (x2.trans x3)).2
  go_wp2_with fail
  refine (div06_n (hm.ext (y1.trans (x2.trans x3))) (Limbs.inN (k := l) o2.limbs (gcd_lt (InN.lt hd) HN.out)) (by have h1 := HK.out; have h2 := HL.out; omega) (by have h1 := HK.out; have h2 := HL.out; omega) HG0.out).mono ?_
  rintro e w4 ⟨sv3, su3, rfl, o3, q3_, x4⟩
  have e4_ : Ext w w4 := Ext.trans e3_ x4
  obtain ⟨sp3, sl3, sc3, rfl⟩ := o3.slice'
  obtain ⟨tp3, tl3, tc3, rfl⟩ := q3_.slice'
  clear g0_1 f0
  go_wp2_with fail
  refine (div06_n (Limbs.inN (k := l) (o1.limbs.ext (x3.trans x4)) (InN.lt hd)) (Limbs.inN (k := l) (o2.limbs.ext x4) (gcd_lt (InN.lt hd) HN.out)) (by have h1 := HK.out; have h2 := HL.out; omega) (by have h1 := HK.out; have h2 := HL.out; omega) HG0.out).mono ?_
  rintro e w5 ⟨sv4, su4, rfl, o4, q4_, x5⟩
  have e5_ : Ext w w5 := Ext.trans e4_ x5
  obtain ⟨sp4, sl4, sc4, rfl⟩ := o4.slice'
  obtain ⟨tp4, tl4, tc4, rfl⟩ := q4_.slice'
  have g0_0 := (b0_0.out.ext (x2.trans (x3.trans (x4.trans x5)))).1
  have f0 : w.heap.size < w5.heap.size := (b0_0.out.ext (x2.trans (x3.trans (x4.trans x5)))).2
  go_wp2_with fail
  refine (sign06_n (Limbs.inN (k := k) (o3.limbs.ext x5) (div_lt (InN.lt hm))) b (by have h1 := HK.out; have h2 := HL.out; omega) HZN.out).mono ?_
  rintro e w6 ⟨sb5, sv5, sm5, rfl, e5, o5, x6⟩
  have e6_ : Ext w w6 := Ext.trans e5_ x6
  obtain ⟨sp5, sl5, sc5, rfl⟩ := e5.slice
  clear g0_0 f0
  have g1_0 := (b1_0.out.ext (x2.trans (x3.trans (x4.trans (x5.trans x6))))).1
  have g1_1 := (b1_1.out.ext (x2.trans (x3.trans (x4.trans (x5.trans x6))))).1
  have g1_2 := (b1_2.out.ext (x2.trans (x3.trans (x4.trans (x5.trans x6))))).1
  have z1_0 := (k1.out.gr (x2.gr.trans (x3.gr.trans (x4.gr.trans (x5.gr.trans x6.gr))))).free 0
  have z1_1 := (k1.out.gr (x2.gr.trans (x3.gr.trans (x4.gr.trans (x5.gr.trans x6.gr))))).free 1
  have z1_2 := (k1.out.gr (x2.gr.trans (x3.gr.trans (x4.gr.trans (x5.gr.trans x6.gr))))).free 2
  have f1 : w.heap.size + 1 < w6.heap.size := (b1_0.out.ext (x2.trans (x3.trans (x4.trans (x5.trans x6))))).2
  go_wp2_with fail
  obtain ⟨v7, hv7⟩ : ∃ W, W = (((w6.setCell ⟨w.heap.size + 1, 0, none⟩ (.bool sb5)).setCell ⟨w.heap.size + 1, 1, none⟩ (.slice sp5 sl5 sc5)).setCell ⟨w.heap.size + 1, 2, none⟩ (.slice sp4 sl4 sc4)) := ⟨_, rfl⟩
  have sv7 : v7 = setRow (w.heap.size + 1) 0 [.bool sb5, .slice sp5 sl5 sc5, .slice sp4 sl4 sc4] w6 := hv7
  have uv7 := setRow_bx' (o := 0) (cs := [.bool sb5, .slice sp5 sl5 sc5, .slice sp4 sl4 sc4]) (k1.out.gr (x2.gr.trans (x3.gr.trans (x4.gr.trans (x5.gr.trans x6.gr))))) (by simp) noI_s3
  have y7 : Gr w6 v7 := by rw [sv7]; exact setRow_gr' (o := 0) (cs := [.bool sb5, .slice sp5 sl5 sc5, .slice sp4 sl4 sc4]) (k1.out.gr (x2.gr.trans (x3.gr.trans (x4.gr.trans (x5.gr.trans x6.gr))))) (by simp) noI_s3
  have t7 : Hid (∀ t o u, t ≠ (w.heap.size + 1) → At t o u w6 → At t o u v7) := fun t o u h k => by rw [sv7]; exact k.setRow h _ _
  have e7_ : Ext w v7 := by rw [sv7]; exact setRow_below _ _ (by omega) _ _ e6_
  have b1_0 : Hid (At (w.heap.size + 1) 0 (.bool sb5) v7) := by rw [sv7]; exact uv7.2.1 0 _ rfl
  have b1_1 : Hid (At (w.heap.size + 1) 1 (.slice sp5 sl5 sc5) v7) := by rw [sv7]; exact uv7.2.1 1 _ rfl
  have b1_2 : Hid (At (w.heap.size + 1) 2 (.slice sp4 sl4 sc4) v7) := by rw [sv7]; exact uv7.2.1 2 _ rfl
  have k1 : Hid (Bx 3 (w.heap.size + 1) v7) := by rw [sv7]; exact uv7.1
  rw [← hv7]
  clear hv7 sv7 uv7
  have c0 := b1_0.out.1
  have c1 := b1_1.out.1
  have c2 := b1_2.out.1
  refine bodyPost_ret (v := .tuple #[.agg #[.bool sb5, .slice sp5 sl5 sc5, .slice sp4 sl4 sc4], .int .i64 0]) (by simp [results, Tryz.results24, go_sem, c0, c1, c2]) rfl ?_
  exact ⟨_, _, _, _, _, rfl, isR_mk (e5.gr y7) (o4.limbs.gr (x6.gr.trans y7)) HD.out, ⟨((o5.gr y7).mono e5_.size), ((o4.gr (x6.gr.trans y7)).mono e4_.size)⟩, e7_⟩

set_option maxHeartbeats 4000000 in
set_option maxRecDepth 100000 in
theorem rmake06_zero {w : World} {v u : Value} {k l n : Nat} {z : Int} {b : Bool} (hx : InI w b v k z) (hd : InN w u l n) (hn : n = 0) (hk : k ≤ 1000) (hl : l ≤ 1000) :
    Calls Tryz.prog 24 #[.agg #[.bool b, v], u] w (RetRE w 7) := by
  obtain ⟨A, hA, -, -⟩ := id hx
  obtain ⟨B, hB, -, -⟩ := id hd
  obtain ⟨pa, qa, rfl, -, -, -⟩ := hA.open
  obtain ⟨pb, qb, rfl, -, -, -⟩ := hB.open
  have HK := Lib.hid hk
  have HL := Lib.hid hl
  have HN := Lib.hid hn
  clear hA hB hk hl hn
  go_enter Tryz.func24, Tryz.ntmps24
  go_wp2_with fail
  obtain ⟨v1, hv1⟩ : ∃ W, W = ((w.alloc (.cells #[.bool b, .slice pa A.length qa] 25)).alloc (.cells #[.bool false, .slice none 0 0, .slice none 0 0] 36)) := ⟨_, rfl⟩
  have y1 : Ext w v1 := by rw [hv1]; exact (((Ext.refl _).alloc _).alloc _)
  have b0_0 : Hid (At (w.heap.size) 0 (.bool b) v1) := by rw [hv1]; exact At.ext (At.n0 (by rfl)) ((Ext.refl _).alloc _)
  have b0_1 : Hid (At (w.heap.size) 1 (.slice pa A.length qa) v1) := by rw [hv1]; exact At.ext (At.n0 (by rfl)) ((Ext.refl _).alloc _)
  have k0 : Hid (Bx 2 (w.heap.size) v1) := by rw [hv1]; exact Bx.gr (Bx.n0 2 ⟨rfl, by decide⟩ (by decide) noI_s2) (Ext.gr ((Ext.refl _).alloc _))
  have u0 : Hid (w.heap.size < v1.heap.size) := b0_0.out.2
  have b1_0 : Hid (At (w.heap.size + 1) 0 (.bool false) v1) := by rw [hv1]; exact At.ext (At.n1 (by rfl)) (Ext.refl _)
  have b1_1 : Hid (At (w.heap.size + 1) 1 (.slice none 0 0) v1) := by rw [hv1]; exact At.ext (At.n1 (by rfl)) (Ext.refl _)
  have b1_2 : Hid (At (w.heap.size + 1) 2 (.slice none 0 0) v1) := by rw [hv1]; exact At.ext (At.n1 (by rfl)) (Ext.refl _)
  have k1 : Hid (Bx 3 (w.heap.size + 1) v1) := by rw [hv1]; exact Bx.gr (Bx.n1 3 ⟨rfl, by decide⟩ (by decide) noI_s3) (Ext.gr (Ext.refl _))
  have u1 : Hid (w.heap.size + 1 < v1.heap.size) := b1_0.out.2
  have e1_ : Ext w v1 := y1
  rw [← hv1]
  clear hv1
  refine (trim06_n (hd.ext y1) (by have h1 := HK.out; have h2 := HL.out; omega)).mono ?_
  rintro e w2 ⟨sv1, rfl, o1, x2⟩
  have e2_ : Ext w w2 := Ext.trans e1_ x2
  obtain ⟨sp1, sl1, sc1, rfl⟩ := o1.slice'
  have hs16 := len_z o1 HN.out
  subst hs16
  have g1_0 := (b1_0.out.ext x2).1
  have g1_1 := (b1_1.out.ext x2).1
  have g1_2 := (b1_2.out.ext x2).1
  have z1_0 := (k1.out.gr x2.gr).free 0
  have z1_1 := (k1.out.gr x2.gr).free 1
  have z1_2 := (k1.out.gr x2.gr).free 2
  have f1 : w.heap.size + 1 < w2.heap.size := (b1_0.out.ext x2).2
  go_wp2_with fail
  obtain ⟨v3, hv3⟩ : ∃ W, W = (((w2.setCell ⟨w.heap.size + 1, 0, none⟩ (.bool false)).setCell ⟨w.heap.size + 1, 1, none⟩ (.slice none 0 0)).setCell ⟨w.heap.size + 1, 2, none⟩ (.slice none 0 0)) := ⟨_, rfl⟩
  have sv3 : v3 = setRow (w.heap.size + 1) 0 [.bool false, .slice none 0 0, .slice none 0 0] w2 := hv3
  have uv3 := setRow_bx' (o := 0) (cs := [.bool false, .slice none 0 0, .slice none 0 0]) (k1.out.gr x2.gr) (by simp) noI_s3
  have y3 : Gr w2 v3 := by rw [sv3]; exact setRow_gr' (o := 0) (cs := [.bool false, .slice none 0 0, .slice none 0 0]) (k1.out.gr x2.gr) (by simp) noI_s3
  have t3 : Hid (∀ t o u, t ≠ (w.heap.size + 1) → At t o u w2 → At t o u v3) := fun t o u h k => by rw [sv3]; exact k.setRow h _ _
  have e3_ : Ext w v3 := by rw [sv3]; exact setRow_below _ _ (by omega) _ _ e2_
  have b1_0 : Hid (At (w.heap.size + 1) 0 (.bool false) v3) := by rw [sv3]; exact uv3.2.1 0 _ rfl
  have b1_1 : Hid (At (w.heap.size + 1) 1 (.slice none 0 0) v3) := by rw [sv3]; exact uv3.2.1 1 _ rfl
  have b1_2 : Hid (At (w.heap.size + 1) 2 (.slice none 0 0) v3) := by rw [sv3]; exact uv3.2.1 2 _ rfl
  have k1 : Hid (Bx 3 (w.heap.size + 1) v3) := by rw [sv3]; exact uv3.1
  rw [← hv3]
  clear hv3 sv3 uv3
  have c0 := b1_0.out.1
  have c1 := b1_1.out.1
  have c2 := b1_2.out.1
  refine bodyPost_ret (v := .tuple #[.agg #[.bool false, .slice none 0 0, .slice none 0 0], .int .i64 7]) (by simp [results, Tryz.results24, go_sem, c0, c1, c2]) rfl ?_
  exact ⟨rfl, e3_⟩

end Go.Proofs.YtaklejkdmfgplaaGreatDoor
