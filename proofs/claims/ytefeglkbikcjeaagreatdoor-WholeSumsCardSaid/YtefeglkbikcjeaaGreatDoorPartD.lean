/- Facts and contracts, joined: Rat1, Rat2, Rat3. -/
import Derived.Test.YtefeglkbikcjeaaGreatDoorPartC

/- The contracts of package rat: Make, count. -/
namespace Go.Proofs.YtefeglkbikcjeaaGreatDoor
open Go Go.RowKit

theorem rone_is {w : World} : Calls Tryz.prog 93 #[] w (RetNat w 1) := by
  go_enter Tryz.func93, Tryz.ntmps93
  go_wp2_with fail
  go_ret
  refine ⟨_, rfl, ?_, (Ext.refl _).alloc _⟩
  rw [dig_one one_lt_Bs (by decide)]
  exact own_lit w [1] (by simp [one_lt_Bs]) _ rfl 1 rfl (by rw [Lmax_def]; simp)

set_option maxHeartbeats 4000000 in
set_option maxRecDepth 100000 in
theorem rmake_is {w : World} {b : Bool} {v u : Value} {k l n : Nat} {z : Int} {q : Rat} (hx : InI w b v k z) (hd : InN w u l n) (hn : n ≠ 0) (hk : k ≤ 65535) (hl : l ≤ 65535) (hq : mkRat z n = q) :
    Calls Tryz.prog 106 #[.agg #[.bool b, v], u] w (RetR0 w q) := by
  have hm := hx.mag
  obtain ⟨A, hA, hz, -⟩ := id hx
  obtain ⟨B, hB, -, -⟩ := id hd
  obtain ⟨pa, qa, rfl, -, -, -⟩ := hA.open
  obtain ⟨pb, qb, rfl, -, -, -⟩ := hB.open
  have HN := Lib.hid hn
  have HK := Lib.hid hk
  have HL := Lib.hid hl
  have HZ : Hid (decide (n = 0) = false) := decide_eq_false hn
  have HG0 : Hid (Nat.gcd z.natAbs n ≠ 0) := fun h => hn (Nat.gcd_eq_zero_iff.1 h).2
  have HZN : Hid (sgI b (z.natAbs / Nat.gcd z.natAbs n) = q.num) := by
    show _ = _
    have h := iv_mk (b := b) (A := A) hn
    rw [hz, hq] at h
    rw [← h, ← hz, iv_abs]; unfold iv sgI; rw [val_dig]
  have HD : Hid (n / Nat.gcd z.natAbs n = q.den) := by show _ = _; rw [← hq, mk_den hn]
  clear hz hA hB hq hn hk hl
  go_enter Tryz.func106, Tryz.ntmps106
  go_wp2_with fail
  obtain ⟨v1, hv1⟩ : ∃ W, W = ((w.alloc (.cells #[.bool b, .slice pa A.length qa] 25)).alloc (.cells #[.bool false, .slice none 0 0, .slice none 0 0] 44)) := ⟨_, rfl⟩
  have y1 : Ext w v1 := by rw [hv1]; exact (((Ext.refl _).alloc _).alloc _)
  have b0_0 : Hid (At (w.heap.size) 0 (.bool b) v1) := by rw [hv1]; exact At.ext (At.n0 (by rfl)) ((Ext.refl _).alloc _)
  have b0_1 : Hid (At (w.heap.size) 1 (.slice pa A.length qa) v1) := by rw [hv1]; exact At.ext (At.n0 (by rfl)) ((Ext.refl _).alloc _)
  have k0 : Hid (Bx 2 (w.heap.size) v1) := by rw [hv1]; exact Bx.gr (Bx.n0 2 ⟨rfl, by decide⟩ (by decide) noI_s2) (Ext.gr ((Ext.refl _).alloc _))
  have u0 : Hid (w.heap.size < v1.heap.size) := b0_0.out.2
  have b1_0 : Hid (At (w.heap.size + 1) 0 (.bool false) v1) := by rw [hv1]; exact At.ext (At.n1 (by rfl)) (Ext.refl _)
  have b1_1 : Hid (At (w.heap.size + 1) 1 (.slice none 0 0) v1) := by rw [hv1]; exact At.ext (At.n1 (by rfl)) (Ext.refl _)
  have b1_2 : Hid (At (w.heap.size + 1) 2 (.slice none 0 0) v1) := by rw [hv1]; exact At.ext (At.n1 (by rfl)) (Ext.refl _)
  have k1 : Hid (Bx 3 (w.heap.size + 1) v1) := by rw [hv1]; exact Bx.gr (Bx.n1 3 ⟨rfl, by decide⟩ (by decide) noI_s3) (Ext.gr (Ext.refl _))
  have u1 : Hid (w.heap.size + 1 < v1.heap.size) := b1_0.out.2
  have e1_ : Ext w v1 := y1
  rw [← hv1]
  clear hv1
  refine (nzero_n (hd.ext y1) (by have h1 := HK.out; have h2 := HL.out; omega) false HZ.out).mono ?_
  rintro e w2 ⟨rfl, x2⟩
  have e2_ : Ext w w2 := Ext.trans e1_ x2
  have g0_1 := (b0_1.out.ext x2).1
  have f0 : w.heap.size < w2.heap.size := (b0_0.out.ext x2).2
  go_wp2_with fail
  refine (gcd_n (hm.ext (y1.trans x2)) (hd.ext (y1.trans x2)) (by have h1 := HK.out; have h2 := HL.out; omega) (by have h1 := HK.out; have h2 := HL.out; omega)).mono ?_
  rintro e w3 ⟨sv2, rfl, o2, x3⟩
  have e3_ : Ext w w3 := Ext.trans e2_ x3
  obtain ⟨sp2, sl2, sc2, rfl⟩ := o2.slice'
  clear g0_1 f0
  have g0_1 := (b0_1.out.ext (x2.trans x3)).1
  have f0 : w.heap.size < w3.heap.size := (b0_0.out.ext (x2.trans x3)).2
  go_wp2_with fail
  refine (div_n (hm.ext (y1.trans (x2.trans x3))) (Limbs.inN (k := l) o2.limbs (gcd_lt (InN.lt hd) HN.out)) (by have h1 := HK.out; have h2 := HL.out; omega) (by have h1 := HK.out; have h2 := HL.out; omega) HG0.out).mono ?_
  rintro e w4 ⟨sv3, su3, rfl, o3, q3_, x4⟩
  have e4_ : Ext w w4 := Ext.trans e3_ x4
  obtain ⟨sp3, sl3, sc3, rfl⟩ := o3.slice'
  obtain ⟨tp3, tl3, tc3, rfl⟩ := q3_.slice'
  clear g0_1 f0
  go_wp2_with fail
  refine (div_n (hd.ext (y1.trans (x2.trans (x3.trans x4)))) (Limbs.inN (k := l) (o2.limbs.ext x4) (gcd_lt (InN.lt hd) HN.out)) (by have h1 := HK.out; have h2 := HL.out; omega) (by have h1 := HK.out; have h2 := HL.out; omega) HG0.out).mono ?_
  rintro e w5 ⟨sv4, su4, rfl, o4, q4_, x5⟩
  have e5_ : Ext w w5 := Ext.trans e4_ x5
  obtain ⟨sp4, sl4, sc4, rfl⟩ := o4.slice'
  obtain ⟨tp4, tl4, tc4, rfl⟩ := q4_.slice'
  have g0_0 := (b0_0.out.ext (x2.trans (x3.trans (x4.trans x5)))).1
  have f0 : w.heap.size < w5.heap.size := (b0_0.out.ext (x2.trans (x3.trans (x4.trans x5)))).2
  go_wp2_with fail
  refine (wmake_is (Limbs.inN (k := k) (o3.limbs.ext x5) (div_lt (InN.lt hm))) b (by have h1 := HK.out; have h2 := HL.out; omega) HZN.out).mono ?_
  rintro e w6 ⟨sb5, sv5, sm5, rfl, e5, o5, x6⟩
  have e6_ : Ext w w6 := Ext.trans e5_ x6
  obtain ⟨sp5, sl5, sc5, rfl⟩ := e5.slice
  clear g0_0 f0
  have g1_0 := (b1_0.out.ext (x2.trans (x3.trans (x4.trans (x5.trans x6))))).1
  have g1_1 := (b1_1.out.ext (x2.trans (x3.trans (x4.trans (x5.trans x6))))).1
  have g1_2 := (b1_2.out.ext (x2.trans (x3.trans (x4.trans (x5.trans x6))))).1
  have z1_0 := (k1.out.gr (x2.gr.trans (x3.gr.trans (x4.gr.trans (x5.gr.trans x6.gr))))).free 0
  have z1_1 := (k1.out.gr (x2.gr.trans (x3.gr.trans (x4.gr.trans (x5.gr.trans x6.gr))))).free 1
  have z1_2 := (k1.out.gr (x2.gr.trans (x3.gr.trans (x4.gr.trans (x5.gr.trans x6.gr))))).free 2
  have f1 : w.heap.size + 1 < w6.heap.size := (b1_0.out.ext (x2.trans (x3.trans (x4.trans (x5.trans x6))))).2
  go_wp2_with fail
  obtain ⟨v7, hv7⟩ : ∃ W, W = (((w6.setCell ⟨w.heap.size + 1, 0, none⟩ (.bool sb5)).setCell ⟨w.heap.size + 1, 1, none⟩ (.slice sp5 sl5 sc5)).setCell ⟨w.heap.size + 1, 2, none⟩ (.slice sp4 sl4 sc4)) := ⟨_, rfl⟩
  have sv7 : v7 = setRow (w.heap.size + 1) 0 [.bool sb5, .slice sp5 sl5 sc5, .slice sp4 sl4 sc4] w6 := hv7
  have uv7 := setRow_bx' (o := 0) (cs := [.bool sb5, .slice sp5 sl5 sc5, .slice sp4 sl4 sc4]) (k1.out.gr (x2.gr.trans (x3.gr.trans (x4.gr.trans (x5.gr.trans x6.gr))))) (by simp) noI_s3
  have y7 : Gr w6 v7 := by rw [sv7]; exact setRow_gr' (o := 0) (cs := [.bool sb5, .slice sp5 sl5 sc5, .slice sp4 sl4 sc4]) (k1.out.gr (x2.gr.trans (x3.gr.trans (x4.gr.trans (x5.gr.trans x6.gr))))) (by simp) noI_s3
  have t7 : Hid (∀ t o u, t ≠ (w.heap.size + 1) → At t o u w6 → At t o u v7) := fun t o u h k => by rw [sv7]; exact k.setRow h _ _
  have e7_ : Ext w v7 := by rw [sv7]; exact setRow_below _ _ (by omega) _ _ e6_
  have b1_0 : Hid (At (w.heap.size + 1) 0 (.bool sb5) v7) := by rw [sv7]; exact uv7.2.1 0 _ rfl
  have b1_1 : Hid (At (w.heap.size + 1) 1 (.slice sp5 sl5 sc5) v7) := by rw [sv7]; exact uv7.2.1 1 _ rfl
  have b1_2 : Hid (At (w.heap.size + 1) 2 (.slice sp4 sl4 sc4) v7) := by rw [sv7]; exact uv7.2.1 2 _ rfl
  have k1 : Hid (Bx 3 (w.heap.size + 1) v7) := by rw [sv7]; exact uv7.1
  rw [← hv7]
  clear hv7 sv7 uv7
  have c0 := b1_0.out.1
  have c1 := b1_1.out.1
  have c2 := b1_2.out.1
  refine bodyPost_ret (v := .tuple #[.agg #[.bool sb5, .slice sp5 sl5 sc5, .slice sp4 sl4 sc4], .int .i64 0]) (by simp [results, Tryz.results106, go_sem, c0, c1, c2]) rfl ?_
  exact ⟨_, _, _, _, _, rfl, isR_mk (e5.gr y7) (o4.limbs.gr (x6.gr.trans y7)) HD.out, ⟨((o5.gr y7).mono e5_.size), ((o4.gr (x6.gr.trans y7)).mono e4_.size)⟩, e7_⟩

set_option maxHeartbeats 4000000 in
set_option maxRecDepth 100000 in
theorem rmake_zero {w : World} {v u : Value} {k l n : Nat} {z : Int} {b : Bool} (hx : InI w b v k z) (hd : InN w u l n) (hn : n = 0) (hk : k ≤ 65535) (hl : l ≤ 65535) :
    Calls Tryz.prog 106 #[.agg #[.bool b, v], u] w (RetRE w 7) := by
  obtain ⟨A, hA, -, -⟩ := id hx
  obtain ⟨B, hB, -, -⟩ := id hd
  obtain ⟨pa, qa, rfl, -, -, -⟩ := hA.open
  obtain ⟨pb, qb, rfl, -, -, -⟩ := hB.open
  have HK := Lib.hid hk
  have HL := Lib.hid hl
  have HZ : Hid (decide (n = 0) = true) := decide_eq_true hn
  clear hA hB hk hl hn
  go_enter Tryz.func106, Tryz.ntmps106
  go_wp2_with fail
  obtain ⟨v1, hv1⟩ : ∃ W, W = ((w.alloc (.cells #[.bool b, .slice pa A.length qa] 25)).alloc (.cells #[.bool false, .slice none 0 0, .slice none 0 0] 44)) := ⟨_, rfl⟩
  have y1 : Ext w v1 := by rw [hv1]; exact (((Ext.refl _).alloc _).alloc _)
  have b0_0 : Hid (At (w.heap.size) 0 (.bool b) v1) := by rw [hv1]; exact At.ext (At.n0 (by rfl)) ((Ext.refl _).alloc _)
  have b0_1 : Hid (At (w.heap.size) 1 (.slice pa A.length qa) v1) := by rw [hv1]; exact At.ext (At.n0 (by rfl)) ((Ext.refl _).alloc _)
  have k0 : Hid (Bx 2 (w.heap.size) v1) := by rw [hv1]; exact Bx.gr (Bx.n0 2 ⟨rfl, by decide⟩ (by decide) noI_s2) (Ext.gr ((Ext.refl _).alloc _))
  have u0 : Hid (w.heap.size < v1.heap.size) := b0_0.out.2
  have b1_0 : Hid (At (w.heap.size + 1) 0 (.bool false) v1) := by rw [hv1]; exact At.ext (At.n1 (by rfl)) (Ext.refl _)
  have b1_1 : Hid (At (w.heap.size + 1) 1 (.slice none 0 0) v1) := by rw [hv1]; exact At.ext (At.n1 (by rfl)) (Ext.refl _)
  have b1_2 : Hid (At (w.heap.size + 1) 2 (.slice none 0 0) v1) := by rw [hv1]; exact At.ext (At.n1 (by rfl)) (Ext.refl _)
  have k1 : Hid (Bx 3 (w.heap.size + 1) v1) := by rw [hv1]; exact Bx.gr (Bx.n1 3 ⟨rfl, by decide⟩ (by decide) noI_s3) (Ext.gr (Ext.refl _))
  have u1 : Hid (w.heap.size + 1 < v1.heap.size) := b1_0.out.2
  have e1_ : Ext w v1 := y1
  rw [← hv1]
  clear hv1
  refine (nzero_n (hd.ext y1) (by have h1 := HK.out; have h2 := HL.out; omega) true HZ.out).mono ?_
  rintro e w2 ⟨rfl, x2⟩
  have e2_ : Ext w w2 := Ext.trans e1_ x2
  have g1_0 := (b1_0.out.ext x2).1
  have g1_1 := (b1_1.out.ext x2).1
  have g1_2 := (b1_2.out.ext x2).1
  have z1_0 := (k1.out.gr x2.gr).free 0
  have z1_1 := (k1.out.gr x2.gr).free 1
  have z1_2 := (k1.out.gr x2.gr).free 2
  have f1 : w.heap.size + 1 < w2.heap.size := (b1_0.out.ext x2).2
  go_wp2_with fail
  obtain ⟨v3, hv3⟩ : ∃ W, W = (((w2.setCell ⟨w.heap.size + 1, 0, none⟩ (.bool false)).setCell ⟨w.heap.size + 1, 1, none⟩ (.slice none 0 0)).setCell ⟨w.heap.size + 1, 2, none⟩ (.slice none 0 0)) := ⟨_, rfl⟩
  have sv3 : v3 = setRow (w.heap.size + 1) 0 [.bool false, .slice none 0 0, .slice none 0 0] w2 := hv3
  have uv3 := setRow_bx' (o := 0) (cs := [.bool false, .slice none 0 0, .slice none 0 0]) (k1.out.gr x2.gr) (by simp) noI_s3
  have y3 : Gr w2 v3 := by rw [sv3]; exact setRow_gr' (o := 0) (cs := [.bool false, .slice none 0 0, .slice none 0 0]) (k1.out.gr x2.gr) (by simp) noI_s3
  have t3 : Hid (∀ t o u, t ≠ (w.heap.size + 1) → At t o u w2 → At t o u v3) := fun t o u h k => by rw [sv3]; exact k.setRow h _ _
  have e3_ : Ext w v3 := by rw [sv3]; exact setRow_below _ _ (by omega) _ _ e2_
  have b1_0 : Hid (At (w.heap.size + 1) 0 (.bool false) v3) := by rw [sv3]; exact uv3.2.1 0 _ rfl
  have b1_1 : Hid (At (w.heap.size + 1) 1 (.slice none 0 0) v3) := by rw [sv3]; exact uv3.2.1 1 _ rfl
  have b1_2 : Hid (At (w.heap.size + 1) 2 (.slice none 0 0) v3) := by rw [sv3]; exact uv3.2.1 2 _ rfl
  have k1 : Hid (Bx 3 (w.heap.size + 1) v3) := by rw [sv3]; exact uv3.1
  rw [← hv3]
  clear hv3 sv3 uv3
  have c0 := b1_0.out.1
  have c1 := b1_1.out.1
  have c2 := b1_2.out.1
  refine bodyPost_ret (v := .tuple #[.agg #[.bool false, .slice none 0 0, .slice none 0 0], .int .i64 7]) (by simp [results, Tryz.results106, go_sem, c0, c1, c2]) rfl ?_
  exact ⟨rfl, e3_⟩

set_option maxHeartbeats 4000000 in
set_option maxRecDepth 100000 in
theorem rcount_is {w : World} {b : Bool} {v u : Value} {k : Nat} {q : Rat} (h : InR w b v u k q) (hk : k ≤ 65535) :
    Calls Tryz.prog 91 #[.agg #[.bool b, v, u]] w (RetR w q) := by
  obtain ⟨A, B, hA, hB, hq, hlA, hlB, hk1⟩ := h
  obtain ⟨pa, qa, rfl, -, -, -⟩ := hA.open
  obtain ⟨pb, qb, rfl, -, -, -⟩ := hB.open
  have HQ := Lib.hid hq
  have HLA := Lib.hid hlA
  have HLB := Lib.hid hlB
  have HK := Lib.hid hk
  clear hq hlA hlB hk
  by_cases hb0 : val B = 0
  · have HB0 := Lib.hid hb0
    clear hb0
    go_enter Tryz.func91, Tryz.ntmps91
    go_wp2_with fail
    obtain ⟨v1, hv1⟩ : ∃ W, W = ((w.alloc (.cells #[.bool b, .slice pa A.length qa, .slice pb B.length qb] 44)).alloc (.cells #[.bool false, .slice none 0 0, .slice none 0 0] 44)) := ⟨_, rfl⟩
    have y1 : Ext w v1 := by rw [hv1]; exact (((Ext.refl _).alloc _).alloc _)
    have b0_0 : Hid (At (w.heap.size) 0 (.bool b) v1) := by rw [hv1]; exact At.ext (At.n0 (by rfl)) ((Ext.refl _).alloc _)
    have b0_1 : Hid (At (w.heap.size) 1 (.slice pa A.length qa) v1) := by rw [hv1]; exact At.ext (At.n0 (by rfl)) ((Ext.refl _).alloc _)
    have b0_2 : Hid (At (w.heap.size) 2 (.slice pb B.length qb) v1) := by rw [hv1]; exact At.ext (At.n0 (by rfl)) ((Ext.refl _).alloc _)
    have k0 : Hid (Bx 3 (w.heap.size) v1) := by rw [hv1]; exact Bx.gr (Bx.n0 3 ⟨rfl, by decide⟩ (by decide) noI_s3) (Ext.gr ((Ext.refl _).alloc _))
    have u0 : Hid (w.heap.size < v1.heap.size) := b0_0.out.2
    have b1_0 : Hid (At (w.heap.size + 1) 0 (.bool false) v1) := by rw [hv1]; exact At.ext (At.n1 (by rfl)) (Ext.refl _)
    have b1_1 : Hid (At (w.heap.size + 1) 1 (.slice none 0 0) v1) := by rw [hv1]; exact At.ext (At.n1 (by rfl)) (Ext.refl _)
    have b1_2 : Hid (At (w.heap.size + 1) 2 (.slice none 0 0) v1) := by rw [hv1]; exact At.ext (At.n1 (by rfl)) (Ext.refl _)
    have k1 : Hid (Bx 3 (w.heap.size + 1) v1) := by rw [hv1]; exact Bx.gr (Bx.n1 3 ⟨rfl, by decide⟩ (by decide) noI_s3) (Ext.gr (Ext.refl _))
    have u1 : Hid (w.heap.size + 1 < v1.heap.size) := b1_0.out.2
    have e1_ : Ext w v1 := y1
    rw [← hv1]
    clear hv1
    refine (rmake_zero ⟨_, (hA.ext y1), rfl, HLA.out⟩ ⟨_, (hB.ext y1), rfl, HLB.out⟩ HB0.out (by have h1 := HK.out; have h2 := HLA.out; have h3 := HLB.out; omega) (by have h1 := HK.out; have h2 := HLA.out; have h3 := HLB.out; omega)).mono ?_
    rintro e w2 ⟨rfl, x2⟩
    have e2_ : Ext w w2 := Ext.trans e1_ x2
    go_wp2_with fail
    obtain ⟨v3, hv3⟩ : ∃ W, W = (w2.alloc (.cells #[.bool false, .slice none 0 0, .slice none 0 0] 44)) := ⟨_, rfl⟩
    have y3 : Ext w2 v3 := by rw [hv3]; exact ((Ext.refl _).alloc _)
    have b2_0 : Hid (At (w2.heap.size) 0 (.bool false) v3) := by rw [hv3]; exact At.ext (At.n0 (by rfl)) (Ext.refl _)
    have b2_1 : Hid (At (w2.heap.size) 1 (.slice none 0 0) v3) := by rw [hv3]; exact At.ext (At.n0 (by rfl)) (Ext.refl _)
    have b2_2 : Hid (At (w2.heap.size) 2 (.slice none 0 0) v3) := by rw [hv3]; exact At.ext (At.n0 (by rfl)) (Ext.refl _)
    have k2 : Hid (Bx 3 (w2.heap.size) v3) := by rw [hv3]; exact Bx.gr (Bx.n0 3 ⟨rfl, by decide⟩ (by decide) noI_s3) (Ext.gr (Ext.refl _))
    have u2 : Hid (w2.heap.size < v3.heap.size) := b2_0.out.2
    have e3_ : Ext w v3 := Ext.trans e2_ y3
    rw [← hv3]
    clear hv3
    refine (rone_is).mono ?_
    rintro e w4 ⟨sv2, rfl, o2, x4⟩
    have e4_ : Ext w w4 := Ext.trans e3_ x4
    obtain ⟨sp2, sl2, sc2, rfl⟩ := o2.slice'
    have g1_0 := (b1_0.out.ext (x2.trans (y3.trans x4))).1
    have g1_1 := (b1_1.out.ext (x2.trans (y3.trans x4))).1
    have g1_2 := (b1_2.out.ext (x2.trans (y3.trans x4))).1
    have z1_0 := (k1.out.gr (x2.gr.trans (y3.gr.trans x4.gr))).free 0
    have z1_1 := (k1.out.gr (x2.gr.trans (y3.gr.trans x4.gr))).free 1
    have z1_2 := (k1.out.gr (x2.gr.trans (y3.gr.trans x4.gr))).free 2
    have f1 : w.heap.size + 1 < w4.heap.size := (b1_0.out.ext (x2.trans (y3.trans x4))).2
    go_wp2_with fail
    obtain ⟨v5, hv5⟩ : ∃ W, W = (((w4.setCell ⟨w.heap.size + 1, 0, none⟩ (.bool false)).setCell ⟨w.heap.size + 1, 1, none⟩ (.slice none 0 0)).setCell ⟨w.heap.size + 1, 2, none⟩ (.slice sp2 sl2 sc2)) := ⟨_, rfl⟩
    have sv5 : v5 = setRow (w.heap.size + 1) 0 [.bool false, .slice none 0 0, .slice sp2 sl2 sc2] w4 := hv5
    have uv5 := setRow_bx' (o := 0) (cs := [.bool false, .slice none 0 0, .slice sp2 sl2 sc2]) (k1.out.gr (x2.gr.trans (y3.gr.trans x4.gr))) (by simp) noI_s3
    have y5 : Gr w4 v5 := by rw [sv5]; exact setRow_gr' (o := 0) (cs := [.bool false, .slice none 0 0, .slice sp2 sl2 sc2]) (k1.out.gr (x2.gr.trans (y3.gr.trans x4.gr))) (by simp) noI_s3
    have t5 : Hid (∀ t o u, t ≠ (w.heap.size + 1) → At t o u w4 → At t o u v5) := fun t o u h k => by rw [sv5]; exact k.setRow h _ _
    have e5_ : Ext w v5 := by rw [sv5]; exact setRow_below _ _ (by omega) _ _ e4_
    have b1_0 : Hid (At (w.heap.size + 1) 0 (.bool false) v5) := by rw [sv5]; exact uv5.2.1 0 _ rfl
    have b1_1 : Hid (At (w.heap.size + 1) 1 (.slice none 0 0) v5) := by rw [sv5]; exact uv5.2.1 1 _ rfl
    have b1_2 : Hid (At (w.heap.size + 1) 2 (.slice sp2 sl2 sc2) v5) := by rw [sv5]; exact uv5.2.1 2 _ rfl
    have k1 : Hid (Bx 3 (w.heap.size + 1) v5) := by rw [sv5]; exact uv5.1
    rw [← hv5]
    clear hv5 sv5 uv5
    have c0 := b1_0.out.1
    have c1 := b1_1.out.1
    have c2 := b1_2.out.1
    refine bodyPost_ret (v := .agg #[.bool false, .slice none 0 0, .slice sp2 sl2 sc2]) (by simp [results, Tryz.results91, go_sem, c0, c1, c2]) rfl ?_
    exact ⟨_, _, _, _, _, rfl, by rw [← HQ.out, HB0.out, Rat.mkRat_zero]; exact isR_mk (q := 0) (zero_is _) (o2.limbs.gr y5) rfl, ⟨by rw [dig_zero]; exact OwnL.nil _ _, ((o2.gr y5).mono e3_.size)⟩, e5_⟩
  · have HB0 : Hid (val B ≠ 0) := hb0
    clear hb0
    go_enter Tryz.func91, Tryz.ntmps91
    go_wp2_with fail
    obtain ⟨v1, hv1⟩ : ∃ W, W = ((w.alloc (.cells #[.bool b, .slice pa A.length qa, .slice pb B.length qb] 44)).alloc (.cells #[.bool false, .slice none 0 0, .slice none 0 0] 44)) := ⟨_, rfl⟩
    have y1 : Ext w v1 := by rw [hv1]; exact (((Ext.refl _).alloc _).alloc _)
    have b0_0 : Hid (At (w.heap.size) 0 (.bool b) v1) := by rw [hv1]; exact At.ext (At.n0 (by rfl)) ((Ext.refl _).alloc _)
    have b0_1 : Hid (At (w.heap.size) 1 (.slice pa A.length qa) v1) := by rw [hv1]; exact At.ext (At.n0 (by rfl)) ((Ext.refl _).alloc _)
    have b0_2 : Hid (At (w.heap.size) 2 (.slice pb B.length qb) v1) := by rw [hv1]; exact At.ext (At.n0 (by rfl)) ((Ext.refl _).alloc _)
    have k0 : Hid (Bx 3 (w.heap.size) v1) := by rw [hv1]; exact Bx.gr (Bx.n0 3 ⟨rfl, by decide⟩ (by decide) noI_s3) (Ext.gr ((Ext.refl _).alloc _))
    have u0 : Hid (w.heap.size < v1.heap.size) := b0_0.out.2
    have b1_0 : Hid (At (w.heap.size + 1) 0 (.bool false) v1) := by rw [hv1]; exact At.ext (At.n1 (by rfl)) (Ext.refl _)
    have b1_1 : Hid (At (w.heap.size + 1) 1 (.slice none 0 0) v1) := by rw [hv1]; exact At.ext (At.n1 (by rfl)) (Ext.refl _)
    have b1_2 : Hid (At (w.heap.size + 1) 2 (.slice none 0 0) v1) := by rw [hv1]; exact At.ext (At.n1 (by rfl)) (Ext.refl _)
    have k1 : Hid (Bx 3 (w.heap.size + 1) v1) := by rw [hv1]; exact Bx.gr (Bx.n1 3 ⟨rfl, by decide⟩ (by decide) noI_s3) (Ext.gr (Ext.refl _))
    have u1 : Hid (w.heap.size + 1 < v1.heap.size) := b1_0.out.2
    have e1_ : Ext w v1 := y1
    rw [← hv1]
    clear hv1
    refine (rmake_is ⟨_, (hA.ext y1), rfl, HLA.out⟩ ⟨_, (hB.ext y1), rfl, HLB.out⟩ HB0.out (by have h1 := HK.out; have h2 := HLA.out; have h3 := HLB.out; omega) (by have h1 := HK.out; have h2 := HLA.out; have h3 := HLB.out; omega) HQ.out).mono ?_
    rintro e w2 ⟨sb1, sv1, su1, sm1, sd1, rfl, e1, o1, x2⟩
    have e2_ : Ext w w2 := Ext.trans e1_ x2
    obtain ⟨sp1, sl1, sc1, tp1, tl1, tc1, rfl, rfl⟩ := e1.slice
    have g1_0 := (b1_0.out.ext x2).1
    have g1_1 := (b1_1.out.ext x2).1
    have g1_2 := (b1_2.out.ext x2).1
    have z1_0 := (k1.out.gr x2.gr).free 0
    have z1_1 := (k1.out.gr x2.gr).free 1
    have z1_2 := (k1.out.gr x2.gr).free 2
    have f1 : w.heap.size + 1 < w2.heap.size := (b1_0.out.ext x2).2
    go_wp2_with fail
    obtain ⟨v3, hv3⟩ : ∃ W, W = (((w2.setCell ⟨w.heap.size + 1, 0, none⟩ (.bool sb1)).setCell ⟨w.heap.size + 1, 1, none⟩ (.slice sp1 sl1 sc1)).setCell ⟨w.heap.size + 1, 2, none⟩ (.slice tp1 tl1 tc1)) := ⟨_, rfl⟩
    have sv3 : v3 = setRow (w.heap.size + 1) 0 [.bool sb1, .slice sp1 sl1 sc1, .slice tp1 tl1 tc1] w2 := hv3
    have uv3 := setRow_bx' (o := 0) (cs := [.bool sb1, .slice sp1 sl1 sc1, .slice tp1 tl1 tc1]) (k1.out.gr x2.gr) (by simp) noI_s3
    have y3 : Gr w2 v3 := by rw [sv3]; exact setRow_gr' (o := 0) (cs := [.bool sb1, .slice sp1 sl1 sc1, .slice tp1 tl1 tc1]) (k1.out.gr x2.gr) (by simp) noI_s3
    have t3 : Hid (∀ t o u, t ≠ (w.heap.size + 1) → At t o u w2 → At t o u v3) := fun t o u h k => by rw [sv3]; exact k.setRow h _ _
    have e3_ : Ext w v3 := by rw [sv3]; exact setRow_below _ _ (by omega) _ _ e2_
    have zz3 : v3.heap.size = w2.heap.size := by rw [sv3, setRow_size]
    have b1_0 : Hid (At (w.heap.size + 1) 0 (.bool sb1) v3) := by rw [sv3]; exact uv3.2.1 0 _ rfl
    have b1_1 : Hid (At (w.heap.size + 1) 1 (.slice sp1 sl1 sc1) v3) := by rw [sv3]; exact uv3.2.1 1 _ rfl
    have b1_2 : Hid (At (w.heap.size + 1) 2 (.slice tp1 tl1 tc1) v3) := by rw [sv3]; exact uv3.2.1 2 _ rfl
    have k1 : Hid (Bx 3 (w.heap.size + 1) v3) := by rw [sv3]; exact uv3.1
    rw [← hv3]
    clear hv3 sv3 uv3
    obtain ⟨v4, hv4⟩ : ∃ W, W = (v3.alloc (.cells #[.bool sb1, .slice sp1 sl1 sc1, .slice tp1 tl1 tc1] 44)) := ⟨_, rfl⟩
    have y4 : Ext v3 v4 := by rw [hv4]; exact ((Ext.refl _).alloc _)
    have b2_0 : Hid (At (w2.heap.size) 0 (.bool sb1) v4) := by rw [← zz3, hv4]; exact At.ext (At.n0 (by rfl)) (Ext.refl _)
    have b2_1 : Hid (At (w2.heap.size) 1 (.slice sp1 sl1 sc1) v4) := by rw [← zz3, hv4]; exact At.ext (At.n0 (by rfl)) (Ext.refl _)
    have b2_2 : Hid (At (w2.heap.size) 2 (.slice tp1 tl1 tc1) v4) := by rw [← zz3, hv4]; exact At.ext (At.n0 (by rfl)) (Ext.refl _)
    have k2 : Hid (Bx 3 (w2.heap.size) v4) := by rw [← zz3, hv4]; exact Bx.gr (Bx.n0 3 ⟨rfl, by decide⟩ (by decide) noI_s3) (Ext.gr (Ext.refl _))
    have u2 : Hid (w2.heap.size < v4.heap.size) := b2_0.out.2
    have e4_ : Ext w v4 := Ext.trans e3_ y4
    rw [← hv4]
    clear hv4
    have c0 := (b1_0.out.ext y4).1
    have c1 := (b1_1.out.ext y4).1
    have c2 := (b1_2.out.ext y4).1
    refine bodyPost_ret (v := .agg #[.bool sb1, .slice sp1 sl1 sc1, .slice tp1 tl1 tc1]) (by simp [results, Tryz.results91, go_sem, c0, c1, c2]) rfl ?_
    exact ⟨_, _, _, _, _, rfl, (e1.gr (y3.trans y4.gr)), ((o1.gr (y3.trans y4.gr)).mono e1_.size), e4_⟩

end Go.Proofs.YtefeglkbikcjeaaGreatDoor

/- The contracts of package rat: sums, products, comparisons. -/
namespace Go.Proofs.YtefeglkbikcjeaaGreatDoor
open Go Go.RowKit

set_option maxHeartbeats 4000000 in
set_option maxRecDepth 100000 in
theorem by_is {w : World} {b : Bool} {v u : Value} {k l n : Nat} {x z : Int} (hx : InI w b v k x) (hn : InN w u l n) (hk : k + l ≤ 65535) (hz : x * (n : Nat) = z) :
    Calls Tryz.prog 107 #[.agg #[.bool b, v], u] w (RetZ w z) := by
  obtain ⟨A, hA, rfl, hlA⟩ := hx
  obtain ⟨B, hB, -, -⟩ := id hn
  obtain ⟨pa, qa, rfl, -, -, -⟩ := hA.open
  obtain ⟨pb, qb, rfl, -, -, -⟩ := hB.open
  have HLA := Lib.hid hlA
  have HK := Lib.hid hk
  have HZ : Hid (sgI b (val A * n) = z) := by
    show _ = _
    rw [← hz]; unfold sgI iv
    cases b <;> simp [Int.neg_mul]
  have HLZ : Hid (LenI (k + l) z) := by
    show LenI _ _
    rw [← hz]; exact LenI.by (by unfold LenI; rw [iv_abs]; exact Nat.lt_of_lt_of_le (val_lt hA.2) (Nat.pow_le_pow_right Bs_pos hlA)) hn.lt
  clear hB hlA hk hz
  go_enter Tryz.func107, Tryz.ntmps107
  go_wp2_with fail
  obtain ⟨v1, hv1⟩ : ∃ W, W = ((w.alloc (.cells #[.bool b, .slice pa A.length qa] 25)).alloc (.cells #[.bool false, .slice none 0 0] 25)) := ⟨_, rfl⟩
  have y1 : Ext w v1 := by rw [hv1]; exact (((Ext.refl _).alloc _).alloc _)
  have b0_0 : Hid (At (w.heap.size) 0 (.bool b) v1) := by rw [hv1]; exact At.ext (At.n0 (by rfl)) ((Ext.refl _).alloc _)
  have b0_1 : Hid (At (w.heap.size) 1 (.slice pa A.length qa) v1) := by rw [hv1]; exact At.ext (At.n0 (by rfl)) ((Ext.refl _).alloc _)
  have k0 : Hid (Bx 2 (w.heap.size) v1) := by rw [hv1]; exact Bx.gr (Bx.n0 2 ⟨rfl, by decide⟩ (by decide) noI_s2) (Ext.gr ((Ext.refl _).alloc _))
  have u0 : Hid (w.heap.size < v1.heap.size) := b0_0.out.2
  have b1_0 : Hid (At (w.heap.size + 1) 0 (.bool false) v1) := by rw [hv1]; exact At.ext (At.n1 (by rfl)) (Ext.refl _)
  have b1_1 : Hid (At (w.heap.size + 1) 1 (.slice none 0 0) v1) := by rw [hv1]; exact At.ext (At.n1 (by rfl)) (Ext.refl _)
  have k1 : Hid (Bx 2 (w.heap.size + 1) v1) := by rw [hv1]; exact Bx.gr (Bx.n1 2 ⟨rfl, by decide⟩ (by decide) noI_s2) (Ext.gr (Ext.refl _))
  have u1 : Hid (w.heap.size + 1 < v1.heap.size) := b1_0.out.2
  have e1_ : Ext w v1 := y1
  rw [← hv1]
  clear hv1
  have hkeep1 : AllAt' ([(w.heap.size, 0, .bool b), (w.heap.size, 1, .slice pa A.length qa)] : List (Nat × Nat × Value)) v1 := AllAt'.cons b0_0.out (AllAt'.cons b0_1.out (AllAt'.nil _))
  have hob1 : ObOk w.heap.size v1 (([(w.heap.size, 0, .bool b), (w.heap.size, 1, .slice pa A.length qa)] : List (Nat × Nat × Value)).map (·.1)) ([(w.heap.size + 1, [(0, .bool false), (1, .slice none 0 0)])] : List (Nat × List (Nat × Value))) := ⟨⟨(by omega), b1_0.out.2, ⟨b1_0.out, ⟨b1_1.out, trivial⟩⟩, ⟨(by (try dsimp only); omega), ⟨(by (try dsimp only); omega), trivial⟩⟩⟩, trivial⟩
  have hne1 : AllNe (([(w.heap.size + 1, [(0, .bool false), (1, .slice none 0 0)])] : List (Nat × List (Nat × Value))).map (·.1)) := ⟨trivial, trivial⟩
  (try simp only [List.append_eq, List.cons_append, List.nil_append])
  refine wp_region_gen ⟨[5, 6, 7, 8, 9, 10, 11], fun i => false, fun i => ([none, none, none, none, none, none, none, some (.old 0, 6)] : List (Option (BoxRef × Nat))).getD i none, fun i => ([Sg.val (.pointer (some ⟨w.heap.size, 0, none⟩)), Sg.val (.bool b), Sg.val (.pointer (some ⟨w.heap.size, 1, none⟩)), Sg.val (.slice pa A.length qa), Sg.val (.slice pb B.length qb), Sg.natO w.heap.size ((val A) * n), Sg.intO w.heap.size z, Sg.any] : List Sg).getD i Sg.any, [(w.heap.size, 0, .bool b), (w.heap.size, 1, .slice pa A.length qa)], [(w.heap.size + 1, [(0, .bool false), (1, .slice none 0 0)])]⟩ w.heap.size (by kernel_rfl) (by kernel_rfl) e1_.size ?hfr hkeep1 hob1 hne1 ?hs ?he
  case hfr =>
    intro i v wk hi hst hv
    exact absurd hi (by simp)
  case hs =>
    refine ⟨?_, ?_, ?_, ?_, ?_, ?_, ?_, ?_, trivial⟩
    · refine RStep.op rfl rfl (fun ac wk hp K hK => ?_)
      have t2_ : ac.tmps[2]?.getD undef = .pointer (some ⟨w.heap.size, 0, none⟩) := hp.slot 2 rfl rfl
      have HP := Lib.hid hp
      clear hp
      go_simp
      refine hK.out _ _ ?_ (Ext.refl _) (fun h => absurd h (by simp))
      exact rfl
    · refine RStep.op rfl rfl (fun ac wk hp K hK => ?_)
      have u0e := hp.get 0 (by decide +kernel) rfl
      have t5_ : ac.tmps[5]?.getD undef = .pointer (some ⟨w.heap.size, 0, none⟩) := slot_is' u0e
      have c0_ := hp.cell 0 rfl
      have HP := Lib.hid hp
      clear hp
      go_simp
      refine hK.out _ _ ?_ (Ext.refl _) (fun h => absurd h (by simp))
      exact rfl
    · refine RStep.op rfl rfl (fun ac wk hp K hK => ?_)
      have t2_ : ac.tmps[2]?.getD undef = .pointer (some ⟨w.heap.size, 0, none⟩) := hp.slot 2 rfl rfl
      have HP := Lib.hid hp
      clear hp
      go_simp
      refine hK.out _ _ ?_ (Ext.refl _) (fun h => absurd h (by simp))
      exact rfl
    · refine RStep.op rfl rfl (fun ac wk hp K hK => ?_)
      have u2e := hp.get 2 (by decide +kernel) rfl
      have t7_ : ac.tmps[7]?.getD undef = .pointer (some ⟨w.heap.size, 1, none⟩) := slot_is' u2e
      have c0_ := hp.cell 1 rfl
      have HP := Lib.hid hp
      clear hp
      go_simp
      refine hK.out _ _ ?_ (Ext.refl _) (fun h => absurd h (by simp))
      exact rfl
    · refine RStep.op rfl rfl (fun ac wk hp K hK => ?_)
      have t1_ : ac.tmps[1]?.getD undef = .slice pb B.length qb := hp.slot 1 rfl rfl
      have HP := Lib.hid hp
      clear hp
      go_simp
      refine hK.out _ _ ?_ (Ext.refl _) (fun h => absurd h (by simp))
      exact rfl
    · refine RStep.op rfl rfl (fun ac wk hp K hK => ?_)
      have u3e := hp.get 3 (by decide +kernel) rfl
      have t8_ : ac.tmps[8]?.getD undef = .slice pa A.length qa := slot_is' u3e
      have u4e := hp.get 4 (by decide +kernel) rfl
      have t9_ : ac.tmps[9]?.getD undef = .slice pb B.length qb := slot_is' u4e
      have HP := Lib.hid hp
      clear hp
      go_simp
      refine (nmul_n ⟨_, (hA.gr (y1.gr.trans HP.out.gr)), rfl, HLA.out⟩ (hn.gr (y1.gr.trans HP.out.gr)) (by have h1 := HK.out; omega)).mono ?_
      rintro e wk' ⟨sv1, rfl, o1, ix⟩
      obtain ⟨sp1, sl1, sc1, rfl⟩ := o1.slice'
      refine hK.out _ _ ?_ ix (fun h => absurd h (by simp))
      exact ⟨_, _, _, rfl, (o1.mono (Nat.le_trans e1_.size HP.out.gr.size))⟩
    · refine RStep.op rfl rfl (fun ac wk hp K hK => ?_)
      have u1e := hp.get 1 (by decide +kernel) rfl
      have t6_ : ac.tmps[6]?.getD undef = .bool b := slot_is' u1e
      obtain ⟨u5p, u5n, u5c, u5e, u5o⟩ := hp.get 5 (by decide +kernel) rfl
      have t10_ : ac.tmps[10]?.getD undef = .slice u5p u5n u5c := slot_is' u5e
      have HP := Lib.hid hp
      clear hp
      go_simp
      refine (wmake_is (Limbs.inN (k := (k + l)) u5o.limbs (lt_mul (lenN_raw hA HLA.out) (InN.lt hn))) b (by have h1 := HK.out; omega) HZ.out).mono ?_
      rintro e wk' ⟨sb2, sv2, sm2, rfl, e2, o2, ix⟩
      obtain ⟨sp2, sl2, sc2, rfl⟩ := e2.slice
      refine hK.out _ _ ?_ ix (fun h => absurd h (by simp))
      exact ⟨_, _, _, _, _, rfl, e2, (o2.mono (Nat.le_trans e1_.size HP.out.gr.size))⟩
    · refine RStep.so 0 6 (w.heap.size + 1) rfl rfl rfl (fun ac wk hp => ?_)
      have t4_ : ac.tmps[4]?.getD undef = .pointer (some ⟨w.heap.size + 1, 0, none⟩) := hp.slot 4 rfl rfl
      obtain ⟨u6b, u6p, u6n, u6c, u6m, u6e, u6i, u6o⟩ := hp.get 6 (by decide +kernel) rfl
      have t11_ : ac.tmps[11]?.getD undef = .agg #[.bool u6b, .slice u6p u6n u6c] := slot_is' u6e
      obtain ⟨d0, hd0, -⟩ := Bx.cell (k1.out.gr hp.gr) (o := 0) (by decide)
      have fz0 := Bx.free (k1.out.gr hp.gr) 0
      obtain ⟨d1, hd1, -⟩ := Bx.cell (k1.out.gr hp.gr) (o := 1) (by decide)
      have fz1 := Bx.free (k1.out.gr hp.gr) 1
      refine ⟨2, [.bool u6b, .slice u6p u6n u6c], (k1.out.gr hp.gr), by rw [u6e]; rfl, rfl, noI_s2, fun K hK => ?_⟩
      have HK := Lib.hid hK
      clear hK hp
      go_simp
      exact HK.out
  case he =>
    intro ac v2 hM
    have y1_0e := hM.post 0 rfl rfl
    have y1_1e := hM.post 1 rfl rfl
    have y1_2e := hM.post 2 rfl rfl
    have y1_3e := hM.post 3 rfl rfl
    have y1_4e := hM.post 4 rfl rfl
    obtain ⟨y1_5p, y1_5n, y1_5c, y1_5e, y1_5o⟩ := hM.post 5 rfl rfl
    obtain ⟨y1_6b, y1_6p, y1_6n, y1_6c, y1_6m, y1_6e, y1_6i, y1_6o⟩ := hM.post 6 rfl rfl
    have b1_0 : Hid (At (w.heap.size + 1) 0 (.bool y1_6b) v2) := Lib.hid (hM.boxOld 7 0 6 rfl rfl rfl (cs := [.bool y1_6b, .slice y1_6p y1_6n y1_6c]) (by rw [y1_6e]; rfl) 0 _ rfl)
    have b1_1 : Hid (At (w.heap.size + 1) 1 (.slice y1_6p y1_6n y1_6c) v2) := Lib.hid (hM.boxOld 7 0 6 rfl rfl rfl (cs := [.bool y1_6b, .slice y1_6p y1_6n y1_6c]) (by rw [y1_6e]; rfl) 1 _ rfl)
    have b0_0 : Hid (At (w.heap.size) 0 (.bool b) v2) := Lib.hid (hM.keep.at 0 rfl)
    have b0_1 : Hid (At (w.heap.size) 1 (.slice pa A.length qa) v2) := Lib.hid (hM.keep.at 1 rfl)
    have gv2 : Gr v1 v2 := hM.gr
    have e2_ : Ext w v2 := Ext.below e1_ hM.blw
    have z0_ : sl ac 5 = .pointer (some ⟨w.heap.size, 0, none⟩) := y1_0e
    have z1_ : sl ac 6 = .bool b := y1_1e
    have z2_ : sl ac 7 = .pointer (some ⟨w.heap.size, 1, none⟩) := y1_2e
    have z3_ : sl ac 8 = .slice pa A.length qa := y1_3e
    have z4_ : sl ac 9 = .slice pb B.length qb := y1_4e
    have z5_ : sl ac 10 = .slice y1_5p y1_5n y1_5c := y1_5e
    have z6_ : sl ac 11 = .agg #[.bool y1_6b, .slice y1_6p y1_6n y1_6c] := y1_6e
    rw [hM.ag.lay]
    simp only [lay, List.foldl_cons, List.foldl_nil, List.setIfInBounds_toArray, List.set_cons_zero, List.set_cons_succ, z0_, z1_, z2_, z3_, z4_, z5_, z6_]
    clear hM hkeep1 hob1 hne1 z0_ z1_ z2_ z3_ z4_ z5_ z6_ y1_0e y1_1e y1_2e y1_3e y1_4e y1_5e y1_6e
    go_wp2_with fail
    have c0 := b1_0.out.1
    have c1 := b1_1.out.1
    refine bodyPost_ret (v := .agg #[.bool y1_6b, .slice y1_6p y1_6n y1_6c]) (by simp [results, Tryz.results107, go_sem, c0, c1]) rfl ?_
    exact ⟨_, _, _, rfl, y1_6i, (y1_6o), e2_⟩

set_option maxHeartbeats 4000000 in
set_option maxRecDepth 100000 in
theorem rof_is (w : World) (n : Int) (hn1 : -9223372036854775808 ≤ n) (hn2 : n ≤ 9223372036854775807) :
    Calls Tryz.prog 55 #[.int .i64 n] w (RetR w (n : Rat)) := by
  have HN1 := Lib.hid hn1
  have HN2 := Lib.hid hn2
  clear hn1 hn2
  go_enter Tryz.func55, Tryz.ntmps55
  go_wp2_with fail
  obtain ⟨v1, hv1⟩ : ∃ W, W = (w.alloc (.cells #[.bool false, .slice none 0 0, .slice none 0 0] 44)) := ⟨_, rfl⟩
  have y1 : Ext w v1 := by rw [hv1]; exact ((Ext.refl _).alloc _)
  have b0_0 : Hid (At (w.heap.size) 0 (.bool false) v1) := by rw [hv1]; exact At.ext (At.n0 (by rfl)) (Ext.refl _)
  have b0_1 : Hid (At (w.heap.size) 1 (.slice none 0 0) v1) := by rw [hv1]; exact At.ext (At.n0 (by rfl)) (Ext.refl _)
  have b0_2 : Hid (At (w.heap.size) 2 (.slice none 0 0) v1) := by rw [hv1]; exact At.ext (At.n0 (by rfl)) (Ext.refl _)
  have k0 : Hid (Bx 3 (w.heap.size) v1) := by rw [hv1]; exact Bx.gr (Bx.n0 3 ⟨rfl, by decide⟩ (by decide) noI_s3) (Ext.gr (Ext.refl _))
  have u0 : Hid (w.heap.size < v1.heap.size) := b0_0.out.2
  have e1_ : Ext w v1 := y1
  rw [← hv1]
  clear hv1
  refine (wof_z _ n HN1.out HN2.out).mono ?_
  rintro e w2 ⟨sb1, sv1, sm1, rfl, e1, o1, x2⟩
  have e2_ : Ext w w2 := Ext.trans e1_ x2
  obtain ⟨sp1, sl1, sc1, rfl⟩ := e1.slice
  go_wp2_with fail
  refine (rone_is).mono ?_
  rintro e w3 ⟨sv2, rfl, o2, x3⟩
  have e3_ : Ext w w3 := Ext.trans e2_ x3
  obtain ⟨sp2, sl2, sc2, rfl⟩ := o2.slice'
  have g0_0 := (b0_0.out.ext (x2.trans x3)).1
  have g0_1 := (b0_1.out.ext (x2.trans x3)).1
  have g0_2 := (b0_2.out.ext (x2.trans x3)).1
  have z0_0 := (k0.out.gr (x2.gr.trans x3.gr)).free 0
  have z0_1 := (k0.out.gr (x2.gr.trans x3.gr)).free 1
  have z0_2 := (k0.out.gr (x2.gr.trans x3.gr)).free 2
  have f0 : w.heap.size < w3.heap.size := (b0_0.out.ext (x2.trans x3)).2
  go_wp2_with fail
  obtain ⟨v4, hv4⟩ : ∃ W, W = (((w3.setCell ⟨w.heap.size, 0, none⟩ (.bool sb1)).setCell ⟨w.heap.size, 1, none⟩ (.slice sp1 sl1 sc1)).setCell ⟨w.heap.size, 2, none⟩ (.slice sp2 sl2 sc2)) := ⟨_, rfl⟩
  have sv4 : v4 = setRow (w.heap.size) 0 [.bool sb1, .slice sp1 sl1 sc1, .slice sp2 sl2 sc2] w3 := hv4
  have uv4 := setRow_bx' (o := 0) (cs := [.bool sb1, .slice sp1 sl1 sc1, .slice sp2 sl2 sc2]) (k0.out.gr (x2.gr.trans x3.gr)) (by simp) noI_s3
  have y4 : Gr w3 v4 := by rw [sv4]; exact setRow_gr' (o := 0) (cs := [.bool sb1, .slice sp1 sl1 sc1, .slice sp2 sl2 sc2]) (k0.out.gr (x2.gr.trans x3.gr)) (by simp) noI_s3
  have t4 : Hid (∀ t o u, t ≠ (w.heap.size) → At t o u w3 → At t o u v4) := fun t o u h k => by rw [sv4]; exact k.setRow h _ _
  have e4_ : Ext w v4 := by rw [sv4]; exact setRow_below _ _ (by omega) _ _ e3_
  have b0_0 : Hid (At (w.heap.size) 0 (.bool sb1) v4) := by rw [sv4]; exact uv4.2.1 0 _ rfl
  have b0_1 : Hid (At (w.heap.size) 1 (.slice sp1 sl1 sc1) v4) := by rw [sv4]; exact uv4.2.1 1 _ rfl
  have b0_2 : Hid (At (w.heap.size) 2 (.slice sp2 sl2 sc2) v4) := by rw [sv4]; exact uv4.2.1 2 _ rfl
  have k0 : Hid (Bx 3 (w.heap.size) v4) := by rw [sv4]; exact uv4.1
  rw [← hv4]
  clear hv4 sv4 uv4
  have c0 := b0_0.out.1
  have c1 := b0_1.out.1
  have c2 := b0_2.out.1
  refine bodyPost_ret (v := .agg #[.bool sb1, .slice sp1 sl1 sc1, .slice sp2 sl2 sc2]) (by simp [results, Tryz.results55, go_sem, c0, c1, c2]) rfl ?_
  exact ⟨_, _, _, _, _, rfl, isR_mk (e1.gr (x3.gr.trans y4)) (o2.limbs.gr y4) rfl, ⟨((o1.gr (x3.gr.trans y4)).mono e1_.size), ((o2.gr y4).mono e2_.size)⟩, e4_⟩

end Go.Proofs.YtefeglkbikcjeaaGreatDoor

/- The contracts of package rat: Over, sums, products, comparisons. -/
namespace Go.Proofs.YtefeglkbikcjeaaGreatDoor
open Go Go.RowKit

theorem over_mk {n d : Int} {b1 b2 : Bool} (h1 : decide (n < 0) = b1) (h2 : decide (d < 0) = b2) {q : Rat} (hq : Rat.divInt n d = q) : mkRat (sgI (b1 != b2) n.natAbs) d.natAbs = q := by
  rw [← hq]
  have e : ∀ x : Int, (0 ≤ x ∧ x.natAbs = x) ∨ (x < 0 ∧ x.natAbs = -x) := fun x => by omega
  subst h1 h2
  rcases e n with ⟨a1, a2⟩ | ⟨a1, a2⟩ <;> rcases e d with ⟨c1, c2⟩ | ⟨c1, c2⟩
  · rw [← Rat.divInt_ofNat, c2]; simp [sgI, Int.not_lt.2 a1, Int.not_lt.2 c1, a2]
  · rw [← Rat.divInt_ofNat, c2, Rat.divInt_neg']; simp [sgI, Int.not_lt.2 a1, c1, a2]
  · rw [← Rat.divInt_ofNat, c2]; simp [sgI, a1, Int.not_lt.2 c1, a2]
  · rw [← Rat.divInt_ofNat, c2, Rat.divInt_neg']; simp [sgI, a1, c1, a2]

set_option maxHeartbeats 4000000 in
set_option maxRecDepth 100000 in
theorem over_is (w : World) (n d : Int) (hn1 : -9223372036854775808 ≤ n) (hn2 : n ≤ 9223372036854775807) (hd1 : -9223372036854775808 ≤ d) (hd2 : d ≤ 9223372036854775807) (hd : d ≠ 0) {q : Rat} (hq : Rat.divInt n d = q) :
    Calls Tryz.prog 83 #[.int .i64 n, .int .i64 d] w (RetR0 w q) := by
  have HN1 := Lib.hid hn1
  have HN2 := Lib.hid hn2
  have HD1 := Lib.hid hd1
  have HD2 := Lib.hid hd2
  have HQ := Lib.hid hq
  have HND : Hid (d.natAbs ≠ 0) := fun h => hd (by omega)
  clear hn1 hn2 hd1 hd2 hd hq
  go_enter Tryz.func83, Tryz.ntmps83
  go_wp2_with fail
  obtain ⟨v1, hv1⟩ : ∃ W, W = (w.alloc (.cells #[.bool false, .slice none 0 0, .slice none 0 0] 44)) := ⟨_, rfl⟩
  have y1 : Ext w v1 := by rw [hv1]; exact ((Ext.refl _).alloc _)
  have b0_0 : Hid (At (w.heap.size) 0 (.bool false) v1) := by rw [hv1]; exact At.ext (At.n0 (by rfl)) (Ext.refl _)
  have b0_1 : Hid (At (w.heap.size) 1 (.slice none 0 0) v1) := by rw [hv1]; exact At.ext (At.n0 (by rfl)) (Ext.refl _)
  have b0_2 : Hid (At (w.heap.size) 2 (.slice none 0 0) v1) := by rw [hv1]; exact At.ext (At.n0 (by rfl)) (Ext.refl _)
  have k0 : Hid (Bx 3 (w.heap.size) v1) := by rw [hv1]; exact Bx.gr (Bx.n0 3 ⟨rfl, by decide⟩ (by decide) noI_s3) (Ext.gr (Ext.refl _))
  have u0 : Hid (w.heap.size < v1.heap.size) := b0_0.out.2
  have e1_ : Ext w v1 := y1
  rw [← hv1]
  clear hv1
  refine (wof_z _ n HN1.out HN2.out).mono ?_
  rintro e w2 ⟨sb1, sv1, sm1, rfl, e1, o1, x2⟩
  have e2_ : Ext w w2 := Ext.trans e1_ x2
  obtain ⟨sp1, sl1, sc1, rfl⟩ := e1.slice
  go_wp2_with fail
  refine (wof_z _ d HD1.out HD2.out).mono ?_
  rintro e w3 ⟨sb2, sv2, sm2, rfl, e2, o2, x3⟩
  have e3_ : Ext w w3 := Ext.trans e2_ x3
  obtain ⟨sp2, sl2, sc2, rfl⟩ := e2.slice
  go_wp2_with fail
  obtain ⟨v4, hv4⟩ : ∃ W, W = ((w3.alloc (.cells #[.bool sb1, .slice sp1 sl1 sc1] 25)).alloc (.cells #[.bool sb2, .slice sp2 sl2 sc2] 25)) := ⟨_, rfl⟩
  have y4 : Ext w3 v4 := by rw [hv4]; exact (((Ext.refl _).alloc _).alloc _)
  have b1_0 : Hid (At (w3.heap.size) 0 (.bool sb1) v4) := by rw [hv4]; exact At.ext (At.n0 (by rfl)) ((Ext.refl _).alloc _)
  have b1_1 : Hid (At (w3.heap.size) 1 (.slice sp1 sl1 sc1) v4) := by rw [hv4]; exact At.ext (At.n0 (by rfl)) ((Ext.refl _).alloc _)
  have k1 : Hid (Bx 2 (w3.heap.size) v4) := by rw [hv4]; exact Bx.gr (Bx.n0 2 ⟨rfl, by decide⟩ (by decide) noI_s2) (Ext.gr ((Ext.refl _).alloc _))
  have u1 : Hid (w3.heap.size < v4.heap.size) := b1_0.out.2
  have b2_0 : Hid (At (w3.heap.size + 1) 0 (.bool sb2) v4) := by rw [hv4]; exact At.ext (At.n1 (by rfl)) (Ext.refl _)
  have b2_1 : Hid (At (w3.heap.size + 1) 1 (.slice sp2 sl2 sc2) v4) := by rw [hv4]; exact At.ext (At.n1 (by rfl)) (Ext.refl _)
  have k2 : Hid (Bx 2 (w3.heap.size + 1) v4) := by rw [hv4]; exact Bx.gr (Bx.n1 2 ⟨rfl, by decide⟩ (by decide) noI_s2) (Ext.gr (Ext.refl _))
  have u2 : Hid (w3.heap.size + 1 < v4.heap.size) := b2_0.out.2
  have e4_ : Ext w v4 := Ext.trans e3_ y4
  rw [← hv4]
  clear hv4
  have hkeep1 : AllAt' ([(w3.heap.size, 0, .bool sb1), (w3.heap.size, 1, .slice sp1 sl1 sc1), (w3.heap.size + 1, 0, .bool sb2), (w3.heap.size + 1, 1, .slice sp2 sl2 sc2)] : List (Nat × Nat × Value)) v4 := AllAt'.cons b1_0.out (AllAt'.cons b1_1.out (AllAt'.cons b2_0.out (AllAt'.cons b2_1.out (AllAt'.nil _))))
  have hob1 : ObOk w.heap.size v4 (([(w3.heap.size, 0, .bool sb1), (w3.heap.size, 1, .slice sp1 sl1 sc1), (w3.heap.size + 1, 0, .bool sb2), (w3.heap.size + 1, 1, .slice sp2 sl2 sc2)] : List (Nat × Nat × Value)).map (·.1)) ([(w.heap.size, [(0, .bool false), (1, .slice none 0 0), (2, .slice none 0 0)])] : List (Nat × List (Nat × Value))) := ⟨⟨(by omega), (b0_0.out.ext (x2.trans (x3.trans y4))).2, ⟨(b0_0.out.ext (x2.trans (x3.trans y4))), ⟨(b0_1.out.ext (x2.trans (x3.trans y4))), ⟨(b0_2.out.ext (x2.trans (x3.trans y4))), trivial⟩⟩⟩, ⟨(by (try dsimp only); have h1 := u0.out; have h2 := (x2.gr.trans x3.gr).size; have h3 := Nat.le_refl 0; omega), ⟨(by (try dsimp only); have h1 := u0.out; have h2 := (x2.gr.trans x3.gr).size; have h3 := Nat.le_refl 0; omega), ⟨(by (try dsimp only); have h1 := u0.out; have h2 := (x2.gr.trans x3.gr).size; have h3 := Nat.le_refl 0; omega), ⟨(by (try dsimp only); have h1 := u0.out; have h2 := (x2.gr.trans x3.gr).size; have h3 := Nat.le_refl 0; omega), trivial⟩⟩⟩⟩⟩, trivial⟩
  have hne1 : AllNe (([(w.heap.size, [(0, .bool false), (1, .slice none 0 0), (2, .slice none 0 0)])] : List (Nat × List (Nat × Value))).map (·.1)) := ⟨trivial, trivial⟩
  (try simp only [List.append_eq, List.cons_append, List.nil_append])
  refine wp_region_gen ⟨[12, 13, 14, 15, 16, 17, 18, 19, 20, 21, 22, 23, 24, 5], fun i => false, fun i => ([none, none, none, none, none, none, none, none, none, none, none, none, none, some (.old 0, 11), none] : List (Option (BoxRef × Nat))).getD i none, fun i => ([Sg.val (.pointer (some ⟨w3.heap.size, 0, none⟩)), Sg.val (.bool sb1), Sg.val (.pointer (some ⟨w3.heap.size + 1, 0, none⟩)), Sg.val (.bool sb2), Sg.val (.bool (sb1 != sb2)), Sg.val (.pointer (some ⟨w3.heap.size, 1, none⟩)), Sg.val (.slice sp1 sl1 sc1), Sg.intO w.heap.size (sgI (sb1 != sb2) (n).natAbs), Sg.val (.pointer (some ⟨w3.heap.size + 1, 1, none⟩)), Sg.val (.slice sp2 sl2 sc2), Sg.two (Sg.ratO w.heap.size q) (Sg.val (.int .i64 0)), Sg.ratO w.heap.size q, Sg.val (.int .i64 0), Sg.any, Sg.val (.int .i64 0)] : List Sg).getD i Sg.any, [(w3.heap.size, 0, .bool sb1), (w3.heap.size, 1, .slice sp1 sl1 sc1), (w3.heap.size + 1, 0, .bool sb2), (w3.heap.size + 1, 1, .slice sp2 sl2 sc2)], [(w.heap.size, [(0, .bool false), (1, .slice none 0 0), (2, .slice none 0 0)])]⟩ w.heap.size (by kernel_rfl) (by kernel_rfl) e4_.size ?hfr hkeep1 hob1 hne1 ?hs ?he
  case hfr =>
    intro i v wk hi hst hv
    exact absurd hi (by simp)
  case hs =>
    refine ⟨?_, ?_, ?_, ?_, ?_, ?_, ?_, ?_, ?_, ?_, ?_, ?_, ?_, ?_, ?_, trivial⟩
    · refine RStep.op rfl rfl (fun ac wk hp K hK => ?_)
      have t6_ : ac.tmps[6]?.getD undef = .pointer (some ⟨w3.heap.size, 0, none⟩) := hp.slot 6 rfl rfl
      have HP := Lib.hid hp
      clear hp
      go_simp
      refine hK.out _ _ ?_ (Ext.refl _) (fun h => absurd h (by simp))
      exact rfl
    · refine RStep.op rfl rfl (fun ac wk hp K hK => ?_)
      have u0e := hp.get 0 (by decide +kernel) rfl
      have t12_ : ac.tmps[12]?.getD undef = .pointer (some ⟨w3.heap.size, 0, none⟩) := slot_is' u0e
      have c0_ := hp.cell 0 rfl
      have HP := Lib.hid hp
      clear hp
      go_simp
      refine hK.out _ _ ?_ (Ext.refl _) (fun h => absurd h (by simp))
      exact rfl
    · refine RStep.op rfl rfl (fun ac wk hp K hK => ?_)
      have t7_ : ac.tmps[7]?.getD undef = .pointer (some ⟨w3.heap.size + 1, 0, none⟩) := hp.slot 7 rfl rfl
      have HP := Lib.hid hp
      clear hp
      go_simp
      refine hK.out _ _ ?_ (Ext.refl _) (fun h => absurd h (by simp))
      exact rfl
    · refine RStep.op rfl rfl (fun ac wk hp K hK => ?_)
      have u2e := hp.get 2 (by decide +kernel) rfl
      have t14_ : ac.tmps[14]?.getD undef = .pointer (some ⟨w3.heap.size + 1, 0, none⟩) := slot_is' u2e
      have c0_ := hp.cell 2 rfl
      have HP := Lib.hid hp
      clear hp
      go_simp
      refine hK.out _ _ ?_ (Ext.refl _) (fun h => absurd h (by simp))
      exact rfl
    · refine RStep.op rfl rfl (fun ac wk hp K hK => ?_)
      have u1e := hp.get 1 (by decide +kernel) rfl
      have t13_ : ac.tmps[13]?.getD undef = .bool sb1 := slot_is' u1e
      have u3e := hp.get 3 (by decide +kernel) rfl
      have t15_ : ac.tmps[15]?.getD undef = .bool sb2 := slot_is' u3e
      have HP := Lib.hid hp
      clear hp
      go_simp
      refine hK.out _ _ ?_ (Ext.refl _) (fun h => absurd h (by simp))
      exact rfl
    · refine RStep.op rfl rfl (fun ac wk hp K hK => ?_)
      have t6_ : ac.tmps[6]?.getD undef = .pointer (some ⟨w3.heap.size, 0, none⟩) := hp.slot 6 rfl rfl
      have HP := Lib.hid hp
      clear hp
      go_simp
      refine hK.out _ _ ?_ (Ext.refl _) (fun h => absurd h (by simp))
      exact rfl
    · refine RStep.op rfl rfl (fun ac wk hp K hK => ?_)
      have u5e := hp.get 5 (by decide +kernel) rfl
      have t17_ : ac.tmps[17]?.getD undef = .pointer (some ⟨w3.heap.size, 1, none⟩) := slot_is' u5e
      have c0_ := hp.cell 1 rfl
      have HP := Lib.hid hp
      clear hp
      go_simp
      refine hK.out _ _ ?_ (Ext.refl _) (fun h => absurd h (by simp))
      exact rfl
    · refine RStep.op rfl rfl (fun ac wk hp K hK => ?_)
      have u4e := hp.get 4 (by decide +kernel) rfl
      have t16_ : ac.tmps[16]?.getD undef = .bool (sb1 != sb2) := slot_is' u4e
      have u6e := hp.get 6 (by decide +kernel) rfl
      have t18_ : ac.tmps[18]?.getD undef = .slice sp1 sl1 sc1 := slot_is' u6e
      have HP := Lib.hid hp
      clear hp
      go_simp
      refine (wmake_is (Limbs.inN (k := 1) (e1.gr ((x3.gr.trans y4.gr).trans HP.out.gr)).mag (LenI.small (by have h1 : (-9223372036854775808 : Int) ≤ n := HN1.out; have h2 : n ≤ (9223372036854775807 : Int) := HN2.out; omega))) (sb1 != sb2) (by decide) rfl).mono ?_
      rintro e wk' ⟨sb3, sv3, sm3, rfl, e3, o3, ix⟩
      obtain ⟨sp3, sl3, sc3, rfl⟩ := e3.slice
      refine hK.out _ _ ?_ ix (fun h => absurd h (by simp))
      exact ⟨_, _, _, _, _, rfl, e3, (o3.mono (Nat.le_trans e4_.size HP.out.gr.size))⟩
    · refine RStep.op rfl rfl (fun ac wk hp K hK => ?_)
      have t7_ : ac.tmps[7]?.getD undef = .pointer (some ⟨w3.heap.size + 1, 0, none⟩) := hp.slot 7 rfl rfl
      have HP := Lib.hid hp
      clear hp
      go_simp
      refine hK.out _ _ ?_ (Ext.refl _) (fun h => absurd h (by simp))
      exact rfl
    · refine RStep.op rfl rfl (fun ac wk hp K hK => ?_)
      have u8e := hp.get 8 (by decide +kernel) rfl
      have t20_ : ac.tmps[20]?.getD undef = .pointer (some ⟨w3.heap.size + 1, 1, none⟩) := slot_is' u8e
      have c0_ := hp.cell 3 rfl
      have HP := Lib.hid hp
      clear hp
      go_simp
      refine hK.out _ _ ?_ (Ext.refl _) (fun h => absurd h (by simp))
      exact rfl
    · refine RStep.op rfl rfl (fun ac wk hp K hK => ?_)
      obtain ⟨u7b, u7p, u7n, u7c, u7m, u7e, u7i, u7o⟩ := hp.get 7 (by decide +kernel) rfl
      have t19_ : ac.tmps[19]?.getD undef = .agg #[.bool u7b, .slice u7p u7n u7c] := slot_is' u7e
      have u9e := hp.get 9 (by decide +kernel) rfl
      have t21_ : ac.tmps[21]?.getD undef = .slice sp2 sl2 sc2 := slot_is' u9e
      have HP := Lib.hid hp
      clear hp
      go_simp
      refine (rmake_is (u7i.inI (k := 1) (LenI.sg (LenI.small (z := n) (by have := HN1.out; have := HN2.out; omega)))) (Limbs.inN (k := 1) (e2.gr (y4.gr.trans HP.out.gr)).mag (LenI.small (by have h1 : (-9223372036854775808 : Int) ≤ d := HD1.out; have h2 : d ≤ (9223372036854775807 : Int) := HD2.out; omega))) HND.out (by decide) (by decide) (over_mk e1.1 e2.1 HQ.out)).mono ?_
      rintro e wk' ⟨sb4, sv4, su4, sm4, sd4, rfl, e4, o4, ix⟩
      obtain ⟨sp4, sl4, sc4, tp4, tl4, tc4, rfl, rfl⟩ := e4.slice
      refine hK.out _ _ ?_ ix (fun h => absurd h (by simp))
      exact ⟨_, _, rfl, ⟨_, _, _, _, _, _, _, _, _, rfl, e4, (o4.mono (Nat.le_trans e4_.size HP.out.gr.size))⟩, rfl⟩
    · refine RStep.op rfl rfl (fun ac wk hp K hK => ?_)
      obtain ⟨_, _, u10e, ⟨u10xb, u10xp, u10xn, u10xc, u10xq, u10xk, u10xd, u10xm, u10xl, rfl, u10xi, u10xo⟩, rfl⟩ := hp.get 10 (by decide +kernel) rfl
      have t22_ : ac.tmps[22]?.getD undef = .tuple #[.agg #[.bool u10xb, .slice u10xp u10xn u10xc, .slice u10xq u10xk u10xd], .int .i64 0] := slot_is' u10e
      have HP := Lib.hid hp
      clear hp
      go_simp
      refine hK.out _ _ ?_ (Ext.refl _) (fun h => absurd h (by simp))
      exact ⟨_, _, _, _, _, _, _, _, _, rfl, u10xi, u10xo⟩
    · refine RStep.op rfl rfl (fun ac wk hp K hK => ?_)
      obtain ⟨_, _, u10e, ⟨u10xb, u10xp, u10xn, u10xc, u10xq, u10xk, u10xd, u10xm, u10xl, rfl, u10xi, u10xo⟩, rfl⟩ := hp.get 10 (by decide +kernel) rfl
      have t22_ : ac.tmps[22]?.getD undef = .tuple #[.agg #[.bool u10xb, .slice u10xp u10xn u10xc, .slice u10xq u10xk u10xd], .int .i64 0] := slot_is' u10e
      have HP := Lib.hid hp
      clear hp
      go_simp
      refine hK.out _ _ ?_ (Ext.refl _) (fun h => absurd h (by simp))
      exact rfl
    · refine RStep.so 0 11 (w.heap.size) rfl rfl rfl (fun ac wk hp => ?_)
      have t4_ : ac.tmps[4]?.getD undef = .pointer (some ⟨w.heap.size, 0, none⟩) := hp.slot 4 rfl rfl
      obtain ⟨u11b, u11p, u11n, u11c, u11q, u11k, u11d, u11m, u11l, u11e, u11i, u11o⟩ := hp.get 11 (by decide +kernel) rfl
      have t23_ : ac.tmps[23]?.getD undef = .agg #[.bool u11b, .slice u11p u11n u11c, .slice u11q u11k u11d] := slot_is' u11e
      obtain ⟨d0, hd0, -⟩ := Bx.cell (k0.out.gr ((x2.gr.trans (x3.gr.trans y4.gr)).trans hp.gr)) (o := 0) (by decide)
      have fz0 := Bx.free (k0.out.gr ((x2.gr.trans (x3.gr.trans y4.gr)).trans hp.gr)) 0
      obtain ⟨d1, hd1, -⟩ := Bx.cell (k0.out.gr ((x2.gr.trans (x3.gr.trans y4.gr)).trans hp.gr)) (o := 1) (by decide)
      have fz1 := Bx.free (k0.out.gr ((x2.gr.trans (x3.gr.trans y4.gr)).trans hp.gr)) 1
      obtain ⟨d2, hd2, -⟩ := Bx.cell (k0.out.gr ((x2.gr.trans (x3.gr.trans y4.gr)).trans hp.gr)) (o := 2) (by decide)
      have fz2 := Bx.free (k0.out.gr ((x2.gr.trans (x3.gr.trans y4.gr)).trans hp.gr)) 2
      refine ⟨3, [.bool u11b, .slice u11p u11n u11c, .slice u11q u11k u11d], (k0.out.gr ((x2.gr.trans (x3.gr.trans y4.gr)).trans hp.gr)), by rw [u11e]; rfl, rfl, noI_s3, fun K hK => ?_⟩
      have HK := Lib.hid hK
      clear hK hp
      go_simp
      exact HK.out
    · refine RStep.op rfl rfl (fun ac wk hp K hK => ?_)
      have u12e := hp.get 12 (by decide +kernel) rfl
      have t24_ : ac.tmps[24]?.getD undef = .int .i64 0 := slot_is' u12e
      have HP := Lib.hid hp
      clear hp
      go_simp
      refine hK.out _ _ ?_ (Ext.refl _) (fun h => absurd h (by simp))
      exact rfl
  case he =>
    intro ac v5 hM
    have y1_0e := hM.post 0 rfl rfl
    have y1_1e := hM.post 1 rfl rfl
    have y1_2e := hM.post 2 rfl rfl
    have y1_3e := hM.post 3 rfl rfl
    have y1_4e := hM.post 4 rfl rfl
    have y1_5e := hM.post 5 rfl rfl
    have y1_6e := hM.post 6 rfl rfl
    obtain ⟨y1_7b, y1_7p, y1_7n, y1_7c, y1_7m, y1_7e, y1_7i, y1_7o⟩ := hM.post 7 rfl rfl
    have y1_8e := hM.post 8 rfl rfl
    have y1_9e := hM.post 9 rfl rfl
    obtain ⟨_, _, y1_10e, ⟨y1_10xb, y1_10xp, y1_10xn, y1_10xc, y1_10xq, y1_10xk, y1_10xd, y1_10xm, y1_10xl, rfl, y1_10xi, y1_10xo⟩, rfl⟩ := hM.post 10 rfl rfl
    obtain ⟨y1_11b, y1_11p, y1_11n, y1_11c, y1_11q, y1_11k, y1_11d, y1_11m, y1_11l, y1_11e, y1_11i, y1_11o⟩ := hM.post 11 rfl rfl
    have y1_12e := hM.post 12 rfl rfl
    have y1_14e := hM.post 14 rfl rfl
    have b0_0 : Hid (At (w.heap.size) 0 (.bool y1_11b) v5) := Lib.hid (hM.boxOld 13 0 11 rfl rfl rfl (cs := [.bool y1_11b, .slice y1_11p y1_11n y1_11c, .slice y1_11q y1_11k y1_11d]) (by rw [y1_11e]; rfl) 0 _ rfl)
    have b0_1 : Hid (At (w.heap.size) 1 (.slice y1_11p y1_11n y1_11c) v5) := Lib.hid (hM.boxOld 13 0 11 rfl rfl rfl (cs := [.bool y1_11b, .slice y1_11p y1_11n y1_11c, .slice y1_11q y1_11k y1_11d]) (by rw [y1_11e]; rfl) 1 _ rfl)
    have b0_2 : Hid (At (w.heap.size) 2 (.slice y1_11q y1_11k y1_11d) v5) := Lib.hid (hM.boxOld 13 0 11 rfl rfl rfl (cs := [.bool y1_11b, .slice y1_11p y1_11n y1_11c, .slice y1_11q y1_11k y1_11d]) (by rw [y1_11e]; rfl) 2 _ rfl)
    have b1_0 : Hid (At (w3.heap.size) 0 (.bool sb1) v5) := Lib.hid (hM.keep.at 0 rfl)
    have b1_1 : Hid (At (w3.heap.size) 1 (.slice sp1 sl1 sc1) v5) := Lib.hid (hM.keep.at 1 rfl)
    have b2_0 : Hid (At (w3.heap.size + 1) 0 (.bool sb2) v5) := Lib.hid (hM.keep.at 2 rfl)
    have b2_1 : Hid (At (w3.heap.size + 1) 1 (.slice sp2 sl2 sc2) v5) := Lib.hid (hM.keep.at 3 rfl)
    have gv5 : Gr v4 v5 := hM.gr
    have e5_ : Ext w v5 := Ext.below e4_ hM.blw
    have z0_ : sl ac 12 = .pointer (some ⟨w3.heap.size, 0, none⟩) := y1_0e
    have z1_ : sl ac 13 = .bool sb1 := y1_1e
    have z2_ : sl ac 14 = .pointer (some ⟨w3.heap.size + 1, 0, none⟩) := y1_2e
    have z3_ : sl ac 15 = .bool sb2 := y1_3e
    have z4_ : sl ac 16 = .bool (sb1 != sb2) := y1_4e
    have z5_ : sl ac 17 = .pointer (some ⟨w3.heap.size, 1, none⟩) := y1_5e
    have z6_ : sl ac 18 = .slice sp1 sl1 sc1 := y1_6e
    have z7_ : sl ac 19 = .agg #[.bool y1_7b, .slice y1_7p y1_7n y1_7c] := y1_7e
    have z8_ : sl ac 20 = .pointer (some ⟨w3.heap.size + 1, 1, none⟩) := y1_8e
    have z9_ : sl ac 21 = .slice sp2 sl2 sc2 := y1_9e
    have z10_ : sl ac 22 = .tuple #[.agg #[.bool y1_10xb, .slice y1_10xp y1_10xn y1_10xc, .slice y1_10xq y1_10xk y1_10xd], .int .i64 0] := y1_10e
    have z11_ : sl ac 23 = .agg #[.bool y1_11b, .slice y1_11p y1_11n y1_11c, .slice y1_11q y1_11k y1_11d] := y1_11e
    have z12_ : sl ac 24 = .int .i64 0 := y1_12e
    have z14_ : sl ac 5 = .int .i64 0 := y1_14e
    rw [hM.ag.lay]
    simp only [lay, List.foldl_cons, List.foldl_nil, List.setIfInBounds_toArray, List.set_cons_zero, List.set_cons_succ, z0_, z1_, z2_, z3_, z4_, z5_, z6_, z7_, z8_, z9_, z10_, z11_, z12_, z14_]
    clear hM hkeep1 hob1 hne1 z0_ z1_ z2_ z3_ z4_ z5_ z6_ z7_ z8_ z9_ z10_ z11_ z12_ z14_ y1_0e y1_1e y1_2e y1_3e y1_4e y1_5e y1_6e y1_7e y1_8e y1_9e y1_10e y1_11e y1_12e y1_14e
    go_wp2_with fail
    have c0 := b0_0.out.1
    have c1 := b0_1.out.1
    have c2 := b0_2.out.1
    refine bodyPost_ret (v := .tuple #[.agg #[.bool y1_11b, .slice y1_11p y1_11n y1_11c, .slice y1_11q y1_11k y1_11d], .int .i64 0]) (by simp [results, Tryz.results83, go_sem, c0, c1, c2]) rfl ?_
    exact ⟨_, _, _, _, _, rfl, y1_11i, (y1_11o), e5_⟩

set_option maxHeartbeats 4000000 in
set_option maxRecDepth 100000 in
theorem over_zero (w : World) (n d : Int) (hn1 : -9223372036854775808 ≤ n) (hn2 : n ≤ 9223372036854775807) (hd1 : -9223372036854775808 ≤ d) (hd2 : d ≤ 9223372036854775807) (hd : d = 0) :
    Calls Tryz.prog 83 #[.int .i64 n, .int .i64 d] w (RetRE w 7) := by
  have HN1 := Lib.hid hn1
  have HN2 := Lib.hid hn2
  have HD1 := Lib.hid hd1
  have HD2 := Lib.hid hd2
  have HND : Hid (d.natAbs = 0) := by show _ = _; omega
  clear hn1 hn2 hd1 hd2 hd
  go_enter Tryz.func83, Tryz.ntmps83
  go_wp2_with fail
  obtain ⟨v1, hv1⟩ : ∃ W, W = (w.alloc (.cells #[.bool false, .slice none 0 0, .slice none 0 0] 44)) := ⟨_, rfl⟩
  have y1 : Ext w v1 := by rw [hv1]; exact ((Ext.refl _).alloc _)
  have b0_0 : Hid (At (w.heap.size) 0 (.bool false) v1) := by rw [hv1]; exact At.ext (At.n0 (by rfl)) (Ext.refl _)
  have b0_1 : Hid (At (w.heap.size) 1 (.slice none 0 0) v1) := by rw [hv1]; exact At.ext (At.n0 (by rfl)) (Ext.refl _)
  have b0_2 : Hid (At (w.heap.size) 2 (.slice none 0 0) v1) := by rw [hv1]; exact At.ext (At.n0 (by rfl)) (Ext.refl _)
  have k0 : Hid (Bx 3 (w.heap.size) v1) := by rw [hv1]; exact Bx.gr (Bx.n0 3 ⟨rfl, by decide⟩ (by decide) noI_s3) (Ext.gr (Ext.refl _))
  have u0 : Hid (w.heap.size < v1.heap.size) := b0_0.out.2
  have e1_ : Ext w v1 := y1
  rw [← hv1]
  clear hv1
  refine (wof_z _ n HN1.out HN2.out).mono ?_
  rintro e w2 ⟨sb1, sv1, sm1, rfl, e1, o1, x2⟩
  have e2_ : Ext w w2 := Ext.trans e1_ x2
  obtain ⟨sp1, sl1, sc1, rfl⟩ := e1.slice
  go_wp2_with fail
  refine (wof_z _ d HD1.out HD2.out).mono ?_
  rintro e w3 ⟨sb2, sv2, sm2, rfl, e2, o2, x3⟩
  have e3_ : Ext w w3 := Ext.trans e2_ x3
  obtain ⟨sp2, sl2, sc2, rfl⟩ := e2.slice
  go_wp2_with fail
  obtain ⟨v4, hv4⟩ : ∃ W, W = ((w3.alloc (.cells #[.bool sb1, .slice sp1 sl1 sc1] 25)).alloc (.cells #[.bool sb2, .slice sp2 sl2 sc2] 25)) := ⟨_, rfl⟩
  have y4 : Ext w3 v4 := by rw [hv4]; exact (((Ext.refl _).alloc _).alloc _)
  have b1_0 : Hid (At (w3.heap.size) 0 (.bool sb1) v4) := by rw [hv4]; exact At.ext (At.n0 (by rfl)) ((Ext.refl _).alloc _)
  have b1_1 : Hid (At (w3.heap.size) 1 (.slice sp1 sl1 sc1) v4) := by rw [hv4]; exact At.ext (At.n0 (by rfl)) ((Ext.refl _).alloc _)
  have k1 : Hid (Bx 2 (w3.heap.size) v4) := by rw [hv4]; exact Bx.gr (Bx.n0 2 ⟨rfl, by decide⟩ (by decide) noI_s2) (Ext.gr ((Ext.refl _).alloc _))
  have u1 : Hid (w3.heap.size < v4.heap.size) := b1_0.out.2
  have b2_0 : Hid (At (w3.heap.size + 1) 0 (.bool sb2) v4) := by rw [hv4]; exact At.ext (At.n1 (by rfl)) (Ext.refl _)
  have b2_1 : Hid (At (w3.heap.size + 1) 1 (.slice sp2 sl2 sc2) v4) := by rw [hv4]; exact At.ext (At.n1 (by rfl)) (Ext.refl _)
  have k2 : Hid (Bx 2 (w3.heap.size + 1) v4) := by rw [hv4]; exact Bx.gr (Bx.n1 2 ⟨rfl, by decide⟩ (by decide) noI_s2) (Ext.gr (Ext.refl _))
  have u2 : Hid (w3.heap.size + 1 < v4.heap.size) := b2_0.out.2
  have e4_ : Ext w v4 := Ext.trans e3_ y4
  rw [← hv4]
  clear hv4
  have hkeep1 : AllAt' ([(w3.heap.size, 0, .bool sb1), (w3.heap.size, 1, .slice sp1 sl1 sc1), (w3.heap.size + 1, 0, .bool sb2), (w3.heap.size + 1, 1, .slice sp2 sl2 sc2)] : List (Nat × Nat × Value)) v4 := AllAt'.cons b1_0.out (AllAt'.cons b1_1.out (AllAt'.cons b2_0.out (AllAt'.cons b2_1.out (AllAt'.nil _))))
  have hob1 : ObOk w.heap.size v4 (([(w3.heap.size, 0, .bool sb1), (w3.heap.size, 1, .slice sp1 sl1 sc1), (w3.heap.size + 1, 0, .bool sb2), (w3.heap.size + 1, 1, .slice sp2 sl2 sc2)] : List (Nat × Nat × Value)).map (·.1)) ([(w.heap.size, [(0, .bool false), (1, .slice none 0 0), (2, .slice none 0 0)])] : List (Nat × List (Nat × Value))) := ⟨⟨(by omega), (b0_0.out.ext (x2.trans (x3.trans y4))).2, ⟨(b0_0.out.ext (x2.trans (x3.trans y4))), ⟨(b0_1.out.ext (x2.trans (x3.trans y4))), ⟨(b0_2.out.ext (x2.trans (x3.trans y4))), trivial⟩⟩⟩, ⟨(by (try dsimp only); have h1 := u0.out; have h2 := (x2.gr.trans x3.gr).size; have h3 := Nat.le_refl 0; omega), ⟨(by (try dsimp only); have h1 := u0.out; have h2 := (x2.gr.trans x3.gr).size; have h3 := Nat.le_refl 0; omega), ⟨(by (try dsimp only); have h1 := u0.out; have h2 := (x2.gr.trans x3.gr).size; have h3 := Nat.le_refl 0; omega), ⟨(by (try dsimp only); have h1 := u0.out; have h2 := (x2.gr.trans x3.gr).size; have h3 := Nat.le_refl 0; omega), trivial⟩⟩⟩⟩⟩, trivial⟩
  have hne1 : AllNe (([(w.heap.size, [(0, .bool false), (1, .slice none 0 0), (2, .slice none 0 0)])] : List (Nat × List (Nat × Value))).map (·.1)) := ⟨trivial, trivial⟩
  (try simp only [List.append_eq, List.cons_append, List.nil_append])
  refine wp_region_gen ⟨[12, 13, 14, 15, 16, 17, 18, 19, 20, 21, 22, 23, 24, 5], fun i => false, fun i => ([none, none, none, none, none, none, none, none, none, none, none, none, none, some (.old 0, 11), none] : List (Option (BoxRef × Nat))).getD i none, fun i => ([Sg.val (.pointer (some ⟨w3.heap.size, 0, none⟩)), Sg.val (.bool sb1), Sg.val (.pointer (some ⟨w3.heap.size + 1, 0, none⟩)), Sg.val (.bool sb2), Sg.val (.bool (sb1 != sb2)), Sg.val (.pointer (some ⟨w3.heap.size, 1, none⟩)), Sg.val (.slice sp1 sl1 sc1), Sg.intO w.heap.size (sgI (sb1 != sb2) (n).natAbs), Sg.val (.pointer (some ⟨w3.heap.size + 1, 1, none⟩)), Sg.val (.slice sp2 sl2 sc2), Sg.two (Sg.val (.agg #[.bool false, .slice none 0 0, .slice none 0 0])) (Sg.val (.int .i64 7)), Sg.val (.agg #[.bool false, .slice none 0 0, .slice none 0 0]), Sg.val (.int .i64 7), Sg.any, Sg.val (.int .i64 7)] : List Sg).getD i Sg.any, [(w3.heap.size, 0, .bool sb1), (w3.heap.size, 1, .slice sp1 sl1 sc1), (w3.heap.size + 1, 0, .bool sb2), (w3.heap.size + 1, 1, .slice sp2 sl2 sc2)], [(w.heap.size, [(0, .bool false), (1, .slice none 0 0), (2, .slice none 0 0)])]⟩ w.heap.size (by kernel_rfl) (by kernel_rfl) e4_.size ?hfr hkeep1 hob1 hne1 ?hs ?he
  case hfr =>
    intro i v wk hi hst hv
    exact absurd hi (by simp)
  case hs =>
    refine ⟨?_, ?_, ?_, ?_, ?_, ?_, ?_, ?_, ?_, ?_, ?_, ?_, ?_, ?_, ?_, trivial⟩
    · refine RStep.op rfl rfl (fun ac wk hp K hK => ?_)
      have t6_ : ac.tmps[6]?.getD undef = .pointer (some ⟨w3.heap.size, 0, none⟩) := hp.slot 6 rfl rfl
      have HP := Lib.hid hp
      clear hp
      go_simp
      refine hK.out _ _ ?_ (Ext.refl _) (fun h => absurd h (by simp))
      exact rfl
    · refine RStep.op rfl rfl (fun ac wk hp K hK => ?_)
      have u0e := hp.get 0 (by decide +kernel) rfl
      have t12_ : ac.tmps[12]?.getD undef = .pointer (some ⟨w3.heap.size, 0, none⟩) := slot_is' u0e
      have c0_ := hp.cell 0 rfl
      have HP := Lib.hid hp
      clear hp
      go_simp
      refine hK.out _ _ ?_ (Ext.refl _) (fun h => absurd h (by simp))
      exact rfl
    · refine RStep.op rfl rfl (fun ac wk hp K hK => ?_)
      have t7_ : ac.tmps[7]?.getD undef = .pointer (some ⟨w3.heap.size + 1, 0, none⟩) := hp.slot 7 rfl rfl
      have HP := Lib.hid hp
      clear hp
      go_simp
      refine hK.out _ _ ?_ (Ext.refl _) (fun h => absurd h (by simp))
      exact rfl
    · refine RStep.op rfl rfl (fun ac wk hp K hK => ?_)
      have u2e := hp.get 2 (by decide +kernel) rfl
      have t14_ : ac.tmps[14]?.getD undef = .pointer (some ⟨w3.heap.size + 1, 0, none⟩) := slot_is' u2e
      have c0_ := hp.cell 2 rfl
      have HP := Lib.hid hp
      clear hp
      go_simp
      refine hK.out _ _ ?_ (Ext.refl _) (fun h => absurd h (by simp))
      exact rfl
    · refine RStep.op rfl rfl (fun ac wk hp K hK => ?_)
      have u1e := hp.get 1 (by decide +kernel) rfl
      have t13_ : ac.tmps[13]?.getD undef = .bool sb1 := slot_is' u1e
      have u3e := hp.get 3 (by decide +kernel) rfl
      have t15_ : ac.tmps[15]?.getD undef = .bool sb2 := slot_is' u3e
      have HP := Lib.hid hp
      clear hp
      go_simp
      refine hK.out _ _ ?_ (Ext.refl _) (fun h => absurd h (by simp))
      exact rfl
    · refine RStep.op rfl rfl (fun ac wk hp K hK => ?_)
      have t6_ : ac.tmps[6]?.getD undef = .pointer (some ⟨w3.heap.size, 0, none⟩) := hp.slot 6 rfl rfl
      have HP := Lib.hid hp
      clear hp
      go_simp
      refine hK.out _ _ ?_ (Ext.refl _) (fun h => absurd h (by simp))
      exact rfl
    · refine RStep.op rfl rfl (fun ac wk hp K hK => ?_)
      have u5e := hp.get 5 (by decide +kernel) rfl
      have t17_ : ac.tmps[17]?.getD undef = .pointer (some ⟨w3.heap.size, 1, none⟩) := slot_is' u5e
      have c0_ := hp.cell 1 rfl
      have HP := Lib.hid hp
      clear hp
      go_simp
      refine hK.out _ _ ?_ (Ext.refl _) (fun h => absurd h (by simp))
      exact rfl
    · refine RStep.op rfl rfl (fun ac wk hp K hK => ?_)
      have u4e := hp.get 4 (by decide +kernel) rfl
      have t16_ : ac.tmps[16]?.getD undef = .bool (sb1 != sb2) := slot_is' u4e
      have u6e := hp.get 6 (by decide +kernel) rfl
      have t18_ : ac.tmps[18]?.getD undef = .slice sp1 sl1 sc1 := slot_is' u6e
      have HP := Lib.hid hp
      clear hp
      go_simp
      refine (wmake_is (Limbs.inN (k := 1) (e1.gr ((x3.gr.trans y4.gr).trans HP.out.gr)).mag (LenI.small (by have h1 : (-9223372036854775808 : Int) ≤ n := HN1.out; have h2 : n ≤ (9223372036854775807 : Int) := HN2.out; omega))) (sb1 != sb2) (by decide) rfl).mono ?_
      rintro e wk' ⟨sb3, sv3, sm3, rfl, e3, o3, ix⟩
      obtain ⟨sp3, sl3, sc3, rfl⟩ := e3.slice
      refine hK.out _ _ ?_ ix (fun h => absurd h (by simp))
      exact ⟨_, _, _, _, _, rfl, e3, (o3.mono (Nat.le_trans e4_.size HP.out.gr.size))⟩
    · refine RStep.op rfl rfl (fun ac wk hp K hK => ?_)
      have t7_ : ac.tmps[7]?.getD undef = .pointer (some ⟨w3.heap.size + 1, 0, none⟩) := hp.slot 7 rfl rfl
      have HP := Lib.hid hp
      clear hp
      go_simp
      refine hK.out _ _ ?_ (Ext.refl _) (fun h => absurd h (by simp))
      exact rfl
    · refine RStep.op rfl rfl (fun ac wk hp K hK => ?_)
      have u8e := hp.get 8 (by decide +kernel) rfl
      have t20_ : ac.tmps[20]?.getD undef = .pointer (some ⟨w3.heap.size + 1, 1, none⟩) := slot_is' u8e
      have c0_ := hp.cell 3 rfl
      have HP := Lib.hid hp
      clear hp
      go_simp
      refine hK.out _ _ ?_ (Ext.refl _) (fun h => absurd h (by simp))
      exact rfl
    · refine RStep.op rfl rfl (fun ac wk hp K hK => ?_)
      obtain ⟨u7b, u7p, u7n, u7c, u7m, u7e, u7i, u7o⟩ := hp.get 7 (by decide +kernel) rfl
      have t19_ : ac.tmps[19]?.getD undef = .agg #[.bool u7b, .slice u7p u7n u7c] := slot_is' u7e
      have u9e := hp.get 9 (by decide +kernel) rfl
      have t21_ : ac.tmps[21]?.getD undef = .slice sp2 sl2 sc2 := slot_is' u9e
      have HP := Lib.hid hp
      clear hp
      go_simp
      refine (rmake_zero (u7i.inI (k := 1) (LenI.sg (LenI.small (z := n) (by have := HN1.out; have := HN2.out; omega)))) (Limbs.inN (k := 1) (e2.gr (y4.gr.trans HP.out.gr)).mag (LenI.small (by have h1 : (-9223372036854775808 : Int) ≤ d := HD1.out; have h2 : d ≤ (9223372036854775807 : Int) := HD2.out; omega))) HND.out (by decide) (by decide)).mono ?_
      rintro e wk' ⟨rfl, ix⟩
      refine hK.out _ _ ?_ ix (fun h => absurd h (by simp))
      exact ⟨_, _, rfl, rfl, rfl⟩
    · refine RStep.op rfl rfl (fun ac wk hp K hK => ?_)
      obtain ⟨_, _, u10e, rfl, rfl⟩ := hp.get 10 (by decide +kernel) rfl
      have t22_ : ac.tmps[22]?.getD undef = .tuple #[.agg #[.bool false, .slice none 0 0, .slice none 0 0], .int .i64 7] := slot_is' u10e
      have HP := Lib.hid hp
      clear hp
      go_simp
      refine hK.out _ _ ?_ (Ext.refl _) (fun h => absurd h (by simp))
      exact rfl
    · refine RStep.op rfl rfl (fun ac wk hp K hK => ?_)
      obtain ⟨_, _, u10e, rfl, rfl⟩ := hp.get 10 (by decide +kernel) rfl
      have t22_ : ac.tmps[22]?.getD undef = .tuple #[.agg #[.bool false, .slice none 0 0, .slice none 0 0], .int .i64 7] := slot_is' u10e
      have HP := Lib.hid hp
      clear hp
      go_simp
      refine hK.out _ _ ?_ (Ext.refl _) (fun h => absurd h (by simp))
      exact rfl
    · refine RStep.so 0 11 (w.heap.size) rfl rfl rfl (fun ac wk hp => ?_)
      have t4_ : ac.tmps[4]?.getD undef = .pointer (some ⟨w.heap.size, 0, none⟩) := hp.slot 4 rfl rfl
      have u11e := hp.get 11 (by decide +kernel) rfl
      have t23_ : ac.tmps[23]?.getD undef = .agg #[.bool false, .slice none 0 0, .slice none 0 0] := slot_is' u11e
      obtain ⟨d0, hd0, -⟩ := Bx.cell (k0.out.gr ((x2.gr.trans (x3.gr.trans y4.gr)).trans hp.gr)) (o := 0) (by decide)
      have fz0 := Bx.free (k0.out.gr ((x2.gr.trans (x3.gr.trans y4.gr)).trans hp.gr)) 0
      obtain ⟨d1, hd1, -⟩ := Bx.cell (k0.out.gr ((x2.gr.trans (x3.gr.trans y4.gr)).trans hp.gr)) (o := 1) (by decide)
      have fz1 := Bx.free (k0.out.gr ((x2.gr.trans (x3.gr.trans y4.gr)).trans hp.gr)) 1
      obtain ⟨d2, hd2, -⟩ := Bx.cell (k0.out.gr ((x2.gr.trans (x3.gr.trans y4.gr)).trans hp.gr)) (o := 2) (by decide)
      have fz2 := Bx.free (k0.out.gr ((x2.gr.trans (x3.gr.trans y4.gr)).trans hp.gr)) 2
      refine ⟨3, [.bool false, .slice none 0 0, .slice none 0 0], (k0.out.gr ((x2.gr.trans (x3.gr.trans y4.gr)).trans hp.gr)), by rw [u11e]; rfl, rfl, noI_s3, fun K hK => ?_⟩
      have HK := Lib.hid hK
      clear hK hp
      go_simp
      exact HK.out
    · refine RStep.op rfl rfl (fun ac wk hp K hK => ?_)
      have u12e := hp.get 12 (by decide +kernel) rfl
      have t24_ : ac.tmps[24]?.getD undef = .int .i64 7 := slot_is' u12e
      have HP := Lib.hid hp
      clear hp
      go_simp
      refine hK.out _ _ ?_ (Ext.refl _) (fun h => absurd h (by simp))
      exact rfl
  case he =>
    intro ac v5 hM
    have y1_0e := hM.post 0 rfl rfl
    have y1_1e := hM.post 1 rfl rfl
    have y1_2e := hM.post 2 rfl rfl
    have y1_3e := hM.post 3 rfl rfl
    have y1_4e := hM.post 4 rfl rfl
    have y1_5e := hM.post 5 rfl rfl
    have y1_6e := hM.post 6 rfl rfl
    obtain ⟨y1_7b, y1_7p, y1_7n, y1_7c, y1_7m, y1_7e, y1_7i, y1_7o⟩ := hM.post 7 rfl rfl
    have y1_8e := hM.post 8 rfl rfl
    have y1_9e := hM.post 9 rfl rfl
    obtain ⟨_, _, y1_10e, rfl, rfl⟩ := hM.post 10 rfl rfl
    have y1_11e := hM.post 11 rfl rfl
    have y1_12e := hM.post 12 rfl rfl
    have y1_14e := hM.post 14 rfl rfl
    have b0_0 : Hid (At (w.heap.size) 0 (.bool false) v5) := Lib.hid (hM.boxOld 13 0 11 rfl rfl rfl (cs := [.bool false, .slice none 0 0, .slice none 0 0]) (by rw [y1_11e]; rfl) 0 _ rfl)
    have b0_1 : Hid (At (w.heap.size) 1 (.slice none 0 0) v5) := Lib.hid (hM.boxOld 13 0 11 rfl rfl rfl (cs := [.bool false, .slice none 0 0, .slice none 0 0]) (by rw [y1_11e]; rfl) 1 _ rfl)
    have b0_2 : Hid (At (w.heap.size) 2 (.slice none 0 0) v5) := Lib.hid (hM.boxOld 13 0 11 rfl rfl rfl (cs := [.bool false, .slice none 0 0, .slice none 0 0]) (by rw [y1_11e]; rfl) 2 _ rfl)
    have b1_0 : Hid (At (w3.heap.size) 0 (.bool sb1) v5) := Lib.hid (hM.keep.at 0 rfl)
    have b1_1 : Hid (At (w3.heap.size) 1 (.slice sp1 sl1 sc1) v5) := Lib.hid (hM.keep.at 1 rfl)
    have b2_0 : Hid (At (w3.heap.size + 1) 0 (.bool sb2) v5) := Lib.hid (hM.keep.at 2 rfl)
    have b2_1 : Hid (At (w3.heap.size + 1) 1 (.slice sp2 sl2 sc2) v5) := Lib.hid (hM.keep.at 3 rfl)
    have gv5 : Gr v4 v5 := hM.gr
    have e5_ : Ext w v5 := Ext.below e4_ hM.blw
    have z0_ : sl ac 12 = .pointer (some ⟨w3.heap.size, 0, none⟩) := y1_0e
    have z1_ : sl ac 13 = .bool sb1 := y1_1e
    have z2_ : sl ac 14 = .pointer (some ⟨w3.heap.size + 1, 0, none⟩) := y1_2e
    have z3_ : sl ac 15 = .bool sb2 := y1_3e
    have z4_ : sl ac 16 = .bool (sb1 != sb2) := y1_4e
    have z5_ : sl ac 17 = .pointer (some ⟨w3.heap.size, 1, none⟩) := y1_5e
    have z6_ : sl ac 18 = .slice sp1 sl1 sc1 := y1_6e
    have z7_ : sl ac 19 = .agg #[.bool y1_7b, .slice y1_7p y1_7n y1_7c] := y1_7e
    have z8_ : sl ac 20 = .pointer (some ⟨w3.heap.size + 1, 1, none⟩) := y1_8e
    have z9_ : sl ac 21 = .slice sp2 sl2 sc2 := y1_9e
    have z10_ : sl ac 22 = .tuple #[.agg #[.bool false, .slice none 0 0, .slice none 0 0], .int .i64 7] := y1_10e
    have z11_ : sl ac 23 = .agg #[.bool false, .slice none 0 0, .slice none 0 0] := y1_11e
    have z12_ : sl ac 24 = .int .i64 7 := y1_12e
    have z14_ : sl ac 5 = .int .i64 7 := y1_14e
    rw [hM.ag.lay]
    simp only [lay, List.foldl_cons, List.foldl_nil, List.setIfInBounds_toArray, List.set_cons_zero, List.set_cons_succ, z0_, z1_, z2_, z3_, z4_, z5_, z6_, z7_, z8_, z9_, z10_, z11_, z12_, z14_]
    clear hM hkeep1 hob1 hne1 z0_ z1_ z2_ z3_ z4_ z5_ z6_ z7_ z8_ z9_ z10_ z11_ z12_ z14_ y1_0e y1_1e y1_2e y1_3e y1_4e y1_5e y1_6e y1_7e y1_8e y1_9e y1_10e y1_11e y1_12e y1_14e
    go_wp2_with fail
    have c0 := b0_0.out.1
    have c1 := b0_1.out.1
    have c2 := b0_2.out.1
    refine bodyPost_ret (v := .tuple #[.agg #[.bool false, .slice none 0 0, .slice none 0 0], .int .i64 7]) (by simp [results, Tryz.results83, go_sem, c0, c1, c2]) rfl ?_
    exact ⟨rfl, e5_⟩

set_option maxHeartbeats 4000000 in
set_option maxRecDepth 100000 in
theorem rcmp_is {w : World} {ba bb : Bool} {va ua vb ub : Value} {k l : Nat} {a b : Rat} (ha : InR w ba va ua k a) (hb : InR w bb vb ub l b) (hk : k + l ≤ 30000) {s : Int} (hs : cmpR a b = s) :
    Calls Tryz.prog 54 #[.agg #[.bool ba, va, ua], .agg #[.bool bb, vb, ub]] w fun e w' => e = .returned (.int .i64 s) ∧ Ext w w' := by
  obtain ⟨pa, qa, ra, pa', qa', ra', rfl, rfl⟩ := ha.slice
  obtain ⟨pb, qb, rb, pb', qb', rb', rfl, rfl⟩ := hb.slice
  have HK := Lib.hid hk
  have LA := Lib.hid ha.len
  have LB := Lib.hid hb.len
  clear hk
  have HS : Hid (cmpI (a.num * (b.den : Nat)) (b.num * (a.den : Nat)) = s) := hs
  clear hs
  go_enter Tryz.func54, Tryz.ntmps54
  go_wp2_with fail
  obtain ⟨v1, hv1⟩ : ∃ W, W = ((w.alloc (.cells #[.bool ba, .slice pa qa ra, .slice pa' qa' ra'] 44)).alloc (.cells #[.bool bb, .slice pb qb rb, .slice pb' qb' rb'] 44)) := ⟨_, rfl⟩
  have y1 : Ext w v1 := by rw [hv1]; exact (((Ext.refl _).alloc _).alloc _)
  have b0_0 : Hid (At (w.heap.size) 0 (.bool ba) v1) := by rw [hv1]; exact At.ext (At.n0 (by rfl)) ((Ext.refl _).alloc _)
  have b0_1 : Hid (At (w.heap.size) 1 (.slice pa qa ra) v1) := by rw [hv1]; exact At.ext (At.n0 (by rfl)) ((Ext.refl _).alloc _)
  have b0_2 : Hid (At (w.heap.size) 2 (.slice pa' qa' ra') v1) := by rw [hv1]; exact At.ext (At.n0 (by rfl)) ((Ext.refl _).alloc _)
  have k0 : Hid (Bx 3 (w.heap.size) v1) := by rw [hv1]; exact Bx.gr (Bx.n0 3 ⟨rfl, by decide⟩ (by decide) noI_s3) (Ext.gr ((Ext.refl _).alloc _))
  have u0 : Hid (w.heap.size < v1.heap.size) := b0_0.out.2
  have b1_0 : Hid (At (w.heap.size + 1) 0 (.bool bb) v1) := by rw [hv1]; exact At.ext (At.n1 (by rfl)) (Ext.refl _)
  have b1_1 : Hid (At (w.heap.size + 1) 1 (.slice pb qb rb) v1) := by rw [hv1]; exact At.ext (At.n1 (by rfl)) (Ext.refl _)
  have b1_2 : Hid (At (w.heap.size + 1) 2 (.slice pb' qb' rb') v1) := by rw [hv1]; exact At.ext (At.n1 (by rfl)) (Ext.refl _)
  have k1 : Hid (Bx 3 (w.heap.size + 1) v1) := by rw [hv1]; exact Bx.gr (Bx.n1 3 ⟨rfl, by decide⟩ (by decide) noI_s3) (Ext.gr (Ext.refl _))
  have u1 : Hid (w.heap.size + 1 < v1.heap.size) := b1_0.out.2
  have e1_ : Ext w v1 := y1
  rw [← hv1]
  clear hv1
  have hkeep1 : AllAt' ([] : List (Nat × Nat × Value)) v1 := AllAt'.nil _
  have hob1 : ObOk w.heap.size v1 (([] : List (Nat × Nat × Value)).map (·.1)) ([(w.heap.size, [(0, .bool ba), (1, .slice pa qa ra), (2, .slice pa' qa' ra')]), (w.heap.size + 1, [(0, .bool bb), (1, .slice pb qb rb), (2, .slice pb' qb' rb')])] : List (Nat × List (Nat × Value))) := ⟨⟨(by omega), b0_0.out.2, ⟨b0_0.out, ⟨b0_1.out, ⟨b0_2.out, trivial⟩⟩⟩, trivial⟩, ⟨⟨(by omega), b1_0.out.2, ⟨b1_0.out, ⟨b1_1.out, ⟨b1_2.out, trivial⟩⟩⟩, trivial⟩, trivial⟩⟩
  have hne1 : AllNe (([(w.heap.size, [(0, .bool ba), (1, .slice pa qa ra), (2, .slice pa' qa' ra')]), (w.heap.size + 1, [(0, .bool bb), (1, .slice pb qb rb), (2, .slice pb' qb' rb')])] : List (Nat × List (Nat × Value))).map (·.1)) := ⟨⟨(by (try dsimp only); omega), trivial⟩, ⟨trivial, trivial⟩⟩
  (try simp only [List.append_eq, List.cons_append, List.nil_append])
  refine wp_region_gen ⟨[5, 6, 7, 8], fun i => false, fun i => ([none, none, none, none, some (.old 0, 1), some (.old 1, 3)] : List (Option (BoxRef × Nat))).getD i none, fun i => ([Sg.val (.agg #[.bool ba, .slice pa qa ra, .slice pa' qa' ra']), Sg.ratO w.heap.size a, Sg.val (.agg #[.bool bb, .slice pb qb rb, .slice pb' qb' rb']), Sg.ratO w.heap.size b, Sg.any, Sg.any] : List Sg).getD i Sg.any, [], [(w.heap.size, [(0, .bool ba), (1, .slice pa qa ra), (2, .slice pa' qa' ra')]), (w.heap.size + 1, [(0, .bool bb), (1, .slice pb qb rb), (2, .slice pb' qb' rb')])]⟩ w.heap.size (by kernel_rfl) (by kernel_rfl) e1_.size ?hfr hkeep1 hob1 hne1 ?hs ?he
  case hfr =>
    intro i v wk hi hst hv
    exact absurd hi (by simp)
  case hs =>
    refine ⟨?_, ?_, ?_, ?_, ?_, ?_, trivial⟩
    · refine RStep.op rfl rfl (fun ac wk hp K hK => ?_)
      have t2_ : ac.tmps[2]?.getD undef = .pointer (some ⟨w.heap.size, 0, none⟩) := hp.slot 2 rfl rfl
      have c0_ := hp.ocell 4 0 (by decide) rfl (by decide +kernel) rfl
      have c1_ := hp.ocell 4 1 (by decide) rfl (by decide +kernel) rfl
      have c2_ := hp.ocell 4 2 (by decide) rfl (by decide +kernel) rfl
      have HP := Lib.hid hp
      clear hp
      go_simp
      refine hK.out _ _ ?_ (Ext.refl _) (fun h => absurd h (by simp))
      exact rfl
    · refine RStep.op rfl rfl (fun ac wk hp K hK => ?_)
      have u0e := hp.get 0 (by decide +kernel) rfl
      have t5_ : ac.tmps[5]?.getD undef = .agg #[.bool ba, .slice pa qa ra, .slice pa' qa' ra'] := slot_is' u0e
      have HP := Lib.hid hp
      clear hp
      go_simp
      refine (rcount_is (ha.gr (y1.gr.trans HP.out.gr)) (by have h1 := HK.out; omega)).mono ?_
      rintro e wk' ⟨sb1, sv1, su1, sm1, sd1, rfl, e1, o1, ix⟩
      obtain ⟨sp1, sl1, sc1, tp1, tl1, tc1, rfl, rfl⟩ := e1.slice
      refine hK.out _ _ ?_ ix (fun h => absurd h (by simp))
      exact ⟨_, _, _, _, _, _, _, _, _, rfl, e1, (o1.mono (Nat.le_trans e1_.size HP.out.gr.size))⟩
    · refine RStep.op rfl rfl (fun ac wk hp K hK => ?_)
      have t3_ : ac.tmps[3]?.getD undef = .pointer (some ⟨w.heap.size + 1, 0, none⟩) := hp.slot 3 rfl rfl
      have c0_ := hp.ocell 5 0 (by decide) rfl (by decide +kernel) rfl
      have c1_ := hp.ocell 5 1 (by decide) rfl (by decide +kernel) rfl
      have c2_ := hp.ocell 5 2 (by decide) rfl (by decide +kernel) rfl
      have HP := Lib.hid hp
      clear hp
      go_simp
      refine hK.out _ _ ?_ (Ext.refl _) (fun h => absurd h (by simp))
      exact rfl
    · refine RStep.op rfl rfl (fun ac wk hp K hK => ?_)
      have u2e := hp.get 2 (by decide +kernel) rfl
      have t7_ : ac.tmps[7]?.getD undef = .agg #[.bool bb, .slice pb qb rb, .slice pb' qb' rb'] := slot_is' u2e
      have HP := Lib.hid hp
      clear hp
      go_simp
      refine (rcount_is (hb.gr (y1.gr.trans HP.out.gr)) (by have h1 := HK.out; omega)).mono ?_
      rintro e wk' ⟨sb2, sv2, su2, sm2, sd2, rfl, e2, o2, ix⟩
      obtain ⟨sp2, sl2, sc2, tp2, tl2, tc2, rfl, rfl⟩ := e2.slice
      refine hK.out _ _ ?_ ix (fun h => absurd h (by simp))
      exact ⟨_, _, _, _, _, _, _, _, _, rfl, e2, (o2.mono (Nat.le_trans e1_.size HP.out.gr.size))⟩
    · refine RStep.so 0 1 (w.heap.size) rfl rfl rfl (fun ac wk hp => ?_)
      have t2_ : ac.tmps[2]?.getD undef = .pointer (some ⟨w.heap.size, 0, none⟩) := hp.slot 2 rfl rfl
      obtain ⟨u1b, u1p, u1n, u1c, u1q, u1k, u1d, u1m, u1l, u1e, u1i, u1o⟩ := hp.get 1 (by decide +kernel) rfl
      have t6_ : ac.tmps[6]?.getD undef = .agg #[.bool u1b, .slice u1p u1n u1c, .slice u1q u1k u1d] := slot_is' u1e
      obtain ⟨d0, hd0, -⟩ := Bx.cell (k0.out.gr hp.gr) (o := 0) (by decide)
      have fz0 := Bx.free (k0.out.gr hp.gr) 0
      obtain ⟨d1, hd1, -⟩ := Bx.cell (k0.out.gr hp.gr) (o := 1) (by decide)
      have fz1 := Bx.free (k0.out.gr hp.gr) 1
      obtain ⟨d2, hd2, -⟩ := Bx.cell (k0.out.gr hp.gr) (o := 2) (by decide)
      have fz2 := Bx.free (k0.out.gr hp.gr) 2
      refine ⟨3, [.bool u1b, .slice u1p u1n u1c, .slice u1q u1k u1d], (k0.out.gr hp.gr), by rw [u1e]; rfl, rfl, noI_s3, fun K hK => ?_⟩
      have HK := Lib.hid hK
      clear hK hp
      go_simp
      exact HK.out
    · refine RStep.so 1 3 (w.heap.size + 1) rfl rfl rfl (fun ac wk hp => ?_)
      have t3_ : ac.tmps[3]?.getD undef = .pointer (some ⟨w.heap.size + 1, 0, none⟩) := hp.slot 3 rfl rfl
      obtain ⟨u3b, u3p, u3n, u3c, u3q, u3k, u3d, u3m, u3l, u3e, u3i, u3o⟩ := hp.get 3 (by decide +kernel) rfl
      have t8_ : ac.tmps[8]?.getD undef = .agg #[.bool u3b, .slice u3p u3n u3c, .slice u3q u3k u3d] := slot_is' u3e
      obtain ⟨d0, hd0, -⟩ := Bx.cell (k1.out.gr hp.gr) (o := 0) (by decide)
      have fz0 := Bx.free (k1.out.gr hp.gr) 0
      obtain ⟨d1, hd1, -⟩ := Bx.cell (k1.out.gr hp.gr) (o := 1) (by decide)
      have fz1 := Bx.free (k1.out.gr hp.gr) 1
      obtain ⟨d2, hd2, -⟩ := Bx.cell (k1.out.gr hp.gr) (o := 2) (by decide)
      have fz2 := Bx.free (k1.out.gr hp.gr) 2
      refine ⟨3, [.bool u3b, .slice u3p u3n u3c, .slice u3q u3k u3d], (k1.out.gr hp.gr), by rw [u3e]; rfl, rfl, noI_s3, fun K hK => ?_⟩
      have HK := Lib.hid hK
      clear hK hp
      go_simp
      exact HK.out
  case he =>
    intro ac v2 hM
    have y1_0e := hM.post 0 rfl rfl
    obtain ⟨y1_1b, y1_1p, y1_1n, y1_1c, y1_1q, y1_1k, y1_1d, y1_1m, y1_1l, y1_1e, y1_1i, y1_1o⟩ := hM.post 1 rfl rfl
    have y1_2e := hM.post 2 rfl rfl
    obtain ⟨y1_3b, y1_3p, y1_3n, y1_3c, y1_3q, y1_3k, y1_3d, y1_3m, y1_3l, y1_3e, y1_3i, y1_3o⟩ := hM.post 3 rfl rfl
    have b0_0 : Hid (At (w.heap.size) 0 (.bool y1_1b) v2) := Lib.hid (hM.boxOld 4 0 1 rfl rfl rfl (cs := [.bool y1_1b, .slice y1_1p y1_1n y1_1c, .slice y1_1q y1_1k y1_1d]) (by rw [y1_1e]; rfl) 0 _ rfl)
    have b0_1 : Hid (At (w.heap.size) 1 (.slice y1_1p y1_1n y1_1c) v2) := Lib.hid (hM.boxOld 4 0 1 rfl rfl rfl (cs := [.bool y1_1b, .slice y1_1p y1_1n y1_1c, .slice y1_1q y1_1k y1_1d]) (by rw [y1_1e]; rfl) 1 _ rfl)
    have b0_2 : Hid (At (w.heap.size) 2 (.slice y1_1q y1_1k y1_1d) v2) := Lib.hid (hM.boxOld 4 0 1 rfl rfl rfl (cs := [.bool y1_1b, .slice y1_1p y1_1n y1_1c, .slice y1_1q y1_1k y1_1d]) (by rw [y1_1e]; rfl) 2 _ rfl)
    have b1_0 : Hid (At (w.heap.size + 1) 0 (.bool y1_3b) v2) := Lib.hid (hM.boxOld 5 1 3 rfl rfl rfl (cs := [.bool y1_3b, .slice y1_3p y1_3n y1_3c, .slice y1_3q y1_3k y1_3d]) (by rw [y1_3e]; rfl) 0 _ rfl)
    have b1_1 : Hid (At (w.heap.size + 1) 1 (.slice y1_3p y1_3n y1_3c) v2) := Lib.hid (hM.boxOld 5 1 3 rfl rfl rfl (cs := [.bool y1_3b, .slice y1_3p y1_3n y1_3c, .slice y1_3q y1_3k y1_3d]) (by rw [y1_3e]; rfl) 1 _ rfl)
    have b1_2 : Hid (At (w.heap.size + 1) 2 (.slice y1_3q y1_3k y1_3d) v2) := Lib.hid (hM.boxOld 5 1 3 rfl rfl rfl (cs := [.bool y1_3b, .slice y1_3p y1_3n y1_3c, .slice y1_3q y1_3k y1_3d]) (by rw [y1_3e]; rfl) 2 _ rfl)
    have gv2 : Gr v1 v2 := hM.gr
    have e2_ : Ext w v2 := Ext.below e1_ hM.blw
    have z0_ : sl ac 5 = .agg #[.bool ba, .slice pa qa ra, .slice pa' qa' ra'] := y1_0e
    have z1_ : sl ac 6 = .agg #[.bool y1_1b, .slice y1_1p y1_1n y1_1c, .slice y1_1q y1_1k y1_1d] := y1_1e
    have z2_ : sl ac 7 = .agg #[.bool bb, .slice pb qb rb, .slice pb' qb' rb'] := y1_2e
    have z3_ : sl ac 8 = .agg #[.bool y1_3b, .slice y1_3p y1_3n y1_3c, .slice y1_3q y1_3k y1_3d] := y1_3e
    rw [hM.ag.lay]
    simp only [lay, List.foldl_cons, List.foldl_nil, List.setIfInBounds_toArray, List.set_cons_zero, List.set_cons_succ, z0_, z1_, z2_, z3_]
    clear hM hkeep1 hob1 hne1 z0_ z1_ z2_ z3_ y1_0e y1_1e y1_2e y1_3e
    go_wp2_with fail
    have hkeep2 : AllAt' ([(w.heap.size, 0, .bool y1_1b), (w.heap.size, 1, .slice y1_1p y1_1n y1_1c), (w.heap.size, 2, .slice y1_1q y1_1k y1_1d), (w.heap.size + 1, 0, .bool y1_3b), (w.heap.size + 1, 1, .slice y1_3p y1_3n y1_3c), (w.heap.size + 1, 2, .slice y1_3q y1_3k y1_3d)] : List (Nat × Nat × Value)) v2 := AllAt'.cons b0_0.out (AllAt'.cons b0_1.out (AllAt'.cons b0_2.out (AllAt'.cons b1_0.out (AllAt'.cons b1_1.out (AllAt'.cons b1_2.out (AllAt'.nil _))))))
    have hob2 : ObOk w.heap.size v2 (([(w.heap.size, 0, .bool y1_1b), (w.heap.size, 1, .slice y1_1p y1_1n y1_1c), (w.heap.size, 2, .slice y1_1q y1_1k y1_1d), (w.heap.size + 1, 0, .bool y1_3b), (w.heap.size + 1, 1, .slice y1_3p y1_3n y1_3c), (w.heap.size + 1, 2, .slice y1_3q y1_3k y1_3d)] : List (Nat × Nat × Value)).map (·.1)) ([] : List (Nat × List (Nat × Value))) := trivial
    have hne2 : AllNe (([] : List (Nat × List (Nat × Value))).map (·.1)) := trivial
    (try simp only [List.append_eq, List.cons_append, List.nil_append])
    refine wp_region_gen ⟨[9, 10, 11, 12, 13, 14, 15, 16, 17, 18, 19, 4], fun i => false, fun i => ([none, none, none, none, none, none, none, none, none, none, none, none] : List (Option (BoxRef × Nat))).getD i none, fun i => ([Sg.val (.pointer (some ⟨w.heap.size, 0, none⟩)), Sg.val (.agg #[.bool y1_1b, .slice y1_1p y1_1n y1_1c]), Sg.val (.pointer (some ⟨w.heap.size + 1, 2, none⟩)), Sg.val (.slice y1_3q y1_3k y1_3d), Sg.intO w.heap.size ((a).num * ((b).den : Nat)), Sg.val (.pointer (some ⟨w.heap.size + 1, 0, none⟩)), Sg.val (.agg #[.bool y1_3b, .slice y1_3p y1_3n y1_3c]), Sg.val (.pointer (some ⟨w.heap.size, 2, none⟩)), Sg.val (.slice y1_1q y1_1k y1_1d), Sg.intO w.heap.size ((b).num * ((a).den : Nat)), Sg.val (.int .i64 s), Sg.val (.int .i64 s)] : List Sg).getD i Sg.any, [(w.heap.size, 0, .bool y1_1b), (w.heap.size, 1, .slice y1_1p y1_1n y1_1c), (w.heap.size, 2, .slice y1_1q y1_1k y1_1d), (w.heap.size + 1, 0, .bool y1_3b), (w.heap.size + 1, 1, .slice y1_3p y1_3n y1_3c), (w.heap.size + 1, 2, .slice y1_3q y1_3k y1_3d)], []⟩ w.heap.size (by kernel_rfl) (by kernel_rfl) e2_.size ?hfr hkeep2 hob2 hne2 ?hs ?he
    case hfr =>
      intro i v wk hi hst hv
      exact absurd hi (by simp)
    case hs =>
      refine ⟨?_, ?_, ?_, ?_, ?_, ?_, ?_, ?_, ?_, ?_, ?_, ?_, trivial⟩
      · refine RStep.op rfl rfl (fun ac wk hp K hK => ?_)
        have t2_ : ac.tmps[2]?.getD undef = .pointer (some ⟨w.heap.size, 0, none⟩) := hp.slot 2 rfl rfl
        have HP := Lib.hid hp
        clear hp
        go_simp
        refine hK.out _ _ ?_ (Ext.refl _) (fun h => absurd h (by simp))
        exact rfl
      · refine RStep.op rfl rfl (fun ac wk hp K hK => ?_)
        have u0e := hp.get 0 (by decide +kernel) rfl
        have t9_ : ac.tmps[9]?.getD undef = .pointer (some ⟨w.heap.size, 0, none⟩) := slot_is' u0e
        have c0_ := hp.cell 0 rfl
        have c1_ := hp.cell 1 rfl
        have HP := Lib.hid hp
        clear hp
        go_simp
        refine hK.out _ _ ?_ (Ext.refl _) (fun h => absurd h (by simp))
        exact rfl
      · refine RStep.op rfl rfl (fun ac wk hp K hK => ?_)
        have t3_ : ac.tmps[3]?.getD undef = .pointer (some ⟨w.heap.size + 1, 0, none⟩) := hp.slot 3 rfl rfl
        have HP := Lib.hid hp
        clear hp
        go_simp
        refine hK.out _ _ ?_ (Ext.refl _) (fun h => absurd h (by simp))
        exact rfl
      · refine RStep.op rfl rfl (fun ac wk hp K hK => ?_)
        have u2e := hp.get 2 (by decide +kernel) rfl
        have t11_ : ac.tmps[11]?.getD undef = .pointer (some ⟨w.heap.size + 1, 2, none⟩) := slot_is' u2e
        have c0_ := hp.cell 5 rfl
        have HP := Lib.hid hp
        clear hp
        go_simp
        refine hK.out _ _ ?_ (Ext.refl _) (fun h => absurd h (by simp))
        exact rfl
      · refine RStep.op rfl rfl (fun ac wk hp K hK => ?_)
        have u1e := hp.get 1 (by decide +kernel) rfl
        have t10_ : ac.tmps[10]?.getD undef = .agg #[.bool y1_1b, .slice y1_1p y1_1n y1_1c] := slot_is' u1e
        have u3e := hp.get 3 (by decide +kernel) rfl
        have t12_ : ac.tmps[12]?.getD undef = .slice y1_3q y1_3k y1_3d := slot_is' u3e
        have HP := Lib.hid hp
        clear hp
        go_simp
        refine (by_is ((y1_1i.gr HP.out.gr).num.inI (k := k) LA.out.1) (Limbs.inN (k := l) (y1_3i.gr HP.out.gr).den LB.out.2) (by have h1 := HK.out; omega) rfl).mono ?_
        rintro e wk' ⟨sb3, sv3, sm3, rfl, e3, o3, ix⟩
        obtain ⟨sp3, sl3, sc3, rfl⟩ := e3.slice
        refine hK.out _ _ ?_ ix (fun h => absurd h (by simp))
        exact ⟨_, _, _, _, _, rfl, e3, (o3.mono (Nat.le_trans e2_.size HP.out.gr.size))⟩
      · refine RStep.op rfl rfl (fun ac wk hp K hK => ?_)
        have t3_ : ac.tmps[3]?.getD undef = .pointer (some ⟨w.heap.size + 1, 0, none⟩) := hp.slot 3 rfl rfl
        have HP := Lib.hid hp
        clear hp
        go_simp
        refine hK.out _ _ ?_ (Ext.refl _) (fun h => absurd h (by simp))
        exact rfl
      · refine RStep.op rfl rfl (fun ac wk hp K hK => ?_)
        have u5e := hp.get 5 (by decide +kernel) rfl
        have t14_ : ac.tmps[14]?.getD undef = .pointer (some ⟨w.heap.size + 1, 0, none⟩) := slot_is' u5e
        have c0_ := hp.cell 3 rfl
        have c1_ := hp.cell 4 rfl
        have HP := Lib.hid hp
        clear hp
        go_simp
        refine hK.out _ _ ?_ (Ext.refl _) (fun h => absurd h (by simp))
        exact rfl
      · refine RStep.op rfl rfl (fun ac wk hp K hK => ?_)
        have t2_ : ac.tmps[2]?.getD undef = .pointer (some ⟨w.heap.size, 0, none⟩) := hp.slot 2 rfl rfl
        have HP := Lib.hid hp
        clear hp
        go_simp
        refine hK.out _ _ ?_ (Ext.refl _) (fun h => absurd h (by simp))
        exact rfl
      · refine RStep.op rfl rfl (fun ac wk hp K hK => ?_)
        have u7e := hp.get 7 (by decide +kernel) rfl
        have t16_ : ac.tmps[16]?.getD undef = .pointer (some ⟨w.heap.size, 2, none⟩) := slot_is' u7e
        have c0_ := hp.cell 2 rfl
        have HP := Lib.hid hp
        clear hp
        go_simp
        refine hK.out _ _ ?_ (Ext.refl _) (fun h => absurd h (by simp))
        exact rfl
      · refine RStep.op rfl rfl (fun ac wk hp K hK => ?_)
        have u6e := hp.get 6 (by decide +kernel) rfl
        have t15_ : ac.tmps[15]?.getD undef = .agg #[.bool y1_3b, .slice y1_3p y1_3n y1_3c] := slot_is' u6e
        have u8e := hp.get 8 (by decide +kernel) rfl
        have t17_ : ac.tmps[17]?.getD undef = .slice y1_1q y1_1k y1_1d := slot_is' u8e
        have HP := Lib.hid hp
        clear hp
        go_simp
        refine (by_is ((y1_3i.gr HP.out.gr).num.inI (k := l) LB.out.1) (Limbs.inN (k := k) (y1_1i.gr HP.out.gr).den LA.out.2) (by have h1 := HK.out; omega) rfl).mono ?_
        rintro e wk' ⟨sb4, sv4, sm4, rfl, e4, o4, ix⟩
        obtain ⟨sp4, sl4, sc4, rfl⟩ := e4.slice
        refine hK.out _ _ ?_ ix (fun h => absurd h (by simp))
        exact ⟨_, _, _, _, _, rfl, e4, (o4.mono (Nat.le_trans e2_.size HP.out.gr.size))⟩
      · refine RStep.op rfl rfl (fun ac wk hp K hK => ?_)
        obtain ⟨u4b, u4p, u4n, u4c, u4m, u4e, u4i, u4o⟩ := hp.get 4 (by decide +kernel) rfl
        have t13_ : ac.tmps[13]?.getD undef = .agg #[.bool u4b, .slice u4p u4n u4c] := slot_is' u4e
        obtain ⟨u9b, u9p, u9n, u9c, u9m, u9e, u9i, u9o⟩ := hp.get 9 (by decide +kernel) rfl
        have t18_ : ac.tmps[18]?.getD undef = .agg #[.bool u9b, .slice u9p u9n u9c] := slot_is' u9e
        have HP := Lib.hid hp
        clear hp
        go_simp
        refine (cmp_is (u4i.inI (k := (k + l)) (LenI.by LA.out.1 LB.out.2)) (u9i.inI (k := (l + k)) (LenI.by LB.out.1 LA.out.2)) (by have h1 := HK.out; omega) (by have h1 := HK.out; omega) s HS.out).mono ?_
        rintro e wk' ⟨rfl, ix⟩
        refine hK.out _ _ ?_ ix (fun h => absurd h (by simp))
        exact rfl
      · refine RStep.op rfl rfl (fun ac wk hp K hK => ?_)
        have u10e := hp.get 10 (by decide +kernel) rfl
        have t19_ : ac.tmps[19]?.getD undef = .int .i64 s := slot_is' u10e
        have HP := Lib.hid hp
        clear hp
        go_simp
        refine hK.out _ _ ?_ (Ext.refl _) (fun h => absurd h (by simp))
        exact rfl
    case he =>
      intro ac v3 hM
      have y2_0e := hM.post 0 rfl rfl
      have y2_1e := hM.post 1 rfl rfl
      have y2_2e := hM.post 2 rfl rfl
      have y2_3e := hM.post 3 rfl rfl
      obtain ⟨y2_4b, y2_4p, y2_4n, y2_4c, y2_4m, y2_4e, y2_4i, y2_4o⟩ := hM.post 4 rfl rfl
      have y2_5e := hM.post 5 rfl rfl
      have y2_6e := hM.post 6 rfl rfl
      have y2_7e := hM.post 7 rfl rfl
      have y2_8e := hM.post 8 rfl rfl
      obtain ⟨y2_9b, y2_9p, y2_9n, y2_9c, y2_9m, y2_9e, y2_9i, y2_9o⟩ := hM.post 9 rfl rfl
      have y2_10e := hM.post 10 rfl rfl
      have y2_11e := hM.post 11 rfl rfl
      have b0_0 : Hid (At (w.heap.size) 0 (.bool y1_1b) v3) := Lib.hid (hM.keep.at 0 rfl)
      have b0_1 : Hid (At (w.heap.size) 1 (.slice y1_1p y1_1n y1_1c) v3) := Lib.hid (hM.keep.at 1 rfl)
      have b0_2 : Hid (At (w.heap.size) 2 (.slice y1_1q y1_1k y1_1d) v3) := Lib.hid (hM.keep.at 2 rfl)
      have b1_0 : Hid (At (w.heap.size + 1) 0 (.bool y1_3b) v3) := Lib.hid (hM.keep.at 3 rfl)
      have b1_1 : Hid (At (w.heap.size + 1) 1 (.slice y1_3p y1_3n y1_3c) v3) := Lib.hid (hM.keep.at 4 rfl)
      have b1_2 : Hid (At (w.heap.size + 1) 2 (.slice y1_3q y1_3k y1_3d) v3) := Lib.hid (hM.keep.at 5 rfl)
      have gv3 : Gr v2 v3 := hM.gr
      have e3_ : Ext w v3 := Ext.below e2_ hM.blw
      have z0_ : sl ac 9 = .pointer (some ⟨w.heap.size, 0, none⟩) := y2_0e
      have z1_ : sl ac 10 = .agg #[.bool y1_1b, .slice y1_1p y1_1n y1_1c] := y2_1e
      have z2_ : sl ac 11 = .pointer (some ⟨w.heap.size + 1, 2, none⟩) := y2_2e
      have z3_ : sl ac 12 = .slice y1_3q y1_3k y1_3d := y2_3e
      have z4_ : sl ac 13 = .agg #[.bool y2_4b, .slice y2_4p y2_4n y2_4c] := y2_4e
      have z5_ : sl ac 14 = .pointer (some ⟨w.heap.size + 1, 0, none⟩) := y2_5e
      have z6_ : sl ac 15 = .agg #[.bool y1_3b, .slice y1_3p y1_3n y1_3c] := y2_6e
      have z7_ : sl ac 16 = .pointer (some ⟨w.heap.size, 2, none⟩) := y2_7e
      have z8_ : sl ac 17 = .slice y1_1q y1_1k y1_1d := y2_8e
      have z9_ : sl ac 18 = .agg #[.bool y2_9b, .slice y2_9p y2_9n y2_9c] := y2_9e
      have z10_ : sl ac 19 = .int .i64 s := y2_10e
      have z11_ : sl ac 4 = .int .i64 s := y2_11e
      rw [hM.ag.lay]
      simp only [lay, List.foldl_cons, List.foldl_nil, List.setIfInBounds_toArray, List.set_cons_zero, List.set_cons_succ, z0_, z1_, z2_, z3_, z4_, z5_, z6_, z7_, z8_, z9_, z10_, z11_]
      clear hM hkeep2 hob2 hne2 z0_ z1_ z2_ z3_ z4_ z5_ z6_ z7_ z8_ z9_ z10_ z11_ y2_0e y2_1e y2_2e y2_3e y2_4e y2_5e y2_6e y2_7e y2_8e y2_9e y2_10e y2_11e
      go_wp2_with fail
      go_ret
      exact ⟨rfl, e3_⟩

set_option maxHeartbeats 4000000 in
set_option maxRecDepth 100000 in
theorem radd_is {w : World} {ba bb : Bool} {va ua vb ub : Value} {k l : Nat} {a b : Rat} (ha : InR w ba va ua k a) (hb : InR w bb vb ub l b) (hk : k + l ≤ 30000) :
    Calls Tryz.prog 47 #[.agg #[.bool ba, va, ua], .agg #[.bool bb, vb, ub]] w (RetR w (a + b)) := by
  obtain ⟨pa, qa, ra, pa', qa', ra', rfl, rfl⟩ := ha.slice
  obtain ⟨pb, qb, rb, pb', qb', rb', rfl, rfl⟩ := hb.slice
  have HK := Lib.hid hk
  have LA := Lib.hid ha.len
  have LB := Lib.hid hb.len
  clear hk
  go_enter Tryz.func47, Tryz.ntmps47
  go_wp2_with fail
  obtain ⟨v1, hv1⟩ : ∃ W, W = (((w.alloc (.cells #[.bool ba, .slice pa qa ra, .slice pa' qa' ra'] 44)).alloc (.cells #[.bool bb, .slice pb qb rb, .slice pb' qb' rb'] 44)).alloc (.cells #[.bool false, .slice none 0 0, .slice none 0 0] 44)) := ⟨_, rfl⟩
  have y1 : Ext w v1 := by rw [hv1]; exact ((((Ext.refl _).alloc _).alloc _).alloc _)
  have b0_0 : Hid (At (w.heap.size) 0 (.bool ba) v1) := by rw [hv1]; exact At.ext (At.n0 (by rfl)) (((Ext.refl _).alloc _).alloc _)
  have b0_1 : Hid (At (w.heap.size) 1 (.slice pa qa ra) v1) := by rw [hv1]; exact At.ext (At.n0 (by rfl)) (((Ext.refl _).alloc _).alloc _)
  have b0_2 : Hid (At (w.heap.size) 2 (.slice pa' qa' ra') v1) := by rw [hv1]; exact At.ext (At.n0 (by rfl)) (((Ext.refl _).alloc _).alloc _)
  have k0 : Hid (Bx 3 (w.heap.size) v1) := by rw [hv1]; exact Bx.gr (Bx.n0 3 ⟨rfl, by decide⟩ (by decide) noI_s3) (Ext.gr (((Ext.refl _).alloc _).alloc _))
  have u0 : Hid (w.heap.size < v1.heap.size) := b0_0.out.2
  have b1_0 : Hid (At (w.heap.size + 1) 0 (.bool bb) v1) := by rw [hv1]; exact At.ext (At.n1 (by rfl)) ((Ext.refl _).alloc _)
  have b1_1 : Hid (At (w.heap.size + 1) 1 (.slice pb qb rb) v1) := by rw [hv1]; exact At.ext (At.n1 (by rfl)) ((Ext.refl _).alloc _)
  have b1_2 : Hid (At (w.heap.size + 1) 2 (.slice pb' qb' rb') v1) := by rw [hv1]; exact At.ext (At.n1 (by rfl)) ((Ext.refl _).alloc _)
  have k1 : Hid (Bx 3 (w.heap.size + 1) v1) := by rw [hv1]; exact Bx.gr (Bx.n1 3 ⟨rfl, by decide⟩ (by decide) noI_s3) (Ext.gr ((Ext.refl _).alloc _))
  have u1 : Hid (w.heap.size + 1 < v1.heap.size) := b1_0.out.2
  have b2_0 : Hid (At (w.heap.size + 1 + 1) 0 (.bool false) v1) := by rw [hv1]; exact At.ext (At.n2 (by rfl)) (Ext.refl _)
  have b2_1 : Hid (At (w.heap.size + 1 + 1) 1 (.slice none 0 0) v1) := by rw [hv1]; exact At.ext (At.n2 (by rfl)) (Ext.refl _)
  have b2_2 : Hid (At (w.heap.size + 1 + 1) 2 (.slice none 0 0) v1) := by rw [hv1]; exact At.ext (At.n2 (by rfl)) (Ext.refl _)
  have k2 : Hid (Bx 3 (w.heap.size + 1 + 1) v1) := by rw [hv1]; exact Bx.gr (Bx.n2 3 ⟨rfl, by decide⟩ (by decide) noI_s3) (Ext.gr (Ext.refl _))
  have u2 : Hid (w.heap.size + 1 + 1 < v1.heap.size) := b2_0.out.2
  have e1_ : Ext w v1 := y1
  rw [← hv1]
  clear hv1
  have hkeep1 : AllAt' ([(w.heap.size + 1 + 1, 0, .bool false), (w.heap.size + 1 + 1, 1, .slice none 0 0), (w.heap.size + 1 + 1, 2, .slice none 0 0)] : List (Nat × Nat × Value)) v1 := AllAt'.cons b2_0.out (AllAt'.cons b2_1.out (AllAt'.cons b2_2.out (AllAt'.nil _)))
  have hob1 : ObOk w.heap.size v1 (([(w.heap.size + 1 + 1, 0, .bool false), (w.heap.size + 1 + 1, 1, .slice none 0 0), (w.heap.size + 1 + 1, 2, .slice none 0 0)] : List (Nat × Nat × Value)).map (·.1)) ([(w.heap.size, [(0, .bool ba), (1, .slice pa qa ra), (2, .slice pa' qa' ra')]), (w.heap.size + 1, [(0, .bool bb), (1, .slice pb qb rb), (2, .slice pb' qb' rb')])] : List (Nat × List (Nat × Value))) := ⟨⟨(by omega), b0_0.out.2, ⟨b0_0.out, ⟨b0_1.out, ⟨b0_2.out, trivial⟩⟩⟩, ⟨(by (try dsimp only); omega), ⟨(by (try dsimp only); omega), ⟨(by (try dsimp only); omega), trivial⟩⟩⟩⟩, ⟨⟨(by omega), b1_0.out.2, ⟨b1_0.out, ⟨b1_1.out, ⟨b1_2.out, trivial⟩⟩⟩, ⟨(by (try dsimp only); omega), ⟨(by (try dsimp only); omega), ⟨(by (try dsimp only); omega), trivial⟩⟩⟩⟩, trivial⟩⟩
  have hne1 : AllNe (([(w.heap.size, [(0, .bool ba), (1, .slice pa qa ra), (2, .slice pa' qa' ra')]), (w.heap.size + 1, [(0, .bool bb), (1, .slice pb qb rb), (2, .slice pb' qb' rb')])] : List (Nat × List (Nat × Value))).map (·.1)) := ⟨⟨(by (try dsimp only); omega), trivial⟩, ⟨trivial, trivial⟩⟩
  (try simp only [List.append_eq, List.cons_append, List.nil_append])
  refine wp_region_gen ⟨[7, 8, 9, 10], fun i => false, fun i => ([none, none, none, none, some (.old 0, 1), some (.old 1, 3)] : List (Option (BoxRef × Nat))).getD i none, fun i => ([Sg.val (.agg #[.bool ba, .slice pa qa ra, .slice pa' qa' ra']), Sg.ratO w.heap.size a, Sg.val (.agg #[.bool bb, .slice pb qb rb, .slice pb' qb' rb']), Sg.ratO w.heap.size b, Sg.any, Sg.any] : List Sg).getD i Sg.any, [(w.heap.size + 1 + 1, 0, .bool false), (w.heap.size + 1 + 1, 1, .slice none 0 0), (w.heap.size + 1 + 1, 2, .slice none 0 0)], [(w.heap.size, [(0, .bool ba), (1, .slice pa qa ra), (2, .slice pa' qa' ra')]), (w.heap.size + 1, [(0, .bool bb), (1, .slice pb qb rb), (2, .slice pb' qb' rb')])]⟩ w.heap.size (by kernel_rfl) (by kernel_rfl) e1_.size ?hfr hkeep1 hob1 hne1 ?hs ?he
  case hfr =>
    intro i v wk hi hst hv
    exact absurd hi (by simp)
  case hs =>
    refine ⟨?_, ?_, ?_, ?_, ?_, ?_, trivial⟩
    · refine RStep.op rfl rfl (fun ac wk hp K hK => ?_)
      have t2_ : ac.tmps[2]?.getD undef = .pointer (some ⟨w.heap.size, 0, none⟩) := hp.slot 2 rfl rfl
      have c0_ := hp.ocell 4 0 (by decide) rfl (by decide +kernel) rfl
      have c1_ := hp.ocell 4 1 (by decide) rfl (by decide +kernel) rfl
      have c2_ := hp.ocell 4 2 (by decide) rfl (by decide +kernel) rfl
      have HP := Lib.hid hp
      clear hp
      go_simp
      refine hK.out _ _ ?_ (Ext.refl _) (fun h => absurd h (by simp))
      exact rfl
    · refine RStep.op rfl rfl (fun ac wk hp K hK => ?_)
      have u0e := hp.get 0 (by decide +kernel) rfl
      have t7_ : ac.tmps[7]?.getD undef = .agg #[.bool ba, .slice pa qa ra, .slice pa' qa' ra'] := slot_is' u0e
      have HP := Lib.hid hp
      clear hp
      go_simp
      refine (rcount_is (ha.gr (y1.gr.trans HP.out.gr)) (by have h1 := HK.out; omega)).mono ?_
      rintro e wk' ⟨sb1, sv1, su1, sm1, sd1, rfl, e1, o1, ix⟩
      obtain ⟨sp1, sl1, sc1, tp1, tl1, tc1, rfl, rfl⟩ := e1.slice
      refine hK.out _ _ ?_ ix (fun h => absurd h (by simp))
      exact ⟨_, _, _, _, _, _, _, _, _, rfl, e1, (o1.mono (Nat.le_trans e1_.size HP.out.gr.size))⟩
    · refine RStep.op rfl rfl (fun ac wk hp K hK => ?_)
      have t3_ : ac.tmps[3]?.getD undef = .pointer (some ⟨w.heap.size + 1, 0, none⟩) := hp.slot 3 rfl rfl
      have c0_ := hp.ocell 5 0 (by decide) rfl (by decide +kernel) rfl
      have c1_ := hp.ocell 5 1 (by decide) rfl (by decide +kernel) rfl
      have c2_ := hp.ocell 5 2 (by decide) rfl (by decide +kernel) rfl
      have HP := Lib.hid hp
      clear hp
      go_simp
      refine hK.out _ _ ?_ (Ext.refl _) (fun h => absurd h (by simp))
      exact rfl
    · refine RStep.op rfl rfl (fun ac wk hp K hK => ?_)
      have u2e := hp.get 2 (by decide +kernel) rfl
      have t9_ : ac.tmps[9]?.getD undef = .agg #[.bool bb, .slice pb qb rb, .slice pb' qb' rb'] := slot_is' u2e
      have HP := Lib.hid hp
      clear hp
      go_simp
      refine (rcount_is (hb.gr (y1.gr.trans HP.out.gr)) (by have h1 := HK.out; omega)).mono ?_
      rintro e wk' ⟨sb2, sv2, su2, sm2, sd2, rfl, e2, o2, ix⟩
      obtain ⟨sp2, sl2, sc2, tp2, tl2, tc2, rfl, rfl⟩ := e2.slice
      refine hK.out _ _ ?_ ix (fun h => absurd h (by simp))
      exact ⟨_, _, _, _, _, _, _, _, _, rfl, e2, (o2.mono (Nat.le_trans e1_.size HP.out.gr.size))⟩
    · refine RStep.so 0 1 (w.heap.size) rfl rfl rfl (fun ac wk hp => ?_)
      have t2_ : ac.tmps[2]?.getD undef = .pointer (some ⟨w.heap.size, 0, none⟩) := hp.slot 2 rfl rfl
      obtain ⟨u1b, u1p, u1n, u1c, u1q, u1k, u1d, u1m, u1l, u1e, u1i, u1o⟩ := hp.get 1 (by decide +kernel) rfl
      have t8_ : ac.tmps[8]?.getD undef = .agg #[.bool u1b, .slice u1p u1n u1c, .slice u1q u1k u1d] := slot_is' u1e
      obtain ⟨d0, hd0, -⟩ := Bx.cell (k0.out.gr hp.gr) (o := 0) (by decide)
      have fz0 := Bx.free (k0.out.gr hp.gr) 0
      obtain ⟨d1, hd1, -⟩ := Bx.cell (k0.out.gr hp.gr) (o := 1) (by decide)
      have fz1 := Bx.free (k0.out.gr hp.gr) 1
      obtain ⟨d2, hd2, -⟩ := Bx.cell (k0.out.gr hp.gr) (o := 2) (by decide)
      have fz2 := Bx.free (k0.out.gr hp.gr) 2
      refine ⟨3, [.bool u1b, .slice u1p u1n u1c, .slice u1q u1k u1d], (k0.out.gr hp.gr), by rw [u1e]; rfl, rfl, noI_s3, fun K hK => ?_⟩
      have HK := Lib.hid hK
      clear hK hp
      go_simp
      exact HK.out
    · refine RStep.so 1 3 (w.heap.size + 1) rfl rfl rfl (fun ac wk hp => ?_)
      have t3_ : ac.tmps[3]?.getD undef = .pointer (some ⟨w.heap.size + 1, 0, none⟩) := hp.slot 3 rfl rfl
      obtain ⟨u3b, u3p, u3n, u3c, u3q, u3k, u3d, u3m, u3l, u3e, u3i, u3o⟩ := hp.get 3 (by decide +kernel) rfl
      have t10_ : ac.tmps[10]?.getD undef = .agg #[.bool u3b, .slice u3p u3n u3c, .slice u3q u3k u3d] := slot_is' u3e
      obtain ⟨d0, hd0, -⟩ := Bx.cell (k1.out.gr hp.gr) (o := 0) (by decide)
      have fz0 := Bx.free (k1.out.gr hp.gr) 0
      obtain ⟨d1, hd1, -⟩ := Bx.cell (k1.out.gr hp.gr) (o := 1) (by decide)
      have fz1 := Bx.free (k1.out.gr hp.gr) 1
      obtain ⟨d2, hd2, -⟩ := Bx.cell (k1.out.gr hp.gr) (o := 2) (by decide)
      have fz2 := Bx.free (k1.out.gr hp.gr) 2
      refine ⟨3, [.bool u3b, .slice u3p u3n u3c, .slice u3q u3k u3d], (k1.out.gr hp.gr), by rw [u3e]; rfl, rfl, noI_s3, fun K hK => ?_⟩
      have HK := Lib.hid hK
      clear hK hp
      go_simp
      exact HK.out
  case he =>
    intro ac v2 hM
    have y1_0e := hM.post 0 rfl rfl
    obtain ⟨y1_1b, y1_1p, y1_1n, y1_1c, y1_1q, y1_1k, y1_1d, y1_1m, y1_1l, y1_1e, y1_1i, y1_1o⟩ := hM.post 1 rfl rfl
    have y1_2e := hM.post 2 rfl rfl
    obtain ⟨y1_3b, y1_3p, y1_3n, y1_3c, y1_3q, y1_3k, y1_3d, y1_3m, y1_3l, y1_3e, y1_3i, y1_3o⟩ := hM.post 3 rfl rfl
    have b0_0 : Hid (At (w.heap.size) 0 (.bool y1_1b) v2) := Lib.hid (hM.boxOld 4 0 1 rfl rfl rfl (cs := [.bool y1_1b, .slice y1_1p y1_1n y1_1c, .slice y1_1q y1_1k y1_1d]) (by rw [y1_1e]; rfl) 0 _ rfl)
    have b0_1 : Hid (At (w.heap.size) 1 (.slice y1_1p y1_1n y1_1c) v2) := Lib.hid (hM.boxOld 4 0 1 rfl rfl rfl (cs := [.bool y1_1b, .slice y1_1p y1_1n y1_1c, .slice y1_1q y1_1k y1_1d]) (by rw [y1_1e]; rfl) 1 _ rfl)
    have b0_2 : Hid (At (w.heap.size) 2 (.slice y1_1q y1_1k y1_1d) v2) := Lib.hid (hM.boxOld 4 0 1 rfl rfl rfl (cs := [.bool y1_1b, .slice y1_1p y1_1n y1_1c, .slice y1_1q y1_1k y1_1d]) (by rw [y1_1e]; rfl) 2 _ rfl)
    have b1_0 : Hid (At (w.heap.size + 1) 0 (.bool y1_3b) v2) := Lib.hid (hM.boxOld 5 1 3 rfl rfl rfl (cs := [.bool y1_3b, .slice y1_3p y1_3n y1_3c, .slice y1_3q y1_3k y1_3d]) (by rw [y1_3e]; rfl) 0 _ rfl)
    have b1_1 : Hid (At (w.heap.size + 1) 1 (.slice y1_3p y1_3n y1_3c) v2) := Lib.hid (hM.boxOld 5 1 3 rfl rfl rfl (cs := [.bool y1_3b, .slice y1_3p y1_3n y1_3c, .slice y1_3q y1_3k y1_3d]) (by rw [y1_3e]; rfl) 1 _ rfl)
    have b1_2 : Hid (At (w.heap.size + 1) 2 (.slice y1_3q y1_3k y1_3d) v2) := Lib.hid (hM.boxOld 5 1 3 rfl rfl rfl (cs := [.bool y1_3b, .slice y1_3p y1_3n y1_3c, .slice y1_3q y1_3k y1_3d]) (by rw [y1_3e]; rfl) 2 _ rfl)
    have b2_0 : Hid (At (w.heap.size + 1 + 1) 0 (.bool false) v2) := Lib.hid (hM.keep.at 0 rfl)
    have b2_1 : Hid (At (w.heap.size + 1 + 1) 1 (.slice none 0 0) v2) := Lib.hid (hM.keep.at 1 rfl)
    have b2_2 : Hid (At (w.heap.size + 1 + 1) 2 (.slice none 0 0) v2) := Lib.hid (hM.keep.at 2 rfl)
    have gv2 : Gr v1 v2 := hM.gr
    have e2_ : Ext w v2 := Ext.below e1_ hM.blw
    have z0_ : sl ac 7 = .agg #[.bool ba, .slice pa qa ra, .slice pa' qa' ra'] := y1_0e
    have z1_ : sl ac 8 = .agg #[.bool y1_1b, .slice y1_1p y1_1n y1_1c, .slice y1_1q y1_1k y1_1d] := y1_1e
    have z2_ : sl ac 9 = .agg #[.bool bb, .slice pb qb rb, .slice pb' qb' rb'] := y1_2e
    have z3_ : sl ac 10 = .agg #[.bool y1_3b, .slice y1_3p y1_3n y1_3c, .slice y1_3q y1_3k y1_3d] := y1_3e
    rw [hM.ag.lay]
    simp only [lay, List.foldl_cons, List.foldl_nil, List.setIfInBounds_toArray, List.set_cons_zero, List.set_cons_succ, z0_, z1_, z2_, z3_]
    clear hM hkeep1 hob1 hne1 z0_ z1_ z2_ z3_ y1_0e y1_1e y1_2e y1_3e
    go_wp2_with fail
    have hkeep2 : AllAt' ([(w.heap.size, 0, .bool y1_1b), (w.heap.size, 1, .slice y1_1p y1_1n y1_1c), (w.heap.size, 2, .slice y1_1q y1_1k y1_1d), (w.heap.size + 1, 0, .bool y1_3b), (w.heap.size + 1, 1, .slice y1_3p y1_3n y1_3c), (w.heap.size + 1, 2, .slice y1_3q y1_3k y1_3d), (w.heap.size + 1 + 1, 0, .bool false), (w.heap.size + 1 + 1, 1, .slice none 0 0), (w.heap.size + 1 + 1, 2, .slice none 0 0)] : List (Nat × Nat × Value)) v2 := AllAt'.cons b0_0.out (AllAt'.cons b0_1.out (AllAt'.cons b0_2.out (AllAt'.cons b1_0.out (AllAt'.cons b1_1.out (AllAt'.cons b1_2.out (AllAt'.cons b2_0.out (AllAt'.cons b2_1.out (AllAt'.cons b2_2.out (AllAt'.nil _)))))))))
    have hob2 : ObOk w.heap.size v2 (([(w.heap.size, 0, .bool y1_1b), (w.heap.size, 1, .slice y1_1p y1_1n y1_1c), (w.heap.size, 2, .slice y1_1q y1_1k y1_1d), (w.heap.size + 1, 0, .bool y1_3b), (w.heap.size + 1, 1, .slice y1_3p y1_3n y1_3c), (w.heap.size + 1, 2, .slice y1_3q y1_3k y1_3d), (w.heap.size + 1 + 1, 0, .bool false), (w.heap.size + 1 + 1, 1, .slice none 0 0), (w.heap.size + 1 + 1, 2, .slice none 0 0)] : List (Nat × Nat × Value)).map (·.1)) ([] : List (Nat × List (Nat × Value))) := trivial
    have hne2 : AllNe (([] : List (Nat × List (Nat × Value))).map (·.1)) := trivial
    (try simp only [List.append_eq, List.cons_append, List.nil_append])
    refine wp_region_gen ⟨[12, 13, 14, 15, 16, 17, 18, 19, 20, 21, 22, 23, 24, 25, 26, 27, 28, 11, 29, 30, 5, 6], fun i => i == 20, fun i => ([none, none, none, none, none, none, none, none, none, none, none, none, none, none, none, none, none, none, none, none, none, some (.op 20, 18), none] : List (Option (BoxRef × Nat))).getD i none, fun i => ([Sg.val (.pointer (some ⟨w.heap.size, 0, none⟩)), Sg.val (.agg #[.bool y1_1b, .slice y1_1p y1_1n y1_1c]), Sg.val (.pointer (some ⟨w.heap.size + 1, 2, none⟩)), Sg.val (.slice y1_3q y1_3k y1_3d), Sg.intO w.heap.size ((a).num * ((b).den : Nat)), Sg.val (.pointer (some ⟨w.heap.size + 1, 0, none⟩)), Sg.val (.agg #[.bool y1_3b, .slice y1_3p y1_3n y1_3c]), Sg.val (.pointer (some ⟨w.heap.size, 2, none⟩)), Sg.val (.slice y1_1q y1_1k y1_1d), Sg.intO w.heap.size ((b).num * ((a).den : Nat)), Sg.intO w.heap.size (((a).num * ((b).den : Nat)) + ((b).num * ((a).den : Nat))), Sg.val (.pointer (some ⟨w.heap.size, 2, none⟩)), Sg.val (.slice y1_1q y1_1k y1_1d), Sg.val (.pointer (some ⟨w.heap.size + 1, 2, none⟩)), Sg.val (.slice y1_3q y1_3k y1_3d), Sg.natO w.heap.size ((a).den * (b).den), Sg.two (Sg.ratO w.heap.size (a + b)) (Sg.val (.int .i64 0)), Sg.two (Sg.ratO w.heap.size (a + b)) (Sg.val (.int .i64 0)), Sg.ratO w.heap.size (a + b), Sg.val (.int .i64 0), Sg.box 3 v2.heap.size, Sg.any, Sg.val (.int .i64 0)] : List Sg).getD i Sg.any, [(w.heap.size, 0, .bool y1_1b), (w.heap.size, 1, .slice y1_1p y1_1n y1_1c), (w.heap.size, 2, .slice y1_1q y1_1k y1_1d), (w.heap.size + 1, 0, .bool y1_3b), (w.heap.size + 1, 1, .slice y1_3p y1_3n y1_3c), (w.heap.size + 1, 2, .slice y1_3q y1_3k y1_3d), (w.heap.size + 1 + 1, 0, .bool false), (w.heap.size + 1 + 1, 1, .slice none 0 0), (w.heap.size + 1 + 1, 2, .slice none 0 0)], []⟩ w.heap.size (by kernel_rfl) (by kernel_rfl) e2_.size ?hfr hkeep2 hob2 hne2 ?hs ?he
    case hfr =>
      intro i v wk hi hst hv
      have : i = 20 := by simpa [or_assoc] using hi
      subst this; obtain ⟨s, rfl, -, hb⟩ := hv; exact hb.lt
    case hs =>
      refine ⟨?_, ?_, ?_, ?_, ?_, ?_, ?_, ?_, ?_, ?_, ?_, ?_, ?_, ?_, ?_, ?_, ?_, ?_, ?_, ?_, ?_, ?_, ?_, trivial⟩
      · refine RStep.op rfl rfl (fun ac wk hp K hK => ?_)
        have t2_ : ac.tmps[2]?.getD undef = .pointer (some ⟨w.heap.size, 0, none⟩) := hp.slot 2 rfl rfl
        have HP := Lib.hid hp
        clear hp
        go_simp
        refine hK.out _ _ ?_ (Ext.refl _) (fun h => absurd h (by simp))
        exact rfl
      · refine RStep.op rfl rfl (fun ac wk hp K hK => ?_)
        have u0e := hp.get 0 (by decide +kernel) rfl
        have t12_ : ac.tmps[12]?.getD undef = .pointer (some ⟨w.heap.size, 0, none⟩) := slot_is' u0e
        have c0_ := hp.cell 0 rfl
        have c1_ := hp.cell 1 rfl
        have HP := Lib.hid hp
        clear hp
        go_simp
        refine hK.out _ _ ?_ (Ext.refl _) (fun h => absurd h (by simp))
        exact rfl
      · refine RStep.op rfl rfl (fun ac wk hp K hK => ?_)
        have t3_ : ac.tmps[3]?.getD undef = .pointer (some ⟨w.heap.size + 1, 0, none⟩) := hp.slot 3 rfl rfl
        have HP := Lib.hid hp
        clear hp
        go_simp
        refine hK.out _ _ ?_ (Ext.refl _) (fun h => absurd h (by simp))
        exact rfl
      · refine RStep.op rfl rfl (fun ac wk hp K hK => ?_)
        have u2e := hp.get 2 (by decide +kernel) rfl
        have t14_ : ac.tmps[14]?.getD undef = .pointer (some ⟨w.heap.size + 1, 2, none⟩) := slot_is' u2e
        have c0_ := hp.cell 5 rfl
        have HP := Lib.hid hp
        clear hp
        go_simp
        refine hK.out _ _ ?_ (Ext.refl _) (fun h => absurd h (by simp))
        exact rfl
      · refine RStep.op rfl rfl (fun ac wk hp K hK => ?_)
        have u1e := hp.get 1 (by decide +kernel) rfl
        have t13_ : ac.tmps[13]?.getD undef = .agg #[.bool y1_1b, .slice y1_1p y1_1n y1_1c] := slot_is' u1e
        have u3e := hp.get 3 (by decide +kernel) rfl
        have t15_ : ac.tmps[15]?.getD undef = .slice y1_3q y1_3k y1_3d := slot_is' u3e
        have HP := Lib.hid hp
        clear hp
        go_simp
        refine (by_is ((y1_1i.gr HP.out.gr).num.inI (k := k) LA.out.1) (Limbs.inN (k := l) (y1_3i.gr HP.out.gr).den LB.out.2) (by have h1 := HK.out; omega) rfl).mono ?_
        rintro e wk' ⟨sb3, sv3, sm3, rfl, e3, o3, ix⟩
        obtain ⟨sp3, sl3, sc3, rfl⟩ := e3.slice
        refine hK.out _ _ ?_ ix (fun h => absurd h (by simp))
        exact ⟨_, _, _, _, _, rfl, e3, (o3.mono (Nat.le_trans e2_.size HP.out.gr.size))⟩
      · refine RStep.op rfl rfl (fun ac wk hp K hK => ?_)
        have t3_ : ac.tmps[3]?.getD undef = .pointer (some ⟨w.heap.size + 1, 0, none⟩) := hp.slot 3 rfl rfl
        have HP := Lib.hid hp
        clear hp
        go_simp
        refine hK.out _ _ ?_ (Ext.refl _) (fun h => absurd h (by simp))
        exact rfl
      · refine RStep.op rfl rfl (fun ac wk hp K hK => ?_)
        have u5e := hp.get 5 (by decide +kernel) rfl
        have t17_ : ac.tmps[17]?.getD undef = .pointer (some ⟨w.heap.size + 1, 0, none⟩) := slot_is' u5e
        have c0_ := hp.cell 3 rfl
        have c1_ := hp.cell 4 rfl
        have HP := Lib.hid hp
        clear hp
        go_simp
        refine hK.out _ _ ?_ (Ext.refl _) (fun h => absurd h (by simp))
        exact rfl
      · refine RStep.op rfl rfl (fun ac wk hp K hK => ?_)
        have t2_ : ac.tmps[2]?.getD undef = .pointer (some ⟨w.heap.size, 0, none⟩) := hp.slot 2 rfl rfl
        have HP := Lib.hid hp
        clear hp
        go_simp
        refine hK.out _ _ ?_ (Ext.refl _) (fun h => absurd h (by simp))
        exact rfl
      · refine RStep.op rfl rfl (fun ac wk hp K hK => ?_)
        have u7e := hp.get 7 (by decide +kernel) rfl
        have t19_ : ac.tmps[19]?.getD undef = .pointer (some ⟨w.heap.size, 2, none⟩) := slot_is' u7e
        have c0_ := hp.cell 2 rfl
        have HP := Lib.hid hp
        clear hp
        go_simp
        refine hK.out _ _ ?_ (Ext.refl _) (fun h => absurd h (by simp))
        exact rfl
      · refine RStep.op rfl rfl (fun ac wk hp K hK => ?_)
        have u6e := hp.get 6 (by decide +kernel) rfl
        have t18_ : ac.tmps[18]?.getD undef = .agg #[.bool y1_3b, .slice y1_3p y1_3n y1_3c] := slot_is' u6e
        have u8e := hp.get 8 (by decide +kernel) rfl
        have t20_ : ac.tmps[20]?.getD undef = .slice y1_1q y1_1k y1_1d := slot_is' u8e
        have HP := Lib.hid hp
        clear hp
        go_simp
        refine (by_is ((y1_3i.gr HP.out.gr).num.inI (k := l) LB.out.1) (Limbs.inN (k := k) (y1_1i.gr HP.out.gr).den LA.out.2) (by have h1 := HK.out; omega) rfl).mono ?_
        rintro e wk' ⟨sb4, sv4, sm4, rfl, e4, o4, ix⟩
        obtain ⟨sp4, sl4, sc4, rfl⟩ := e4.slice
        refine hK.out _ _ ?_ ix (fun h => absurd h (by simp))
        exact ⟨_, _, _, _, _, rfl, e4, (o4.mono (Nat.le_trans e2_.size HP.out.gr.size))⟩
      · refine RStep.op rfl rfl (fun ac wk hp K hK => ?_)
        obtain ⟨u4b, u4p, u4n, u4c, u4m, u4e, u4i, u4o⟩ := hp.get 4 (by decide +kernel) rfl
        have t16_ : ac.tmps[16]?.getD undef = .agg #[.bool u4b, .slice u4p u4n u4c] := slot_is' u4e
        obtain ⟨u9b, u9p, u9n, u9c, u9m, u9e, u9i, u9o⟩ := hp.get 9 (by decide +kernel) rfl
        have t21_ : ac.tmps[21]?.getD undef = .agg #[.bool u9b, .slice u9p u9n u9c] := slot_is' u9e
        have HP := Lib.hid hp
        clear hp
        go_simp
        refine (wadd_z (u4i.inI (k := (k + l)) (LenI.by LA.out.1 LB.out.2)) (u9i.inI (k := (l + k)) (LenI.by LB.out.1 LA.out.2)) (by have h1 := HK.out; omega) (by have h1 := HK.out; omega)).mono ?_
        rintro e wk' ⟨sb5, sv5, sm5, rfl, e5, o5, ix⟩
        obtain ⟨sp5, sl5, sc5, rfl⟩ := e5.slice
        refine hK.out _ _ ?_ ix (fun h => absurd h (by simp))
        exact ⟨_, _, _, _, _, rfl, e5, (o5.mono (Nat.le_trans e2_.size HP.out.gr.size))⟩
      · refine RStep.op rfl rfl (fun ac wk hp K hK => ?_)
        have t2_ : ac.tmps[2]?.getD undef = .pointer (some ⟨w.heap.size, 0, none⟩) := hp.slot 2 rfl rfl
        have HP := Lib.hid hp
        clear hp
        go_simp
        refine hK.out _ _ ?_ (Ext.refl _) (fun h => absurd h (by simp))
        exact rfl
      · refine RStep.op rfl rfl (fun ac wk hp K hK => ?_)
        have u11e := hp.get 11 (by decide +kernel) rfl
        have t23_ : ac.tmps[23]?.getD undef = .pointer (some ⟨w.heap.size, 2, none⟩) := slot_is' u11e
        have c0_ := hp.cell 2 rfl
        have HP := Lib.hid hp
        clear hp
        go_simp
        refine hK.out _ _ ?_ (Ext.refl _) (fun h => absurd h (by simp))
        exact rfl
      · refine RStep.op rfl rfl (fun ac wk hp K hK => ?_)
        have t3_ : ac.tmps[3]?.getD undef = .pointer (some ⟨w.heap.size + 1, 0, none⟩) := hp.slot 3 rfl rfl
        have HP := Lib.hid hp
        clear hp
        go_simp
        refine hK.out _ _ ?_ (Ext.refl _) (fun h => absurd h (by simp))
        exact rfl
      · refine RStep.op rfl rfl (fun ac wk hp K hK => ?_)
        have u13e := hp.get 13 (by decide +kernel) rfl
        have t25_ : ac.tmps[25]?.getD undef = .pointer (some ⟨w.heap.size + 1, 2, none⟩) := slot_is' u13e
        have c0_ := hp.cell 5 rfl
        have HP := Lib.hid hp
        clear hp
        go_simp
        refine hK.out _ _ ?_ (Ext.refl _) (fun h => absurd h (by simp))
        exact rfl
      · refine RStep.op rfl rfl (fun ac wk hp K hK => ?_)
        have u12e := hp.get 12 (by decide +kernel) rfl
        have t24_ : ac.tmps[24]?.getD undef = .slice y1_1q y1_1k y1_1d := slot_is' u12e
        have u14e := hp.get 14 (by decide +kernel) rfl
        have t26_ : ac.tmps[26]?.getD undef = .slice y1_3q y1_3k y1_3d := slot_is' u14e
        have HP := Lib.hid hp
        clear hp
        go_simp
        refine (nmul_n (Limbs.inN (k := k) (y1_1i.gr HP.out.gr).den LA.out.2) (Limbs.inN (k := l) (y1_3i.gr HP.out.gr).den LB.out.2) (by have h1 := HK.out; omega)).mono ?_
        rintro e wk' ⟨sv6, rfl, o6, ix⟩
        obtain ⟨sp6, sl6, sc6, rfl⟩ := o6.slice'
        refine hK.out _ _ ?_ ix (fun h => absurd h (by simp))
        exact ⟨_, _, _, rfl, (o6.mono (Nat.le_trans e2_.size HP.out.gr.size))⟩
      · refine RStep.op rfl rfl (fun ac wk hp K hK => ?_)
        obtain ⟨u10b, u10p, u10n, u10c, u10m, u10e, u10i, u10o⟩ := hp.get 10 (by decide +kernel) rfl
        have t22_ : ac.tmps[22]?.getD undef = .agg #[.bool u10b, .slice u10p u10n u10c] := slot_is' u10e
        obtain ⟨u15p, u15n, u15c, u15e, u15o⟩ := hp.get 15 (by decide +kernel) rfl
        have t27_ : ac.tmps[27]?.getD undef = .slice u15p u15n u15c := slot_is' u15e
        have HP := Lib.hid hp
        clear hp
        go_simp
        refine (rmake_is (u10i.inI (k := (max (k + l) (l + k) + 1)) (LenI.add (LenI.mono (LenI.by LA.out.1 LB.out.2) (Nat.le_max_left _ _)) (LenI.mono (LenI.by LB.out.1 LA.out.2) (Nat.le_max_right _ _)))) (Limbs.inN (k := (k + l)) u15o.limbs (lt_mul LA.out.2 LB.out.2)) (Nat.mul_ne_zero a.den_nz b.den_nz) (by have h1 := HK.out; omega) (by have h1 := HK.out; omega) (Rat.add_def' a b).symm).mono ?_
        rintro e wk' ⟨sb7, sv7, su7, sm7, sd7, rfl, e7, o7, ix⟩
        obtain ⟨sp7, sl7, sc7, tp7, tl7, tc7, rfl, rfl⟩ := e7.slice
        refine hK.out _ _ ?_ ix (fun h => absurd h (by simp))
        exact ⟨_, _, rfl, ⟨_, _, _, _, _, _, _, _, _, rfl, e7, (o7.mono (Nat.le_trans e2_.size HP.out.gr.size))⟩, rfl⟩
      · refine RStep.op rfl rfl (fun ac wk hp K hK => ?_)
        obtain ⟨_, _, u16e, ⟨u16xb, u16xp, u16xn, u16xc, u16xq, u16xk, u16xd, u16xm, u16xl, rfl, u16xi, u16xo⟩, rfl⟩ := hp.get 16 (by decide +kernel) rfl
        have t28_ : ac.tmps[28]?.getD undef = .tuple #[.agg #[.bool u16xb, .slice u16xp u16xn u16xc, .slice u16xq u16xk u16xd], .int .i64 0] := slot_is' u16e
        have HP := Lib.hid hp
        clear hp
        go_simp
        refine hK.out _ _ ?_ (Ext.refl _) (fun h => absurd h (by simp))
        exact ⟨_, _, rfl, ⟨_, _, _, _, _, _, _, _, _, rfl, u16xi, u16xo⟩, rfl⟩
      · refine RStep.op rfl rfl (fun ac wk hp K hK => ?_)
        obtain ⟨_, _, u17e, ⟨u17xb, u17xp, u17xn, u17xc, u17xq, u17xk, u17xd, u17xm, u17xl, rfl, u17xi, u17xo⟩, rfl⟩ := hp.get 17 (by decide +kernel) rfl
        have t11_ : ac.tmps[11]?.getD undef = .tuple #[.agg #[.bool u17xb, .slice u17xp u17xn u17xc, .slice u17xq u17xk u17xd], .int .i64 0] := slot_is' u17e
        have HP := Lib.hid hp
        clear hp
        go_simp
        refine hK.out _ _ ?_ (Ext.refl _) (fun h => absurd h (by simp))
        exact ⟨_, _, _, _, _, _, _, _, _, rfl, u17xi, u17xo⟩
      · refine RStep.op rfl rfl (fun ac wk hp K hK => ?_)
        obtain ⟨_, _, u17e, ⟨u17xb, u17xp, u17xn, u17xc, u17xq, u17xk, u17xd, u17xm, u17xl, rfl, u17xi, u17xo⟩, rfl⟩ := hp.get 17 (by decide +kernel) rfl
        have t11_ : ac.tmps[11]?.getD undef = .tuple #[.agg #[.bool u17xb, .slice u17xp u17xn u17xc, .slice u17xq u17xk u17xd], .int .i64 0] := slot_is' u17e
        have HP := Lib.hid hp
        clear hp
        go_simp
        refine hK.out _ _ ?_ (Ext.refl _) (fun h => absurd h (by simp))
        exact rfl
      · refine RStep.op rfl rfl (fun ac wk hp K hK => ?_)
        have hsz := hp.gr.size
        clear hp
        go_simp
        exact hK.out _ _ ⟨_, rfl, hsz, Bx.new 3 ⟨rfl, by decide⟩ (by decide) noI_s3⟩ ((Ext.refl _).alloc _) (fun _ => rfl)
      · refine RStep.st 20 18 rfl rfl (fun ac wk hp => ?_)
        obtain ⟨u20s, u20e, u20l, u20b⟩ := hp.get 20 (by decide +kernel) rfl
        have t5_ : ac.tmps[5]?.getD undef = .pointer (some ⟨u20s, 0, none⟩) := slot_is' u20e
        obtain ⟨u18b, u18p, u18n, u18c, u18q, u18k, u18d, u18m, u18l, u18e, u18i, u18o⟩ := hp.get 18 (by decide +kernel) rfl
        have t29_ : ac.tmps[29]?.getD undef = .agg #[.bool u18b, .slice u18p u18n u18c, .slice u18q u18k u18d] := slot_is' u18e
        obtain ⟨d0, hd0, -⟩ := Bx.cell u20b (o := 0) (by decide)
        have fz0 := Bx.free u20b 0
        obtain ⟨d1, hd1, -⟩ := Bx.cell u20b (o := 1) (by decide)
        have fz1 := Bx.free u20b 1
        obtain ⟨d2, hd2, -⟩ := Bx.cell u20b (o := 2) (by decide)
        have fz2 := Bx.free u20b 2
        refine ⟨u20s, 3, [.bool u18b, .slice u18p u18n u18c, .slice u18q u18k u18d], u20e, u20b, by rw [u18e]; rfl, rfl, noI_s3, fun K hK => ?_⟩
        have HK := Lib.hid hK
        clear hK hp
        go_simp
        exact HK.out
      · refine RStep.op rfl rfl (fun ac wk hp K hK => ?_)
        have u19e := hp.get 19 (by decide +kernel) rfl
        have t30_ : ac.tmps[30]?.getD undef = .int .i64 0 := slot_is' u19e
        have HP := Lib.hid hp
        clear hp
        go_simp
        refine hK.out _ _ ?_ (Ext.refl _) (fun h => absurd h (by simp))
        exact rfl
    case he =>
      intro ac v3 hM
      have y2_0e := hM.post 0 rfl rfl
      have y2_1e := hM.post 1 rfl rfl
      have y2_2e := hM.post 2 rfl rfl
      have y2_3e := hM.post 3 rfl rfl
      obtain ⟨y2_4b, y2_4p, y2_4n, y2_4c, y2_4m, y2_4e, y2_4i, y2_4o⟩ := hM.post 4 rfl rfl
      have y2_5e := hM.post 5 rfl rfl
      have y2_6e := hM.post 6 rfl rfl
      have y2_7e := hM.post 7 rfl rfl
      have y2_8e := hM.post 8 rfl rfl
      obtain ⟨y2_9b, y2_9p, y2_9n, y2_9c, y2_9m, y2_9e, y2_9i, y2_9o⟩ := hM.post 9 rfl rfl
      obtain ⟨y2_10b, y2_10p, y2_10n, y2_10c, y2_10m, y2_10e, y2_10i, y2_10o⟩ := hM.post 10 rfl rfl
      have y2_11e := hM.post 11 rfl rfl
      have y2_12e := hM.post 12 rfl rfl
      have y2_13e := hM.post 13 rfl rfl
      have y2_14e := hM.post 14 rfl rfl
      obtain ⟨y2_15p, y2_15n, y2_15c, y2_15e, y2_15o⟩ := hM.post 15 rfl rfl
      obtain ⟨_, _, y2_16e, ⟨y2_16xb, y2_16xp, y2_16xn, y2_16xc, y2_16xq, y2_16xk, y2_16xd, y2_16xm, y2_16xl, rfl, y2_16xi, y2_16xo⟩, rfl⟩ := hM.post 16 rfl rfl
      obtain ⟨_, _, y2_17e, ⟨y2_17xb, y2_17xp, y2_17xn, y2_17xc, y2_17xq, y2_17xk, y2_17xd, y2_17xm, y2_17xl, rfl, y2_17xi, y2_17xo⟩, rfl⟩ := hM.post 17 rfl rfl
      obtain ⟨y2_18b, y2_18p, y2_18n, y2_18c, y2_18q, y2_18k, y2_18d, y2_18m, y2_18l, y2_18e, y2_18i, y2_18o⟩ := hM.post 18 rfl rfl
      have y2_19e := hM.post 19 rfl rfl
      obtain ⟨y2_20s, y2_20e, y2_20l, y2_20b⟩ := hM.post 20 rfl rfl
      have l3 := Lib.hid y2_20l
      have k3 := Lib.hid y2_20b
      have u3 := Lib.hid (Bx.lt y2_20b)
      have y2_22e := hM.post 22 rfl rfl
      have b3_0 : Hid (At (y2_20s) 0 (.bool y2_18b) v3) := Lib.hid (hM.boxOp 21 20 18 rfl rfl y2_20e (cs := [.bool y2_18b, .slice y2_18p y2_18n y2_18c, .slice y2_18q y2_18k y2_18d]) (by rw [y2_18e]; rfl) 0 _ rfl)
      have b3_1 : Hid (At (y2_20s) 1 (.slice y2_18p y2_18n y2_18c) v3) := Lib.hid (hM.boxOp 21 20 18 rfl rfl y2_20e (cs := [.bool y2_18b, .slice y2_18p y2_18n y2_18c, .slice y2_18q y2_18k y2_18d]) (by rw [y2_18e]; rfl) 1 _ rfl)
      have b3_2 : Hid (At (y2_20s) 2 (.slice y2_18q y2_18k y2_18d) v3) := Lib.hid (hM.boxOp 21 20 18 rfl rfl y2_20e (cs := [.bool y2_18b, .slice y2_18p y2_18n y2_18c, .slice y2_18q y2_18k y2_18d]) (by rw [y2_18e]; rfl) 2 _ rfl)
      have b0_0 : Hid (At (w.heap.size) 0 (.bool y1_1b) v3) := Lib.hid (hM.keep.at 0 rfl)
      have b0_1 : Hid (At (w.heap.size) 1 (.slice y1_1p y1_1n y1_1c) v3) := Lib.hid (hM.keep.at 1 rfl)
      have b0_2 : Hid (At (w.heap.size) 2 (.slice y1_1q y1_1k y1_1d) v3) := Lib.hid (hM.keep.at 2 rfl)
      have b1_0 : Hid (At (w.heap.size + 1) 0 (.bool y1_3b) v3) := Lib.hid (hM.keep.at 3 rfl)
      have b1_1 : Hid (At (w.heap.size + 1) 1 (.slice y1_3p y1_3n y1_3c) v3) := Lib.hid (hM.keep.at 4 rfl)
      have b1_2 : Hid (At (w.heap.size + 1) 2 (.slice y1_3q y1_3k y1_3d) v3) := Lib.hid (hM.keep.at 5 rfl)
      have b2_0 : Hid (At (w.heap.size + 1 + 1) 0 (.bool false) v3) := Lib.hid (hM.keep.at 6 rfl)
      have b2_1 : Hid (At (w.heap.size + 1 + 1) 1 (.slice none 0 0) v3) := Lib.hid (hM.keep.at 7 rfl)
      have b2_2 : Hid (At (w.heap.size + 1 + 1) 2 (.slice none 0 0) v3) := Lib.hid (hM.keep.at 8 rfl)
      have gv3 : Gr v2 v3 := hM.gr
      have e3_ : Ext w v3 := Ext.below e2_ hM.blw
      have z0_ : sl ac 12 = .pointer (some ⟨w.heap.size, 0, none⟩) := y2_0e
      have z1_ : sl ac 13 = .agg #[.bool y1_1b, .slice y1_1p y1_1n y1_1c] := y2_1e
      have z2_ : sl ac 14 = .pointer (some ⟨w.heap.size + 1, 2, none⟩) := y2_2e
      have z3_ : sl ac 15 = .slice y1_3q y1_3k y1_3d := y2_3e
      have z4_ : sl ac 16 = .agg #[.bool y2_4b, .slice y2_4p y2_4n y2_4c] := y2_4e
      have z5_ : sl ac 17 = .pointer (some ⟨w.heap.size + 1, 0, none⟩) := y2_5e
      have z6_ : sl ac 18 = .agg #[.bool y1_3b, .slice y1_3p y1_3n y1_3c] := y2_6e
      have z7_ : sl ac 19 = .pointer (some ⟨w.heap.size, 2, none⟩) := y2_7e
      have z8_ : sl ac 20 = .slice y1_1q y1_1k y1_1d := y2_8e
      have z9_ : sl ac 21 = .agg #[.bool y2_9b, .slice y2_9p y2_9n y2_9c] := y2_9e
      have z10_ : sl ac 22 = .agg #[.bool y2_10b, .slice y2_10p y2_10n y2_10c] := y2_10e
      have z11_ : sl ac 23 = .pointer (some ⟨w.heap.size, 2, none⟩) := y2_11e
      have z12_ : sl ac 24 = .slice y1_1q y1_1k y1_1d := y2_12e
      have z13_ : sl ac 25 = .pointer (some ⟨w.heap.size + 1, 2, none⟩) := y2_13e
      have z14_ : sl ac 26 = .slice y1_3q y1_3k y1_3d := y2_14e
      have z15_ : sl ac 27 = .slice y2_15p y2_15n y2_15c := y2_15e
      have z16_ : sl ac 28 = .tuple #[.agg #[.bool y2_16xb, .slice y2_16xp y2_16xn y2_16xc, .slice y2_16xq y2_16xk y2_16xd], .int .i64 0] := y2_16e
      have z17_ : sl ac 11 = .tuple #[.agg #[.bool y2_17xb, .slice y2_17xp y2_17xn y2_17xc, .slice y2_17xq y2_17xk y2_17xd], .int .i64 0] := y2_17e
      have z18_ : sl ac 29 = .agg #[.bool y2_18b, .slice y2_18p y2_18n y2_18c, .slice y2_18q y2_18k y2_18d] := y2_18e
      have z19_ : sl ac 30 = .int .i64 0 := y2_19e
      have z20_ : sl ac 5 = .pointer (some ⟨y2_20s, 0, none⟩) := y2_20e
      have z22_ : sl ac 6 = .int .i64 0 := y2_22e
      rw [hM.ag.lay]
      simp only [lay, List.foldl_cons, List.foldl_nil, List.setIfInBounds_toArray, List.set_cons_zero, List.set_cons_succ, z0_, z1_, z2_, z3_, z4_, z5_, z6_, z7_, z8_, z9_, z10_, z11_, z12_, z13_, z14_, z15_, z16_, z17_, z18_, z19_, z20_, z22_]
      clear hM hkeep2 hob2 hne2 z0_ z1_ z2_ z3_ z4_ z5_ z6_ z7_ z8_ z9_ z10_ z11_ z12_ z13_ z14_ z15_ z16_ z17_ z18_ z19_ z20_ z22_ y2_0e y2_1e y2_2e y2_3e y2_4e y2_5e y2_6e y2_7e y2_8e y2_9e y2_10e y2_11e y2_12e y2_13e y2_14e y2_15e y2_16e y2_17e y2_18e y2_19e y2_20e y2_22e
      have g3_0 := b3_0.out.1
      have g3_1 := b3_1.out.1
      have g3_2 := b3_2.out.1
      have g2_0 := b2_0.out.1
      have g2_1 := b2_1.out.1
      have g2_2 := b2_2.out.1
      have z2_0 := (k2.out.gr (gv2.trans gv3)).free 0
      have z2_1 := (k2.out.gr (gv2.trans gv3)).free 1
      have z2_2 := (k2.out.gr (gv2.trans gv3)).free 2
      have f3 : y2_20s < v3.heap.size := b3_0.out.2
      have f2 : w.heap.size + 1 + 1 < v3.heap.size := b2_0.out.2
      have n2_3 : w.heap.size + 1 + 1 ≠ y2_20s := (by (try dsimp only); have h1 := u2.out; have h2 := gv2.size; have h3 := l3.out; omega)
      have n3_2 : y2_20s ≠ w.heap.size + 1 + 1 := Ne.symm n2_3
      go_wp2_with fail
      obtain ⟨v4, hv4⟩ : ∃ W, W = (((v3.setCell ⟨w.heap.size + 1 + 1, 0, none⟩ (.bool y2_18b)).setCell ⟨w.heap.size + 1 + 1, 1, none⟩ (.slice y2_18p y2_18n y2_18c)).setCell ⟨w.heap.size + 1 + 1, 2, none⟩ (.slice y2_18q y2_18k y2_18d)) := ⟨_, rfl⟩
      have sv4 : v4 = setRow (w.heap.size + 1 + 1) 0 [.bool y2_18b, .slice y2_18p y2_18n y2_18c, .slice y2_18q y2_18k y2_18d] v3 := hv4
      have uv4 := setRow_bx' (o := 0) (cs := [.bool y2_18b, .slice y2_18p y2_18n y2_18c, .slice y2_18q y2_18k y2_18d]) (k2.out.gr (gv2.trans gv3)) (by simp) noI_s3
      have y4 : Gr v3 v4 := by rw [sv4]; exact setRow_gr' (o := 0) (cs := [.bool y2_18b, .slice y2_18p y2_18n y2_18c, .slice y2_18q y2_18k y2_18d]) (k2.out.gr (gv2.trans gv3)) (by simp) noI_s3
      have t4 : Hid (∀ t o u, t ≠ (w.heap.size + 1 + 1) → At t o u v3 → At t o u v4) := fun t o u h k => by rw [sv4]; exact k.setRow h _ _
      have e4_ : Ext w v4 := by rw [sv4]; exact setRow_below _ _ (by omega) _ _ e3_
      have b2_0 : Hid (At (w.heap.size + 1 + 1) 0 (.bool y2_18b) v4) := by rw [sv4]; exact uv4.2.1 0 _ rfl
      have b2_1 : Hid (At (w.heap.size + 1 + 1) 1 (.slice y2_18p y2_18n y2_18c) v4) := by rw [sv4]; exact uv4.2.1 1 _ rfl
      have b2_2 : Hid (At (w.heap.size + 1 + 1) 2 (.slice y2_18q y2_18k y2_18d) v4) := by rw [sv4]; exact uv4.2.1 2 _ rfl
      have k2 : Hid (Bx 3 (w.heap.size + 1 + 1) v4) := by rw [sv4]; exact uv4.1
      rw [← hv4]
      clear hv4 sv4 uv4
      have c0 := b2_0.out.1
      have c1 := b2_1.out.1
      have c2 := b2_2.out.1
      refine bodyPost_ret (v := .agg #[.bool y2_18b, .slice y2_18p y2_18n y2_18c, .slice y2_18q y2_18k y2_18d]) (by simp [results, Tryz.results47, go_sem, c0, c1, c2]) rfl ?_
      exact ⟨_, _, _, _, _, rfl, (y2_18i.gr y4), ((y2_18o.gr y4)), e4_⟩

set_option maxHeartbeats 4000000 in
set_option maxRecDepth 100000 in
theorem rmul_is {w : World} {ba bb : Bool} {va ua vb ub : Value} {k l : Nat} {a b : Rat} (ha : InR w ba va ua k a) (hb : InR w bb vb ub l b) (hk : k + l ≤ 30000) :
    Calls Tryz.prog 50 #[.agg #[.bool ba, va, ua], .agg #[.bool bb, vb, ub]] w (RetR w (a * b)) := by
  obtain ⟨pa, qa, ra, pa', qa', ra', rfl, rfl⟩ := ha.slice
  obtain ⟨pb, qb, rb, pb', qb', rb', rfl, rfl⟩ := hb.slice
  have HK := Lib.hid hk
  have LA := Lib.hid ha.len
  have LB := Lib.hid hb.len
  clear hk
  go_enter Tryz.func50, Tryz.ntmps50
  go_wp2_with fail
  obtain ⟨v1, hv1⟩ : ∃ W, W = (((w.alloc (.cells #[.bool ba, .slice pa qa ra, .slice pa' qa' ra'] 44)).alloc (.cells #[.bool bb, .slice pb qb rb, .slice pb' qb' rb'] 44)).alloc (.cells #[.bool false, .slice none 0 0, .slice none 0 0] 44)) := ⟨_, rfl⟩
  have y1 : Ext w v1 := by rw [hv1]; exact ((((Ext.refl _).alloc _).alloc _).alloc _)
  have b0_0 : Hid (At (w.heap.size) 0 (.bool ba) v1) := by rw [hv1]; exact At.ext (At.n0 (by rfl)) (((Ext.refl _).alloc _).alloc _)
  have b0_1 : Hid (At (w.heap.size) 1 (.slice pa qa ra) v1) := by rw [hv1]; exact At.ext (At.n0 (by rfl)) (((Ext.refl _).alloc _).alloc _)
  have b0_2 : Hid (At (w.heap.size) 2 (.slice pa' qa' ra') v1) := by rw [hv1]; exact At.ext (At.n0 (by rfl)) (((Ext.refl _).alloc _).alloc _)
  have k0 : Hid (Bx 3 (w.heap.size) v1) := by rw [hv1]; exact Bx.gr (Bx.n0 3 ⟨rfl, by decide⟩ (by decide) noI_s3) (Ext.gr (((Ext.refl _).alloc _).alloc _))
  have u0 : Hid (w.heap.size < v1.heap.size) := b0_0.out.2
  have b1_0 : Hid (At (w.heap.size + 1) 0 (.bool bb) v1) := by rw [hv1]; exact At.ext (At.n1 (by rfl)) ((Ext.refl _).alloc _)
  have b1_1 : Hid (At (w.heap.size + 1) 1 (.slice pb qb rb) v1) := by rw [hv1]; exact At.ext (At.n1 (by rfl)) ((Ext.refl _).alloc _)
  have b1_2 : Hid (At (w.heap.size + 1) 2 (.slice pb' qb' rb') v1) := by rw [hv1]; exact At.ext (At.n1 (by rfl)) ((Ext.refl _).alloc _)
  have k1 : Hid (Bx 3 (w.heap.size + 1) v1) := by rw [hv1]; exact Bx.gr (Bx.n1 3 ⟨rfl, by decide⟩ (by decide) noI_s3) (Ext.gr ((Ext.refl _).alloc _))
  have u1 : Hid (w.heap.size + 1 < v1.heap.size) := b1_0.out.2
  have b2_0 : Hid (At (w.heap.size + 1 + 1) 0 (.bool false) v1) := by rw [hv1]; exact At.ext (At.n2 (by rfl)) (Ext.refl _)
  have b2_1 : Hid (At (w.heap.size + 1 + 1) 1 (.slice none 0 0) v1) := by rw [hv1]; exact At.ext (At.n2 (by rfl)) (Ext.refl _)
  have b2_2 : Hid (At (w.heap.size + 1 + 1) 2 (.slice none 0 0) v1) := by rw [hv1]; exact At.ext (At.n2 (by rfl)) (Ext.refl _)
  have k2 : Hid (Bx 3 (w.heap.size + 1 + 1) v1) := by rw [hv1]; exact Bx.gr (Bx.n2 3 ⟨rfl, by decide⟩ (by decide) noI_s3) (Ext.gr (Ext.refl _))
  have u2 : Hid (w.heap.size + 1 + 1 < v1.heap.size) := b2_0.out.2
  have e1_ : Ext w v1 := y1
  rw [← hv1]
  clear hv1
  have hkeep1 : AllAt' ([(w.heap.size + 1 + 1, 0, .bool false), (w.heap.size + 1 + 1, 1, .slice none 0 0), (w.heap.size + 1 + 1, 2, .slice none 0 0)] : List (Nat × Nat × Value)) v1 := AllAt'.cons b2_0.out (AllAt'.cons b2_1.out (AllAt'.cons b2_2.out (AllAt'.nil _)))
  have hob1 : ObOk w.heap.size v1 (([(w.heap.size + 1 + 1, 0, .bool false), (w.heap.size + 1 + 1, 1, .slice none 0 0), (w.heap.size + 1 + 1, 2, .slice none 0 0)] : List (Nat × Nat × Value)).map (·.1)) ([(w.heap.size, [(0, .bool ba), (1, .slice pa qa ra), (2, .slice pa' qa' ra')]), (w.heap.size + 1, [(0, .bool bb), (1, .slice pb qb rb), (2, .slice pb' qb' rb')])] : List (Nat × List (Nat × Value))) := ⟨⟨(by omega), b0_0.out.2, ⟨b0_0.out, ⟨b0_1.out, ⟨b0_2.out, trivial⟩⟩⟩, ⟨(by (try dsimp only); omega), ⟨(by (try dsimp only); omega), ⟨(by (try dsimp only); omega), trivial⟩⟩⟩⟩, ⟨⟨(by omega), b1_0.out.2, ⟨b1_0.out, ⟨b1_1.out, ⟨b1_2.out, trivial⟩⟩⟩, ⟨(by (try dsimp only); omega), ⟨(by (try dsimp only); omega), ⟨(by (try dsimp only); omega), trivial⟩⟩⟩⟩, trivial⟩⟩
  have hne1 : AllNe (([(w.heap.size, [(0, .bool ba), (1, .slice pa qa ra), (2, .slice pa' qa' ra')]), (w.heap.size + 1, [(0, .bool bb), (1, .slice pb qb rb), (2, .slice pb' qb' rb')])] : List (Nat × List (Nat × Value))).map (·.1)) := ⟨⟨(by (try dsimp only); omega), trivial⟩, ⟨trivial, trivial⟩⟩
  (try simp only [List.append_eq, List.cons_append, List.nil_append])
  refine wp_region_gen ⟨[7, 8, 9, 10], fun i => false, fun i => ([none, none, none, none, some (.old 0, 1), some (.old 1, 3)] : List (Option (BoxRef × Nat))).getD i none, fun i => ([Sg.val (.agg #[.bool ba, .slice pa qa ra, .slice pa' qa' ra']), Sg.ratO w.heap.size a, Sg.val (.agg #[.bool bb, .slice pb qb rb, .slice pb' qb' rb']), Sg.ratO w.heap.size b, Sg.any, Sg.any] : List Sg).getD i Sg.any, [(w.heap.size + 1 + 1, 0, .bool false), (w.heap.size + 1 + 1, 1, .slice none 0 0), (w.heap.size + 1 + 1, 2, .slice none 0 0)], [(w.heap.size, [(0, .bool ba), (1, .slice pa qa ra), (2, .slice pa' qa' ra')]), (w.heap.size + 1, [(0, .bool bb), (1, .slice pb qb rb), (2, .slice pb' qb' rb')])]⟩ w.heap.size (by kernel_rfl) (by kernel_rfl) e1_.size ?hfr hkeep1 hob1 hne1 ?hs ?he
  case hfr =>
    intro i v wk hi hst hv
    exact absurd hi (by simp)
  case hs =>
    refine ⟨?_, ?_, ?_, ?_, ?_, ?_, trivial⟩
    · refine RStep.op rfl rfl (fun ac wk hp K hK => ?_)
      have t2_ : ac.tmps[2]?.getD undef = .pointer (some ⟨w.heap.size, 0, none⟩) := hp.slot 2 rfl rfl
      have c0_ := hp.ocell 4 0 (by decide) rfl (by decide +kernel) rfl
      have c1_ := hp.ocell 4 1 (by decide) rfl (by decide +kernel) rfl
      have c2_ := hp.ocell 4 2 (by decide) rfl (by decide +kernel) rfl
      have HP := Lib.hid hp
      clear hp
      go_simp
      refine hK.out _ _ ?_ (Ext.refl _) (fun h => absurd h (by simp))
      exact rfl
    · refine RStep.op rfl rfl (fun ac wk hp K hK => ?_)
      have u0e := hp.get 0 (by decide +kernel) rfl
      have t7_ : ac.tmps[7]?.getD undef = .agg #[.bool ba, .slice pa qa ra, .slice pa' qa' ra'] := slot_is' u0e
      have HP := Lib.hid hp
      clear hp
      go_simp
      refine (rcount_is (ha.gr (y1.gr.trans HP.out.gr)) (by have h1 := HK.out; omega)).mono ?_
      rintro e wk' ⟨sb1, sv1, su1, sm1, sd1, rfl, e1, o1, ix⟩
      obtain ⟨sp1, sl1, sc1, tp1, tl1, tc1, rfl, rfl⟩ := e1.slice
      refine hK.out _ _ ?_ ix (fun h => absurd h (by simp))
      exact ⟨_, _, _, _, _, _, _, _, _, rfl, e1, (o1.mono (Nat.le_trans e1_.size HP.out.gr.size))⟩
    · refine RStep.op rfl rfl (fun ac wk hp K hK => ?_)
      have t3_ : ac.tmps[3]?.getD undef = .pointer (some ⟨w.heap.size + 1, 0, none⟩) := hp.slot 3 rfl rfl
      have c0_ := hp.ocell 5 0 (by decide) rfl (by decide +kernel) rfl
      have c1_ := hp.ocell 5 1 (by decide) rfl (by decide +kernel) rfl
      have c2_ := hp.ocell 5 2 (by decide) rfl (by decide +kernel) rfl
      have HP := Lib.hid hp
      clear hp
      go_simp
      refine hK.out _ _ ?_ (Ext.refl _) (fun h => absurd h (by simp))
      exact rfl
    · refine RStep.op rfl rfl (fun ac wk hp K hK => ?_)
      have u2e := hp.get 2 (by decide +kernel) rfl
      have t9_ : ac.tmps[9]?.getD undef = .agg #[.bool bb, .slice pb qb rb, .slice pb' qb' rb'] := slot_is' u2e
      have HP := Lib.hid hp
      clear hp
      go_simp
      refine (rcount_is (hb.gr (y1.gr.trans HP.out.gr)) (by have h1 := HK.out; omega)).mono ?_
      rintro e wk' ⟨sb2, sv2, su2, sm2, sd2, rfl, e2, o2, ix⟩
      obtain ⟨sp2, sl2, sc2, tp2, tl2, tc2, rfl, rfl⟩ := e2.slice
      refine hK.out _ _ ?_ ix (fun h => absurd h (by simp))
      exact ⟨_, _, _, _, _, _, _, _, _, rfl, e2, (o2.mono (Nat.le_trans e1_.size HP.out.gr.size))⟩
    · refine RStep.so 0 1 (w.heap.size) rfl rfl rfl (fun ac wk hp => ?_)
      have t2_ : ac.tmps[2]?.getD undef = .pointer (some ⟨w.heap.size, 0, none⟩) := hp.slot 2 rfl rfl
      obtain ⟨u1b, u1p, u1n, u1c, u1q, u1k, u1d, u1m, u1l, u1e, u1i, u1o⟩ := hp.get 1 (by decide +kernel) rfl
      have t8_ : ac.tmps[8]?.getD undef = .agg #[.bool u1b, .slice u1p u1n u1c, .slice u1q u1k u1d] := slot_is' u1e
      obtain ⟨d0, hd0, -⟩ := Bx.cell (k0.out.gr hp.gr) (o := 0) (by decide)
      have fz0 := Bx.free (k0.out.gr hp.gr) 0
      obtain ⟨d1, hd1, -⟩ := Bx.cell (k0.out.gr hp.gr) (o := 1) (by decide)
      have fz1 := Bx.free (k0.out.gr hp.gr) 1
      obtain ⟨d2, hd2, -⟩ := Bx.cell (k0.out.gr hp.gr) (o := 2) (by decide)
      have fz2 := Bx.free (k0.out.gr hp.gr) 2
      refine ⟨3, [.bool u1b, .slice u1p u1n u1c, .slice u1q u1k u1d], (k0.out.gr hp.gr), by rw [u1e]; rfl, rfl, noI_s3, fun K hK => ?_⟩
      have HK := Lib.hid hK
      clear hK hp
      go_simp
      exact HK.out
    · refine RStep.so 1 3 (w.heap.size + 1) rfl rfl rfl (fun ac wk hp => ?_)
      have t3_ : ac.tmps[3]?.getD undef = .pointer (some ⟨w.heap.size + 1, 0, none⟩) := hp.slot 3 rfl rfl
      obtain ⟨u3b, u3p, u3n, u3c, u3q, u3k, u3d, u3m, u3l, u3e, u3i, u3o⟩ := hp.get 3 (by decide +kernel) rfl
      have t10_ : ac.tmps[10]?.getD undef = .agg #[.bool u3b, .slice u3p u3n u3c, .slice u3q u3k u3d] := slot_is' u3e
      obtain ⟨d0, hd0, -⟩ := Bx.cell (k1.out.gr hp.gr) (o := 0) (by decide)
      have fz0 := Bx.free (k1.out.gr hp.gr) 0
      obtain ⟨d1, hd1, -⟩ := Bx.cell (k1.out.gr hp.gr) (o := 1) (by decide)
      have fz1 := Bx.free (k1.out.gr hp.gr) 1
      obtain ⟨d2, hd2, -⟩ := Bx.cell (k1.out.gr hp.gr) (o := 2) (by decide)
      have fz2 := Bx.free (k1.out.gr hp.gr) 2
      refine ⟨3, [.bool u3b, .slice u3p u3n u3c, .slice u3q u3k u3d], (k1.out.gr hp.gr), by rw [u3e]; rfl, rfl, noI_s3, fun K hK => ?_⟩
      have HK := Lib.hid hK
      clear hK hp
      go_simp
      exact HK.out
  case he =>
    intro ac v2 hM
    have y1_0e := hM.post 0 rfl rfl
    obtain ⟨y1_1b, y1_1p, y1_1n, y1_1c, y1_1q, y1_1k, y1_1d, y1_1m, y1_1l, y1_1e, y1_1i, y1_1o⟩ := hM.post 1 rfl rfl
    have y1_2e := hM.post 2 rfl rfl
    obtain ⟨y1_3b, y1_3p, y1_3n, y1_3c, y1_3q, y1_3k, y1_3d, y1_3m, y1_3l, y1_3e, y1_3i, y1_3o⟩ := hM.post 3 rfl rfl
    have b0_0 : Hid (At (w.heap.size) 0 (.bool y1_1b) v2) := Lib.hid (hM.boxOld 4 0 1 rfl rfl rfl (cs := [.bool y1_1b, .slice y1_1p y1_1n y1_1c, .slice y1_1q y1_1k y1_1d]) (by rw [y1_1e]; rfl) 0 _ rfl)
    have b0_1 : Hid (At (w.heap.size) 1 (.slice y1_1p y1_1n y1_1c) v2) := Lib.hid (hM.boxOld 4 0 1 rfl rfl rfl (cs := [.bool y1_1b, .slice y1_1p y1_1n y1_1c, .slice y1_1q y1_1k y1_1d]) (by rw [y1_1e]; rfl) 1 _ rfl)
    have b0_2 : Hid (At (w.heap.size) 2 (.slice y1_1q y1_1k y1_1d) v2) := Lib.hid (hM.boxOld 4 0 1 rfl rfl rfl (cs := [.bool y1_1b, .slice y1_1p y1_1n y1_1c, .slice y1_1q y1_1k y1_1d]) (by rw [y1_1e]; rfl) 2 _ rfl)
    have b1_0 : Hid (At (w.heap.size + 1) 0 (.bool y1_3b) v2) := Lib.hid (hM.boxOld 5 1 3 rfl rfl rfl (cs := [.bool y1_3b, .slice y1_3p y1_3n y1_3c, .slice y1_3q y1_3k y1_3d]) (by rw [y1_3e]; rfl) 0 _ rfl)
    have b1_1 : Hid (At (w.heap.size + 1) 1 (.slice y1_3p y1_3n y1_3c) v2) := Lib.hid (hM.boxOld 5 1 3 rfl rfl rfl (cs := [.bool y1_3b, .slice y1_3p y1_3n y1_3c, .slice y1_3q y1_3k y1_3d]) (by rw [y1_3e]; rfl) 1 _ rfl)
    have b1_2 : Hid (At (w.heap.size + 1) 2 (.slice y1_3q y1_3k y1_3d) v2) := Lib.hid (hM.boxOld 5 1 3 rfl rfl rfl (cs := [.bool y1_3b, .slice y1_3p y1_3n y1_3c, .slice y1_3q y1_3k y1_3d]) (by rw [y1_3e]; rfl) 2 _ rfl)
    have b2_0 : Hid (At (w.heap.size + 1 + 1) 0 (.bool false) v2) := Lib.hid (hM.keep.at 0 rfl)
    have b2_1 : Hid (At (w.heap.size + 1 + 1) 1 (.slice none 0 0) v2) := Lib.hid (hM.keep.at 1 rfl)
    have b2_2 : Hid (At (w.heap.size + 1 + 1) 2 (.slice none 0 0) v2) := Lib.hid (hM.keep.at 2 rfl)
    have gv2 : Gr v1 v2 := hM.gr
    have e2_ : Ext w v2 := Ext.below e1_ hM.blw
    have z0_ : sl ac 7 = .agg #[.bool ba, .slice pa qa ra, .slice pa' qa' ra'] := y1_0e
    have z1_ : sl ac 8 = .agg #[.bool y1_1b, .slice y1_1p y1_1n y1_1c, .slice y1_1q y1_1k y1_1d] := y1_1e
    have z2_ : sl ac 9 = .agg #[.bool bb, .slice pb qb rb, .slice pb' qb' rb'] := y1_2e
    have z3_ : sl ac 10 = .agg #[.bool y1_3b, .slice y1_3p y1_3n y1_3c, .slice y1_3q y1_3k y1_3d] := y1_3e
    rw [hM.ag.lay]
    simp only [lay, List.foldl_cons, List.foldl_nil, List.setIfInBounds_toArray, List.set_cons_zero, List.set_cons_succ, z0_, z1_, z2_, z3_]
    clear hM hkeep1 hob1 hne1 z0_ z1_ z2_ z3_ y1_0e y1_1e y1_2e y1_3e
    go_wp2_with fail
    have hkeep2 : AllAt' ([(w.heap.size, 0, .bool y1_1b), (w.heap.size, 1, .slice y1_1p y1_1n y1_1c), (w.heap.size, 2, .slice y1_1q y1_1k y1_1d), (w.heap.size + 1, 0, .bool y1_3b), (w.heap.size + 1, 1, .slice y1_3p y1_3n y1_3c), (w.heap.size + 1, 2, .slice y1_3q y1_3k y1_3d), (w.heap.size + 1 + 1, 0, .bool false), (w.heap.size + 1 + 1, 1, .slice none 0 0), (w.heap.size + 1 + 1, 2, .slice none 0 0)] : List (Nat × Nat × Value)) v2 := AllAt'.cons b0_0.out (AllAt'.cons b0_1.out (AllAt'.cons b0_2.out (AllAt'.cons b1_0.out (AllAt'.cons b1_1.out (AllAt'.cons b1_2.out (AllAt'.cons b2_0.out (AllAt'.cons b2_1.out (AllAt'.cons b2_2.out (AllAt'.nil _)))))))))
    have hob2 : ObOk w.heap.size v2 (([(w.heap.size, 0, .bool y1_1b), (w.heap.size, 1, .slice y1_1p y1_1n y1_1c), (w.heap.size, 2, .slice y1_1q y1_1k y1_1d), (w.heap.size + 1, 0, .bool y1_3b), (w.heap.size + 1, 1, .slice y1_3p y1_3n y1_3c), (w.heap.size + 1, 2, .slice y1_3q y1_3k y1_3d), (w.heap.size + 1 + 1, 0, .bool false), (w.heap.size + 1 + 1, 1, .slice none 0 0), (w.heap.size + 1 + 1, 2, .slice none 0 0)] : List (Nat × Nat × Value)).map (·.1)) ([] : List (Nat × List (Nat × Value))) := trivial
    have hne2 : AllNe (([] : List (Nat × List (Nat × Value))).map (·.1)) := trivial
    (try simp only [List.append_eq, List.cons_append, List.nil_append])
    refine wp_region_gen ⟨[12, 13, 14, 15, 16, 17, 18, 19, 20, 21, 22, 11, 23, 24, 5, 6], fun i => i == 14, fun i => ([none, none, none, none, none, none, none, none, none, none, none, none, none, none, none, some (.op 14, 12), none] : List (Option (BoxRef × Nat))).getD i none, fun i => ([Sg.val (.pointer (some ⟨w.heap.size, 0, none⟩)), Sg.val (.agg #[.bool y1_1b, .slice y1_1p y1_1n y1_1c]), Sg.val (.pointer (some ⟨w.heap.size + 1, 0, none⟩)), Sg.val (.agg #[.bool y1_3b, .slice y1_3p y1_3n y1_3c]), Sg.intO w.heap.size ((a).num * (b).num), Sg.val (.pointer (some ⟨w.heap.size, 2, none⟩)), Sg.val (.slice y1_1q y1_1k y1_1d), Sg.val (.pointer (some ⟨w.heap.size + 1, 2, none⟩)), Sg.val (.slice y1_3q y1_3k y1_3d), Sg.natO w.heap.size ((a).den * (b).den), Sg.two (Sg.ratO w.heap.size (a * b)) (Sg.val (.int .i64 0)), Sg.two (Sg.ratO w.heap.size (a * b)) (Sg.val (.int .i64 0)), Sg.ratO w.heap.size (a * b), Sg.val (.int .i64 0), Sg.box 3 v2.heap.size, Sg.any, Sg.val (.int .i64 0)] : List Sg).getD i Sg.any, [(w.heap.size, 0, .bool y1_1b), (w.heap.size, 1, .slice y1_1p y1_1n y1_1c), (w.heap.size, 2, .slice y1_1q y1_1k y1_1d), (w.heap.size + 1, 0, .bool y1_3b), (w.heap.size + 1, 1, .slice y1_3p y1_3n y1_3c), (w.heap.size + 1, 2, .slice y1_3q y1_3k y1_3d), (w.heap.size + 1 + 1, 0, .bool false), (w.heap.size + 1 + 1, 1, .slice none 0 0), (w.heap.size + 1 + 1, 2, .slice none 0 0)], []⟩ w.heap.size (by kernel_rfl) (by kernel_rfl) e2_.size ?hfr hkeep2 hob2 hne2 ?hs ?he
    case hfr =>
      intro i v wk hi hst hv
      have : i = 14 := by simpa [or_assoc] using hi
      subst this; obtain ⟨s, rfl, -, hb⟩ := hv; exact hb.lt
    case hs =>
      refine ⟨?_, ?_, ?_, ?_, ?_, ?_, ?_, ?_, ?_, ?_, ?_, ?_, ?_, ?_, ?_, ?_, ?_, trivial⟩
      · refine RStep.op rfl rfl (fun ac wk hp K hK => ?_)
        have t2_ : ac.tmps[2]?.getD undef = .pointer (some ⟨w.heap.size, 0, none⟩) := hp.slot 2 rfl rfl
        have HP := Lib.hid hp
        clear hp
        go_simp
        refine hK.out _ _ ?_ (Ext.refl _) (fun h => absurd h (by simp))
        exact rfl
      · refine RStep.op rfl rfl (fun ac wk hp K hK => ?_)
        have u0e := hp.get 0 (by decide +kernel) rfl
        have t12_ : ac.tmps[12]?.getD undef = .pointer (some ⟨w.heap.size, 0, none⟩) := slot_is' u0e
        have c0_ := hp.cell 0 rfl
        have c1_ := hp.cell 1 rfl
        have HP := Lib.hid hp
        clear hp
        go_simp
        refine hK.out _ _ ?_ (Ext.refl _) (fun h => absurd h (by simp))
        exact rfl
      · refine RStep.op rfl rfl (fun ac wk hp K hK => ?_)
        have t3_ : ac.tmps[3]?.getD undef = .pointer (some ⟨w.heap.size + 1, 0, none⟩) := hp.slot 3 rfl rfl
        have HP := Lib.hid hp
        clear hp
        go_simp
        refine hK.out _ _ ?_ (Ext.refl _) (fun h => absurd h (by simp))
        exact rfl
      · refine RStep.op rfl rfl (fun ac wk hp K hK => ?_)
        have u2e := hp.get 2 (by decide +kernel) rfl
        have t14_ : ac.tmps[14]?.getD undef = .pointer (some ⟨w.heap.size + 1, 0, none⟩) := slot_is' u2e
        have c0_ := hp.cell 3 rfl
        have c1_ := hp.cell 4 rfl
        have HP := Lib.hid hp
        clear hp
        go_simp
        refine hK.out _ _ ?_ (Ext.refl _) (fun h => absurd h (by simp))
        exact rfl
      · refine RStep.op rfl rfl (fun ac wk hp K hK => ?_)
        have u1e := hp.get 1 (by decide +kernel) rfl
        have t13_ : ac.tmps[13]?.getD undef = .agg #[.bool y1_1b, .slice y1_1p y1_1n y1_1c] := slot_is' u1e
        have u3e := hp.get 3 (by decide +kernel) rfl
        have t15_ : ac.tmps[15]?.getD undef = .agg #[.bool y1_3b, .slice y1_3p y1_3n y1_3c] := slot_is' u3e
        have HP := Lib.hid hp
        clear hp
        go_simp
        refine (wmul_z ((y1_1i.gr HP.out.gr).num.inI (k := k) LA.out.1) ((y1_3i.gr HP.out.gr).num.inI (k := l) LB.out.1) (by have h1 := HK.out; omega)).mono ?_
        rintro e wk' ⟨sb3, sv3, sm3, rfl, e3, o3, ix⟩
        obtain ⟨sp3, sl3, sc3, rfl⟩ := e3.slice
        refine hK.out _ _ ?_ ix (fun h => absurd h (by simp))
        exact ⟨_, _, _, _, _, rfl, e3, (o3.mono (Nat.le_trans e2_.size HP.out.gr.size))⟩
      · refine RStep.op rfl rfl (fun ac wk hp K hK => ?_)
        have t2_ : ac.tmps[2]?.getD undef = .pointer (some ⟨w.heap.size, 0, none⟩) := hp.slot 2 rfl rfl
        have HP := Lib.hid hp
        clear hp
        go_simp
        refine hK.out _ _ ?_ (Ext.refl _) (fun h => absurd h (by simp))
        exact rfl
      · refine RStep.op rfl rfl (fun ac wk hp K hK => ?_)
        have u5e := hp.get 5 (by decide +kernel) rfl
        have t17_ : ac.tmps[17]?.getD undef = .pointer (some ⟨w.heap.size, 2, none⟩) := slot_is' u5e
        have c0_ := hp.cell 2 rfl
        have HP := Lib.hid hp
        clear hp
        go_simp
        refine hK.out _ _ ?_ (Ext.refl _) (fun h => absurd h (by simp))
        exact rfl
      · refine RStep.op rfl rfl (fun ac wk hp K hK => ?_)
        have t3_ : ac.tmps[3]?.getD undef = .pointer (some ⟨w.heap.size + 1, 0, none⟩) := hp.slot 3 rfl rfl
        have HP := Lib.hid hp
        clear hp
        go_simp
        refine hK.out _ _ ?_ (Ext.refl _) (fun h => absurd h (by simp))
        exact rfl
      · refine RStep.op rfl rfl (fun ac wk hp K hK => ?_)
        have u7e := hp.get 7 (by decide +kernel) rfl
        have t19_ : ac.tmps[19]?.getD undef = .pointer (some ⟨w.heap.size + 1, 2, none⟩) := slot_is' u7e
        have c0_ := hp.cell 5 rfl
        have HP := Lib.hid hp
        clear hp
        go_simp
        refine hK.out _ _ ?_ (Ext.refl _) (fun h => absurd h (by simp))
        exact rfl
      · refine RStep.op rfl rfl (fun ac wk hp K hK => ?_)
        have u6e := hp.get 6 (by decide +kernel) rfl
        have t18_ : ac.tmps[18]?.getD undef = .slice y1_1q y1_1k y1_1d := slot_is' u6e
        have u8e := hp.get 8 (by decide +kernel) rfl
        have t20_ : ac.tmps[20]?.getD undef = .slice y1_3q y1_3k y1_3d := slot_is' u8e
        have HP := Lib.hid hp
        clear hp
        go_simp
        refine (nmul_n (Limbs.inN (k := k) (y1_1i.gr HP.out.gr).den LA.out.2) (Limbs.inN (k := l) (y1_3i.gr HP.out.gr).den LB.out.2) (by have h1 := HK.out; omega)).mono ?_
        rintro e wk' ⟨sv4, rfl, o4, ix⟩
        obtain ⟨sp4, sl4, sc4, rfl⟩ := o4.slice'
        refine hK.out _ _ ?_ ix (fun h => absurd h (by simp))
        exact ⟨_, _, _, rfl, (o4.mono (Nat.le_trans e2_.size HP.out.gr.size))⟩
      · refine RStep.op rfl rfl (fun ac wk hp K hK => ?_)
        obtain ⟨u4b, u4p, u4n, u4c, u4m, u4e, u4i, u4o⟩ := hp.get 4 (by decide +kernel) rfl
        have t16_ : ac.tmps[16]?.getD undef = .agg #[.bool u4b, .slice u4p u4n u4c] := slot_is' u4e
        obtain ⟨u9p, u9n, u9c, u9e, u9o⟩ := hp.get 9 (by decide +kernel) rfl
        have t21_ : ac.tmps[21]?.getD undef = .slice u9p u9n u9c := slot_is' u9e
        have HP := Lib.hid hp
        clear hp
        go_simp
        refine (rmake_is (u4i.inI (k := (k + l)) (LenI.mul LA.out.1 LB.out.1)) (Limbs.inN (k := (k + l)) u9o.limbs (lt_mul LA.out.2 LB.out.2)) (Nat.mul_ne_zero a.den_nz b.den_nz) (by have h1 := HK.out; omega) (by have h1 := HK.out; omega) (Rat.mul_def' a b).symm).mono ?_
        rintro e wk' ⟨sb5, sv5, su5, sm5, sd5, rfl, e5, o5, ix⟩
        obtain ⟨sp5, sl5, sc5, tp5, tl5, tc5, rfl, rfl⟩ := e5.slice
        refine hK.out _ _ ?_ ix (fun h => absurd h (by simp))
        exact ⟨_, _, rfl, ⟨_, _, _, _, _, _, _, _, _, rfl, e5, (o5.mono (Nat.le_trans e2_.size HP.out.gr.size))⟩, rfl⟩
      · refine RStep.op rfl rfl (fun ac wk hp K hK => ?_)
        obtain ⟨_, _, u10e, ⟨u10xb, u10xp, u10xn, u10xc, u10xq, u10xk, u10xd, u10xm, u10xl, rfl, u10xi, u10xo⟩, rfl⟩ := hp.get 10 (by decide +kernel) rfl
        have t22_ : ac.tmps[22]?.getD undef = .tuple #[.agg #[.bool u10xb, .slice u10xp u10xn u10xc, .slice u10xq u10xk u10xd], .int .i64 0] := slot_is' u10e
        have HP := Lib.hid hp
        clear hp
        go_simp
        refine hK.out _ _ ?_ (Ext.refl _) (fun h => absurd h (by simp))
        exact ⟨_, _, rfl, ⟨_, _, _, _, _, _, _, _, _, rfl, u10xi, u10xo⟩, rfl⟩
      · refine RStep.op rfl rfl (fun ac wk hp K hK => ?_)
        obtain ⟨_, _, u11e, ⟨u11xb, u11xp, u11xn, u11xc, u11xq, u11xk, u11xd, u11xm, u11xl, rfl, u11xi, u11xo⟩, rfl⟩ := hp.get 11 (by decide +kernel) rfl
        have t11_ : ac.tmps[11]?.getD undef = .tuple #[.agg #[.bool u11xb, .slice u11xp u11xn u11xc, .slice u11xq u11xk u11xd], .int .i64 0] := slot_is' u11e
        have HP := Lib.hid hp
        clear hp
        go_simp
        refine hK.out _ _ ?_ (Ext.refl _) (fun h => absurd h (by simp))
        exact ⟨_, _, _, _, _, _, _, _, _, rfl, u11xi, u11xo⟩
      · refine RStep.op rfl rfl (fun ac wk hp K hK => ?_)
        obtain ⟨_, _, u11e, ⟨u11xb, u11xp, u11xn, u11xc, u11xq, u11xk, u11xd, u11xm, u11xl, rfl, u11xi, u11xo⟩, rfl⟩ := hp.get 11 (by decide +kernel) rfl
        have t11_ : ac.tmps[11]?.getD undef = .tuple #[.agg #[.bool u11xb, .slice u11xp u11xn u11xc, .slice u11xq u11xk u11xd], .int .i64 0] := slot_is' u11e
        have HP := Lib.hid hp
        clear hp
        go_simp
        refine hK.out _ _ ?_ (Ext.refl _) (fun h => absurd h (by simp))
        exact rfl
      · refine RStep.op rfl rfl (fun ac wk hp K hK => ?_)
        have hsz := hp.gr.size
        clear hp
        go_simp
        exact hK.out _ _ ⟨_, rfl, hsz, Bx.new 3 ⟨rfl, by decide⟩ (by decide) noI_s3⟩ ((Ext.refl _).alloc _) (fun _ => rfl)
      · refine RStep.st 14 12 rfl rfl (fun ac wk hp => ?_)
        obtain ⟨u14s, u14e, u14l, u14b⟩ := hp.get 14 (by decide +kernel) rfl
        have t5_ : ac.tmps[5]?.getD undef = .pointer (some ⟨u14s, 0, none⟩) := slot_is' u14e
        obtain ⟨u12b, u12p, u12n, u12c, u12q, u12k, u12d, u12m, u12l, u12e, u12i, u12o⟩ := hp.get 12 (by decide +kernel) rfl
        have t23_ : ac.tmps[23]?.getD undef = .agg #[.bool u12b, .slice u12p u12n u12c, .slice u12q u12k u12d] := slot_is' u12e
        obtain ⟨d0, hd0, -⟩ := Bx.cell u14b (o := 0) (by decide)
        have fz0 := Bx.free u14b 0
        obtain ⟨d1, hd1, -⟩ := Bx.cell u14b (o := 1) (by decide)
        have fz1 := Bx.free u14b 1
        obtain ⟨d2, hd2, -⟩ := Bx.cell u14b (o := 2) (by decide)
        have fz2 := Bx.free u14b 2
        refine ⟨u14s, 3, [.bool u12b, .slice u12p u12n u12c, .slice u12q u12k u12d], u14e, u14b, by rw [u12e]; rfl, rfl, noI_s3, fun K hK => ?_⟩
        have HK := Lib.hid hK
        clear hK hp
        go_simp
        exact HK.out
      · refine RStep.op rfl rfl (fun ac wk hp K hK => ?_)
        have u13e := hp.get 13 (by decide +kernel) rfl
        have t24_ : ac.tmps[24]?.getD undef = .int .i64 0 := slot_is' u13e
        have HP := Lib.hid hp
        clear hp
        go_simp
        refine hK.out _ _ ?_ (Ext.refl _) (fun h => absurd h (by simp))
        exact rfl
    case he =>
      intro ac v3 hM
      have y2_0e := hM.post 0 rfl rfl
      have y2_1e := hM.post 1 rfl rfl
      have y2_2e := hM.post 2 rfl rfl
      have y2_3e := hM.post 3 rfl rfl
      obtain ⟨y2_4b, y2_4p, y2_4n, y2_4c, y2_4m, y2_4e, y2_4i, y2_4o⟩ := hM.post 4 rfl rfl
      have y2_5e := hM.post 5 rfl rfl
      have y2_6e := hM.post 6 rfl rfl
      have y2_7e := hM.post 7 rfl rfl
      have y2_8e := hM.post 8 rfl rfl
      obtain ⟨y2_9p, y2_9n, y2_9c, y2_9e, y2_9o⟩ := hM.post 9 rfl rfl
      obtain ⟨_, _, y2_10e, ⟨y2_10xb, y2_10xp, y2_10xn, y2_10xc, y2_10xq, y2_10xk, y2_10xd, y2_10xm, y2_10xl, rfl, y2_10xi, y2_10xo⟩, rfl⟩ := hM.post 10 rfl rfl
      obtain ⟨_, _, y2_11e, ⟨y2_11xb, y2_11xp, y2_11xn, y2_11xc, y2_11xq, y2_11xk, y2_11xd, y2_11xm, y2_11xl, rfl, y2_11xi, y2_11xo⟩, rfl⟩ := hM.post 11 rfl rfl
      obtain ⟨y2_12b, y2_12p, y2_12n, y2_12c, y2_12q, y2_12k, y2_12d, y2_12m, y2_12l, y2_12e, y2_12i, y2_12o⟩ := hM.post 12 rfl rfl
      have y2_13e := hM.post 13 rfl rfl
      obtain ⟨y2_14s, y2_14e, y2_14l, y2_14b⟩ := hM.post 14 rfl rfl
      have l3 := Lib.hid y2_14l
      have k3 := Lib.hid y2_14b
      have u3 := Lib.hid (Bx.lt y2_14b)
      have y2_16e := hM.post 16 rfl rfl
      have b3_0 : Hid (At (y2_14s) 0 (.bool y2_12b) v3) := Lib.hid (hM.boxOp 15 14 12 rfl rfl y2_14e (cs := [.bool y2_12b, .slice y2_12p y2_12n y2_12c, .slice y2_12q y2_12k y2_12d]) (by rw [y2_12e]; rfl) 0 _ rfl)
      have b3_1 : Hid (At (y2_14s) 1 (.slice y2_12p y2_12n y2_12c) v3) := Lib.hid (hM.boxOp 15 14 12 rfl rfl y2_14e (cs := [.bool y2_12b, .slice y2_12p y2_12n y2_12c, .slice y2_12q y2_12k y2_12d]) (by rw [y2_12e]; rfl) 1 _ rfl)
      have b3_2 : Hid (At (y2_14s) 2 (.slice y2_12q y2_12k y2_12d) v3) := Lib.hid (hM.boxOp 15 14 12 rfl rfl y2_14e (cs := [.bool y2_12b, .slice y2_12p y2_12n y2_12c, .slice y2_12q y2_12k y2_12d]) (by rw [y2_12e]; rfl) 2 _ rfl)
      have b0_0 : Hid (At (w.heap.size) 0 (.bool y1_1b) v3) := Lib.hid (hM.keep.at 0 rfl)
      have b0_1 : Hid (At (w.heap.size) 1 (.slice y1_1p y1_1n y1_1c) v3) := Lib.hid (hM.keep.at 1 rfl)
      have b0_2 : Hid (At (w.heap.size) 2 (.slice y1_1q y1_1k y1_1d) v3) := Lib.hid (hM.keep.at 2 rfl)
      have b1_0 : Hid (At (w.heap.size + 1) 0 (.bool y1_3b) v3) := Lib.hid (hM.keep.at 3 rfl)
      have b1_1 : Hid (At (w.heap.size + 1) 1 (.slice y1_3p y1_3n y1_3c) v3) := Lib.hid (hM.keep.at 4 rfl)
      have b1_2 : Hid (At (w.heap.size + 1) 2 (.slice y1_3q y1_3k y1_3d) v3) := Lib.hid (hM.keep.at 5 rfl)
      have b2_0 : Hid (At (w.heap.size + 1 + 1) 0 (.bool false) v3) := Lib.hid (hM.keep.at 6 rfl)
      have b2_1 : Hid (At (w.heap.size + 1 + 1) 1 (.slice none 0 0) v3) := Lib.hid (hM.keep.at 7 rfl)
      have b2_2 : Hid (At (w.heap.size + 1 + 1) 2 (.slice none 0 0) v3) := Lib.hid (hM.keep.at 8 rfl)
      have gv3 : Gr v2 v3 := hM.gr
      have e3_ : Ext w v3 := Ext.below e2_ hM.blw
      have z0_ : sl ac 12 = .pointer (some ⟨w.heap.size, 0, none⟩) := y2_0e
      have z1_ : sl ac 13 = .agg #[.bool y1_1b, .slice y1_1p y1_1n y1_1c] := y2_1e
      have z2_ : sl ac 14 = .pointer (some ⟨w.heap.size + 1, 0, none⟩) := y2_2e
      have z3_ : sl ac 15 = .agg #[.bool y1_3b, .slice y1_3p y1_3n y1_3c] := y2_3e
      have z4_ : sl ac 16 = .agg #[.bool y2_4b, .slice y2_4p y2_4n y2_4c] := y2_4e
      have z5_ : sl ac 17 = .pointer (some ⟨w.heap.size, 2, none⟩) := y2_5e
      have z6_ : sl ac 18 = .slice y1_1q y1_1k y1_1d := y2_6e
      have z7_ : sl ac 19 = .pointer (some ⟨w.heap.size + 1, 2, none⟩) := y2_7e
      have z8_ : sl ac 20 = .slice y1_3q y1_3k y1_3d := y2_8e
      have z9_ : sl ac 21 = .slice y2_9p y2_9n y2_9c := y2_9e
      have z10_ : sl ac 22 = .tuple #[.agg #[.bool y2_10xb, .slice y2_10xp y2_10xn y2_10xc, .slice y2_10xq y2_10xk y2_10xd], .int .i64 0] := y2_10e
      have z11_ : sl ac 11 = .tuple #[.agg #[.bool y2_11xb, .slice y2_11xp y2_11xn y2_11xc, .slice y2_11xq y2_11xk y2_11xd], .int .i64 0] := y2_11e
      have z12_ : sl ac 23 = .agg #[.bool y2_12b, .slice y2_12p y2_12n y2_12c, .slice y2_12q y2_12k y2_12d] := y2_12e
      have z13_ : sl ac 24 = .int .i64 0 := y2_13e
      have z14_ : sl ac 5 = .pointer (some ⟨y2_14s, 0, none⟩) := y2_14e
      have z16_ : sl ac 6 = .int .i64 0 := y2_16e
      rw [hM.ag.lay]
      simp only [lay, List.foldl_cons, List.foldl_nil, List.setIfInBounds_toArray, List.set_cons_zero, List.set_cons_succ, z0_, z1_, z2_, z3_, z4_, z5_, z6_, z7_, z8_, z9_, z10_, z11_, z12_, z13_, z14_, z16_]
      clear hM hkeep2 hob2 hne2 z0_ z1_ z2_ z3_ z4_ z5_ z6_ z7_ z8_ z9_ z10_ z11_ z12_ z13_ z14_ z16_ y2_0e y2_1e y2_2e y2_3e y2_4e y2_5e y2_6e y2_7e y2_8e y2_9e y2_10e y2_11e y2_12e y2_13e y2_14e y2_16e
      have g3_0 := b3_0.out.1
      have g3_1 := b3_1.out.1
      have g3_2 := b3_2.out.1
      have g2_0 := b2_0.out.1
      have g2_1 := b2_1.out.1
      have g2_2 := b2_2.out.1
      have z2_0 := (k2.out.gr (gv2.trans gv3)).free 0
      have z2_1 := (k2.out.gr (gv2.trans gv3)).free 1
      have z2_2 := (k2.out.gr (gv2.trans gv3)).free 2
      have f3 : y2_14s < v3.heap.size := b3_0.out.2
      have f2 : w.heap.size + 1 + 1 < v3.heap.size := b2_0.out.2
      have n2_3 : w.heap.size + 1 + 1 ≠ y2_14s := (by (try dsimp only); have h1 := u2.out; have h2 := gv2.size; have h3 := l3.out; omega)
      have n3_2 : y2_14s ≠ w.heap.size + 1 + 1 := Ne.symm n2_3
      go_wp2_with fail
      obtain ⟨v4, hv4⟩ : ∃ W, W = (((v3.setCell ⟨w.heap.size + 1 + 1, 0, none⟩ (.bool y2_12b)).setCell ⟨w.heap.size + 1 + 1, 1, none⟩ (.slice y2_12p y2_12n y2_12c)).setCell ⟨w.heap.size + 1 + 1, 2, none⟩ (.slice y2_12q y2_12k y2_12d)) := ⟨_, rfl⟩
      have sv4 : v4 = setRow (w.heap.size + 1 + 1) 0 [.bool y2_12b, .slice y2_12p y2_12n y2_12c, .slice y2_12q y2_12k y2_12d] v3 := hv4
      have uv4 := setRow_bx' (o := 0) (cs := [.bool y2_12b, .slice y2_12p y2_12n y2_12c, .slice y2_12q y2_12k y2_12d]) (k2.out.gr (gv2.trans gv3)) (by simp) noI_s3
      have y4 : Gr v3 v4 := by rw [sv4]; exact setRow_gr' (o := 0) (cs := [.bool y2_12b, .slice y2_12p y2_12n y2_12c, .slice y2_12q y2_12k y2_12d]) (k2.out.gr (gv2.trans gv3)) (by simp) noI_s3
      have t4 : Hid (∀ t o u, t ≠ (w.heap.size + 1 + 1) → At t o u v3 → At t o u v4) := fun t o u h k => by rw [sv4]; exact k.setRow h _ _
      have e4_ : Ext w v4 := by rw [sv4]; exact setRow_below _ _ (by omega) _ _ e3_
      have b2_0 : Hid (At (w.heap.size + 1 + 1) 0 (.bool y2_12b) v4) := by rw [sv4]; exact uv4.2.1 0 _ rfl
      have b2_1 : Hid (At (w.heap.size + 1 + 1) 1 (.slice y2_12p y2_12n y2_12c) v4) := by rw [sv4]; exact uv4.2.1 1 _ rfl
      have b2_2 : Hid (At (w.heap.size + 1 + 1) 2 (.slice y2_12q y2_12k y2_12d) v4) := by rw [sv4]; exact uv4.2.1 2 _ rfl
      have k2 : Hid (Bx 3 (w.heap.size + 1 + 1) v4) := by rw [sv4]; exact uv4.1
      rw [← hv4]
      clear hv4 sv4 uv4
      have c0 := b2_0.out.1
      have c1 := b2_1.out.1
      have c2 := b2_2.out.1
      refine bodyPost_ret (v := .agg #[.bool y2_12b, .slice y2_12p y2_12n y2_12c, .slice y2_12q y2_12k y2_12d]) (by simp [results, Tryz.results50, go_sem, c0, c1, c2]) rfl ?_
      exact ⟨_, _, _, _, _, rfl, (y2_12i.gr y4), ((y2_12o.gr y4)), e4_⟩

end Go.Proofs.YtefeglkbikcjeaaGreatDoor
