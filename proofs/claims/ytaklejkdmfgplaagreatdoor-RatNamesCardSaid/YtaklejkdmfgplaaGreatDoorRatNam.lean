/- Powers that are refused; small contracts for RatNames. -/
import Derived.Test.YtaklejkdmfgplaaGreatDoorPartG
namespace Go.Proofs.YtaklejkdmfgplaaGreatDoor
open Go Go.RowKit

set_option maxHeartbeats 2000000 in
set_option maxRecDepth 100000 in
theorem pow_bad {w : World} {v : Value} {k m : Nat} (h : InN w v k m) (hk : k ≤ 65535) (n c : Int) (hc : n ≤ -1 ∧ c = 1 ∨ 1 ≤ bl m ∧ 0 ≤ n ∧ n ≤ 1048576 ∧ 1048576 / (bl m : Int) + 1 ≤ n ∧ c = 5) :
    Calls Tryz.prog 87 #[v, .int .i64 n] w fun e w' => ∃ r, e = .returned (.tuple #[r, .int .i64 c]) ∧ OwnL w.heap.size w' r (dig 0) ∧ Ext w w' := by
  obtain ⟨A, hA, hm, hl⟩ := h
  have H1 := Lib.hid (lmax_17 (Nat.le_trans hl hk))
  obtain ⟨b, hb⟩ : ∃ b, bl (val A) = b := ⟨_, rfl⟩
  have HB := Lib.hid hb
  obtain ⟨pa, pc, rfl, -, -, -⟩ := hA.open
  have hb2 : (b : Int) ≤ 4194240 := by
    have : b ≤ 64 * A.length := by rw [← hb]; exact (bl_le_iff _ _).2 (by rw [Nat.pow_mul, ← Bs_eq]; exact val_lt hA.2)
    omega
  rw [← hm, hb] at hc
  rcases hc with ⟨h1, rfl⟩ | ⟨h1, h2, h3, h4, rfl⟩
  · clear hm hl hb hk
    go_enter Tryz.func87, Tryz.ntmps87
    go_wp2_with fail
    refine (natlen_calls hA H1.out).mono ?_
    rintro e w1 ⟨rfl, x1⟩
    rw [HB.out]
    go_wp2_with fail
    go_ret2
    exact ⟨_, rfl, by rw [dig_zero]; exact OwnL.nil _ _, by subst x1; exact Ext.refl _⟩
  · have h5 : (1 : Int) ≤ b := by omega
    have hq : Int.tdiv 1048576 (b : Int) = 1048576 / (b : Int) := Int.tdiv_eq_ediv_of_nonneg (by decide)
    obtain ⟨q, hq2⟩ : ∃ q : Int, 1048576 / (b : Int) = q := ⟨_, rfl⟩
    have hq0 : 0 ≤ q := by rw [← hq2]; exact Int.ediv_nonneg (by decide) (by omega)
    rw [hq2] at h4 hq
    clear hm hl hb hk hq2 h1
    go_enter Tryz.func87, Tryz.ntmps87
    go_wp2_with fail
    refine (natlen_calls hA H1.out).mono ?_
    rintro e w1 ⟨rfl, x1⟩
    rw [HB.out]
    go_wp2_with fail
    go_ret2
    exact ⟨_, rfl, by rw [dig_zero]; exact OwnL.nil _ _, by subst x1; exact Ext.refl _⟩

set_option maxHeartbeats 4000000 in
set_option maxRecDepth 100000 in
theorem rpow_arg {w : World} {ba : Bool} {va ua : Value} {k : Nat} {a : Rat} (ha : InR w ba va ua k a) (hk : k ≤ 30000) (n : Int) (hn : n ≤ -1) :
    Calls Tryz.prog 41 #[.agg #[.bool ba, va, ua], .int .i64 n] w (RetRE w 1) := by
  obtain ⟨pa, qa, ra, pa', qa', ra', rfl, rfl⟩ := ha.slice
  have HK := Lib.hid hk
  have HN := Lib.hid hn
  have LA := Lib.hid ha.len
  clear hk hn
  go_enter Tryz.func41, Tryz.ntmps41
  go_wp2_with fail
  obtain ⟨v1, hv1⟩ : ∃ W, W = ((w.alloc (.cells #[.bool ba, .slice pa qa ra, .slice pa' qa' ra'] 36)).alloc (.cells #[.bool false, .slice none 0 0, .slice none 0 0] 36)) := ⟨_, rfl⟩
  have y1 : Ext w v1 := by rw [hv1]; exact (((Ext.refl _).alloc _).alloc _)
  have b0_0 : Hid (At (w.heap.size) 0 (.bool ba) v1) := by rw [hv1]; exact At.ext (At.n0 (by rfl)) ((Ext.refl _).alloc _)
  have b0_1 : Hid (At (w.heap.size) 1 (.slice pa qa ra) v1) := by rw [hv1]; exact At.ext (At.n0 (by rfl)) ((Ext.refl _).alloc _)
  have b0_2 : Hid (At (w.heap.size) 2 (.slice pa' qa' ra') v1) := by rw [hv1]; exact At.ext (At.n0 (by rfl)) ((Ext.refl _).alloc _)
  have k0 : Hid (Bx 3 (w.heap.size) v1) := by rw [hv1]; exact Bx.gr (Bx.n0 3 ⟨rfl, by decide⟩ (by decide) noI_s3) (Ext.gr ((Ext.refl _).alloc _))
  have u0 : Hid (w.heap.size < v1.heap.size) := b0_0.out.2
  have b1_0 : Hid (At (w.heap.size + 1) 0 (.bool false) v1) := by rw [hv1]; exact At.ext (At.n1 (by rfl)) (Ext.refl _)
  have b1_1 : Hid (At (w.heap.size + 1) 1 (.slice none 0 0) v1) := by rw [hv1]; exact At.ext (At.n1 (by rfl)) (Ext.refl _)
  have b1_2 : Hid (At (w.heap.size + 1) 2 (.slice none 0 0) v1) := by rw [hv1]; exact At.ext (At.n1 (by rfl)) (Ext.refl _)
  have k1 : Hid (Bx 3 (w.heap.size + 1) v1) := by rw [hv1]; exact Bx.gr (Bx.n1 3 ⟨rfl, by decide⟩ (by decide) noI_s3) (Ext.gr (Ext.refl _))
  have u1 : Hid (w.heap.size + 1 < v1.heap.size) := b1_0.out.2
  have e1_ : Ext w v1 := y1
  rw [← hv1]
  clear hv1
  refine (rcount_is (ha.ext y1) (by have h1 := HK.out; omega)).mono ?_
  rintro e w2 ⟨sb1, sv1, su1, sm1, sd1, rfl, e1, o1, x2⟩
  have e2_ : Ext w w2 := Ext.trans e1_ x2
  obtain ⟨sp1, sl1, sc1, tp1, tl1, tc1, rfl, rfl⟩ := e1.slice
  have g0_0 := (b0_0.out.ext x2).1
  have g0_1 := (b0_1.out.ext x2).1
  have g0_2 := (b0_2.out.ext x2).1
  have z0_0 := (k0.out.gr x2.gr).free 0
  have z0_1 := (k0.out.gr x2.gr).free 1
  have z0_2 := (k0.out.gr x2.gr).free 2
  have f0 : w.heap.size < w2.heap.size := (b0_0.out.ext x2).2
  go_wp2_with fail
  obtain ⟨v3, hv3⟩ : ∃ W, W = (((w2.setCell ⟨w.heap.size, 0, none⟩ (.bool sb1)).setCell ⟨w.heap.size, 1, none⟩ (.slice sp1 sl1 sc1)).setCell ⟨w.heap.size, 2, none⟩ (.slice tp1 tl1 tc1)) := ⟨_, rfl⟩
  have sv3 : v3 = setRow (w.heap.size) 0 [.bool sb1, .slice sp1 sl1 sc1, .slice tp1 tl1 tc1] w2 := hv3
  have uv3 := setRow_bx' (o := 0) (cs := [.bool sb1, .slice sp1 sl1 sc1, .slice tp1 tl1 tc1]) (k0.out.gr x2.gr) (by simp) noI_s3
  have y3 : Gr w2 v3 := by rw [sv3]; exact setRow_gr' (o := 0) (cs := [.bool sb1, .slice sp1 sl1 sc1, .slice tp1 tl1 tc1]) (k0.out.gr x2.gr) (by simp) noI_s3
  have t3 : Hid (∀ t o u, t ≠ (w.heap.size) → At t o u w2 → At t o u v3) := fun t o u h k => by rw [sv3]; exact k.setRow h _ _
  have e3_ : Ext w v3 := by rw [sv3]; exact setRow_below _ _ (by omega) _ _ e2_
  have b0_0 : Hid (At (w.heap.size) 0 (.bool sb1) v3) := by rw [sv3]; exact uv3.2.1 0 _ rfl
  have b0_1 : Hid (At (w.heap.size) 1 (.slice sp1 sl1 sc1) v3) := by rw [sv3]; exact uv3.2.1 1 _ rfl
  have b0_2 : Hid (At (w.heap.size) 2 (.slice tp1 tl1 tc1) v3) := by rw [sv3]; exact uv3.2.1 2 _ rfl
  have k0 : Hid (Bx 3 (w.heap.size) v3) := by rw [sv3]; exact uv3.1
  rw [← hv3]
  clear hv3 sv3 uv3
  refine (pow_bad (Limbs.inN (k := k) (e1.gr y3).mag (InR.len ha).1) (by have h1 := HK.out; omega) _ 1 (.inl ⟨HN.out, rfl⟩)).mono ?_
  rintro e w4 ⟨sv2, rfl, o2, x4⟩
  have e4_ : Ext w w4 := Ext.trans e3_ x4
  obtain ⟨sp2, sl2, sc2, rfl⟩ := o2.slice'
  clear g0_0 g0_1 g0_2 z0_0 z0_1 z0_2 f0
  have g1_0 := ((t3.out _ _ _ (by (try dsimp only); omega) (b1_0.out.ext x2)).ext x4).1
  have g1_1 := ((t3.out _ _ _ (by (try dsimp only); omega) (b1_1.out.ext x2)).ext x4).1
  have g1_2 := ((t3.out _ _ _ (by (try dsimp only); omega) (b1_2.out.ext x2)).ext x4).1
  have z1_0 := (k1.out.gr (x2.gr.trans (y3.trans x4.gr))).free 0
  have z1_1 := (k1.out.gr (x2.gr.trans (y3.trans x4.gr))).free 1
  have z1_2 := (k1.out.gr (x2.gr.trans (y3.trans x4.gr))).free 2
  have f1 : w.heap.size + 1 < w4.heap.size := ((t3.out _ _ _ (by (try dsimp only); omega) (b1_0.out.ext x2)).ext x4).2
  go_wp2_with fail
  obtain ⟨v5, hv5⟩ : ∃ W, W = (((w4.setCell ⟨w.heap.size + 1, 0, none⟩ (.bool false)).setCell ⟨w.heap.size + 1, 1, none⟩ (.slice none 0 0)).setCell ⟨w.heap.size + 1, 2, none⟩ (.slice none 0 0)) := ⟨_, rfl⟩
  have sv5 : v5 = setRow (w.heap.size + 1) 0 [.bool false, .slice none 0 0, .slice none 0 0] w4 := hv5
  have uv5 := setRow_bx' (o := 0) (cs := [.bool false, .slice none 0 0, .slice none 0 0]) (k1.out.gr (x2.gr.trans (y3.trans x4.gr))) (by simp) noI_s3
  have y5 : Gr w4 v5 := by rw [sv5]; exact setRow_gr' (o := 0) (cs := [.bool false, .slice none 0 0, .slice none 0 0]) (k1.out.gr (x2.gr.trans (y3.trans x4.gr))) (by simp) noI_s3
  have t5 : Hid (∀ t o u, t ≠ (w.heap.size + 1) → At t o u w4 → At t o u v5) := fun t o u h k => by rw [sv5]; exact k.setRow h _ _
  have e5_ : Ext w v5 := by rw [sv5]; exact setRow_below _ _ (by omega) _ _ e4_
  have b1_0 : Hid (At (w.heap.size + 1) 0 (.bool false) v5) := by rw [sv5]; exact uv5.2.1 0 _ rfl
  have b1_1 : Hid (At (w.heap.size + 1) 1 (.slice none 0 0) v5) := by rw [sv5]; exact uv5.2.1 1 _ rfl
  have b1_2 : Hid (At (w.heap.size + 1) 2 (.slice none 0 0) v5) := by rw [sv5]; exact uv5.2.1 2 _ rfl
  have k1 : Hid (Bx 3 (w.heap.size + 1) v5) := by rw [sv5]; exact uv5.1
  rw [← hv5]
  clear hv5 sv5 uv5
  have c0 := b1_0.out.1
  have c1 := b1_1.out.1
  have c2 := b1_2.out.1
  refine bodyPost_ret (v := .tuple #[.agg #[.bool false, .slice none 0 0, .slice none 0 0], .int .i64 1]) (by simp [results, Tryz.results41, go_sem, c0, c1, c2]) rfl ?_
  exact ⟨rfl, e5_⟩

set_option maxHeartbeats 4000000 in
set_option maxRecDepth 100000 in
theorem rpow_long {w : World} {ba : Bool} {va ua : Value} {k : Nat} {a : Rat} (ha : InR w ba va ua k a) (hk : k ≤ 30000) (n : Int) (hn : 1 ≤ bl a.num.natAbs ∧ 0 ≤ n ∧ n ≤ 1048576 ∧ 1048576 / (bl a.num.natAbs : Int) + 1 ≤ n) :
    Calls Tryz.prog 41 #[.agg #[.bool ba, va, ua], .int .i64 n] w (RetRE w 5) := by
  obtain ⟨pa, qa, ra, pa', qa', ra', rfl, rfl⟩ := ha.slice
  have HK := Lib.hid hk
  have HN := Lib.hid hn
  have LA := Lib.hid ha.len
  clear hk hn
  go_enter Tryz.func41, Tryz.ntmps41
  go_wp2_with fail
  obtain ⟨v1, hv1⟩ : ∃ W, W = ((w.alloc (.cells #[.bool ba, .slice pa qa ra, .slice pa' qa' ra'] 36)).alloc (.cells #[.bool false, .slice none 0 0, .slice none 0 0] 36)) := ⟨_, rfl⟩
  have y1 : Ext w v1 := by rw [hv1]; exact (((Ext.refl _).alloc _).alloc _)
  have b0_0 : Hid (At (w.heap.size) 0 (.bool ba) v1) := by rw [hv1]; exact At.ext (At.n0 (by rfl)) ((Ext.refl _).alloc _)
  have b0_1 : Hid (At (w.heap.size) 1 (.slice pa qa ra) v1) := by rw [hv1]; exact At.ext (At.n0 (by rfl)) ((Ext.refl _).alloc _)
  have b0_2 : Hid (At (w.heap.size) 2 (.slice pa' qa' ra') v1) := by rw [hv1]; exact At.ext (At.n0 (by rfl)) ((Ext.refl _).alloc _)
  have k0 : Hid (Bx 3 (w.heap.size) v1) := by rw [hv1]; exact Bx.gr (Bx.n0 3 ⟨rfl, by decide⟩ (by decide) noI_s3) (Ext.gr ((Ext.refl _).alloc _))
  have u0 : Hid (w.heap.size < v1.heap.size) := b0_0.out.2
  have b1_0 : Hid (At (w.heap.size + 1) 0 (.bool false) v1) := by rw [hv1]; exact At.ext (At.n1 (by rfl)) (Ext.refl _)
  have b1_1 : Hid (At (w.heap.size + 1) 1 (.slice none 0 0) v1) := by rw [hv1]; exact At.ext (At.n1 (by rfl)) (Ext.refl _)
  have b1_2 : Hid (At (w.heap.size + 1) 2 (.slice none 0 0) v1) := by rw [hv1]; exact At.ext (At.n1 (by rfl)) (Ext.refl _)
  have k1 : Hid (Bx 3 (w.heap.size + 1) v1) := by rw [hv1]; exact Bx.gr (Bx.n1 3 ⟨rfl, by decide⟩ (by decide) noI_s3) (Ext.gr (Ext.refl _))
  have u1 : Hid (w.heap.size + 1 < v1.heap.size) := b1_0.out.2
  have e1_ : Ext w v1 := y1
  rw [← hv1]
  clear hv1
  refine (rcount_is (ha.ext y1) (by have h1 := HK.out; omega)).mono ?_
  rintro e w2 ⟨sb1, sv1, su1, sm1, sd1, rfl, e1, o1, x2⟩
  have e2_ : Ext w w2 := Ext.trans e1_ x2
  obtain ⟨sp1, sl1, sc1, tp1, tl1, tc1, rfl, rfl⟩ := e1.slice
  have g0_0 := (b0_0.out.ext x2).1
  have g0_1 := (b0_1.out.ext x2).1
  have g0_2 := (b0_2.out.ext x2).1
  have z0_0 := (k0.out.gr x2.gr).free 0
  have z0_1 := (k0.out.gr x2.gr).free 1
  have z0_2 := (k0.out.gr x2.gr).free 2
  have f0 : w.heap.size < w2.heap.size := (b0_0.out.ext x2).2
  go_wp2_with fail
  obtain ⟨v3, hv3⟩ : ∃ W, W = (((w2.setCell ⟨w.heap.size, 0, none⟩ (.bool sb1)).setCell ⟨w.heap.size, 1, none⟩ (.slice sp1 sl1 sc1)).setCell ⟨w.heap.size, 2, none⟩ (.slice tp1 tl1 tc1)) := ⟨_, rfl⟩
  have sv3 : v3 = setRow (w.heap.size) 0 [.bool sb1, .slice sp1 sl1 sc1, .slice tp1 tl1 tc1] w2 := hv3
  have uv3 := setRow_bx' (o := 0) (cs := [.bool sb1, .slice sp1 sl1 sc1, .slice tp1 tl1 tc1]) (k0.out.gr x2.gr) (by simp) noI_s3
  have y3 : Gr w2 v3 := by rw [sv3]; exact setRow_gr' (o := 0) (cs := [.bool sb1, .slice sp1 sl1 sc1, .slice tp1 tl1 tc1]) (k0.out.gr x2.gr) (by simp) noI_s3
  have t3 : Hid (∀ t o u, t ≠ (w.heap.size) → At t o u w2 → At t o u v3) := fun t o u h k => by rw [sv3]; exact k.setRow h _ _
  have e3_ : Ext w v3 := by rw [sv3]; exact setRow_below _ _ (by omega) _ _ e2_
  have b0_0 : Hid (At (w.heap.size) 0 (.bool sb1) v3) := by rw [sv3]; exact uv3.2.1 0 _ rfl
  have b0_1 : Hid (At (w.heap.size) 1 (.slice sp1 sl1 sc1) v3) := by rw [sv3]; exact uv3.2.1 1 _ rfl
  have b0_2 : Hid (At (w.heap.size) 2 (.slice tp1 tl1 tc1) v3) := by rw [sv3]; exact uv3.2.1 2 _ rfl
  have k0 : Hid (Bx 3 (w.heap.size) v3) := by rw [sv3]; exact uv3.1
  rw [← hv3]
  clear hv3 sv3 uv3
  refine (pow_bad (Limbs.inN (k := k) (e1.gr y3).mag (InR.len ha).1) (by have h1 := HK.out; omega) _ 5 (.inr ⟨HN.out.1, HN.out.2.1, HN.out.2.2.1, HN.out.2.2.2, rfl⟩)).mono ?_
  rintro e w4 ⟨sv2, rfl, o2, x4⟩
  have e4_ : Ext w w4 := Ext.trans e3_ x4
  obtain ⟨sp2, sl2, sc2, rfl⟩ := o2.slice'
  clear g0_0 g0_1 g0_2 z0_0 z0_1 z0_2 f0
  have g1_0 := ((t3.out _ _ _ (by (try dsimp only); omega) (b1_0.out.ext x2)).ext x4).1
  have g1_1 := ((t3.out _ _ _ (by (try dsimp only); omega) (b1_1.out.ext x2)).ext x4).1
  have g1_2 := ((t3.out _ _ _ (by (try dsimp only); omega) (b1_2.out.ext x2)).ext x4).1
  have z1_0 := (k1.out.gr (x2.gr.trans (y3.trans x4.gr))).free 0
  have z1_1 := (k1.out.gr (x2.gr.trans (y3.trans x4.gr))).free 1
  have z1_2 := (k1.out.gr (x2.gr.trans (y3.trans x4.gr))).free 2
  have f1 : w.heap.size + 1 < w4.heap.size := ((t3.out _ _ _ (by (try dsimp only); omega) (b1_0.out.ext x2)).ext x4).2
  go_wp2_with fail
  obtain ⟨v5, hv5⟩ : ∃ W, W = (((w4.setCell ⟨w.heap.size + 1, 0, none⟩ (.bool false)).setCell ⟨w.heap.size + 1, 1, none⟩ (.slice none 0 0)).setCell ⟨w.heap.size + 1, 2, none⟩ (.slice none 0 0)) := ⟨_, rfl⟩
  have sv5 : v5 = setRow (w.heap.size + 1) 0 [.bool false, .slice none 0 0, .slice none 0 0] w4 := hv5
  have uv5 := setRow_bx' (o := 0) (cs := [.bool false, .slice none 0 0, .slice none 0 0]) (k1.out.gr (x2.gr.trans (y3.trans x4.gr))) (by simp) noI_s3
  have y5 : Gr w4 v5 := by rw [sv5]; exact setRow_gr' (o := 0) (cs := [.bool false, .slice none 0 0, .slice none 0 0]) (k1.out.gr (x2.gr.trans (y3.trans x4.gr))) (by simp) noI_s3
  have t5 : Hid (∀ t o u, t ≠ (w.heap.size + 1) → At t o u w4 → At t o u v5) := fun t o u h k => by rw [sv5]; exact k.setRow h _ _
  have e5_ : Ext w v5 := by rw [sv5]; exact setRow_below _ _ (by omega) _ _ e4_
  have b1_0 : Hid (At (w.heap.size + 1) 0 (.bool false) v5) := by rw [sv5]; exact uv5.2.1 0 _ rfl
  have b1_1 : Hid (At (w.heap.size + 1) 1 (.slice none 0 0) v5) := by rw [sv5]; exact uv5.2.1 1 _ rfl
  have b1_2 : Hid (At (w.heap.size + 1) 2 (.slice none 0 0) v5) := by rw [sv5]; exact uv5.2.1 2 _ rfl
  have k1 : Hid (Bx 3 (w.heap.size + 1) v5) := by rw [sv5]; exact uv5.1
  rw [← hv5]
  clear hv5 sv5 uv5
  have c0 := b1_0.out.1
  have c1 := b1_1.out.1
  have c2 := b1_2.out.1
  refine bodyPost_ret (v := .tuple #[.agg #[.bool false, .slice none 0 0, .slice none 0 0], .int .i64 5]) (by simp [results, Tryz.results41, go_sem, c0, c1, c2]) rfl ?_
  exact ⟨rfl, e5_⟩

end Go.Proofs.YtaklejkdmfgplaaGreatDoor
