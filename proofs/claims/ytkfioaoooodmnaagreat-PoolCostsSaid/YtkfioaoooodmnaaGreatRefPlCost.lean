/- The contract of tombolaref13.Cost. -/
import Derived.Test.YtkfioaoooodmnaaGreatRefCost
import Derived.Test.YtkfioaoooodmnaaGreatRefPool
namespace Go.Proofs.YtkfioaoooodmnaaGreat
open Go Go.RowKit

set_option maxHeartbeats 8000000 in
set_option maxRecDepth 100000 in
theorem rplcost_is (w : World) (k n : Nat) (hkn : k ≤ n) (hn : n ≤ 64) (j : Nat) (hj : n - k = j) : Calls Tryz.prog 6 #[.int .i64 (k : Int), .int .i64 (n : Int)] w (RetR0 w (costTo k j)) := by
  have t1 : (n : Int) ≤ 64 := by omega
  have t0 : (k : Int) ≤ 64 := by omega
  have HN := Lib.hid hn
  have HJ : Hid (k + j = n) := by show _ = _; omega
  have MAY : Hid (decide (mayP (k : Int) (n : Int)) = true) := by show _ = _; rw [decide_eq_true_eq]; unfold mayP; omega
  clear hn hkn hj
  go_enter Tryz.func6, Tryz.ntmps6
  go_wp2_with fail
  obtain ⟨v1, hv1⟩ : ∃ W, W = (w.alloc (.cells #[.bool false, .slice none 0 0, .slice none 0 0] 27)) := ⟨_, rfl⟩
  have y1 : Ext w v1 := by rw [hv1]; exact ((Ext.refl _).alloc _)
  have b0_0 : Hid (At (w.heap.size) 0 (.bool false) v1) := by rw [hv1]; exact At.ext (At.n0 (by rfl)) (Ext.refl _)
  have b0_1 : Hid (At (w.heap.size) 1 (.slice none 0 0) v1) := by rw [hv1]; exact At.ext (At.n0 (by rfl)) (Ext.refl _)
  have b0_2 : Hid (At (w.heap.size) 2 (.slice none 0 0) v1) := by rw [hv1]; exact At.ext (At.n0 (by rfl)) (Ext.refl _)
  have k0 : Hid (Bx 3 (w.heap.size) v1) := by rw [hv1]; exact Bx.gr (Bx.n0 3 ⟨rfl, by decide⟩ (by decide) noI_s3) (Ext.gr (Ext.refl _))
  have u0 : Hid (w.heap.size < v1.heap.size) := b0_0.out.2
  have e1_ : Ext w v1 := y1
  rw [← hv1]
  clear hv1
  refine (rmay13_calls _ (k : Int) (n : Int) true MAY.out).mono ?_
  rintro e w2 ⟨rfl, x2⟩
  have e2_ : Ext w w2 := Ext.trans e1_ x2
  go_wp2_with fail
  refine (of06_is _ 0 (by decide) (by decide)).mono ?_
  rintro e w3 ⟨sb2, sv2, su2, sm2, sd2, rfl, e2, o2, x3⟩
  have e3_ : Ext w w3 := Ext.trans e2_ x3
  obtain ⟨sp2, sl2, sc2, tp2, tl2, tc2, rfl, rfl⟩ := e2.slice
  go_wp2_with fail
  obtain ⟨v4, hv4⟩ : ∃ W, W = (w3.alloc (.cells #[.bool sb2, .slice sp2 sl2 sc2, .slice tp2 tl2 tc2] 27)) := ⟨_, rfl⟩
  have y4 : Ext w3 v4 := by rw [hv4]; exact ((Ext.refl _).alloc _)
  have b1_0 : Hid (At (w3.heap.size) 0 (.bool sb2) v4) := by rw [hv4]; exact At.ext (At.n0 (by rfl)) (Ext.refl _)
  have b1_1 : Hid (At (w3.heap.size) 1 (.slice sp2 sl2 sc2) v4) := by rw [hv4]; exact At.ext (At.n0 (by rfl)) (Ext.refl _)
  have b1_2 : Hid (At (w3.heap.size) 2 (.slice tp2 tl2 tc2) v4) := by rw [hv4]; exact At.ext (At.n0 (by rfl)) (Ext.refl _)
  have k1 : Hid (Bx 3 (w3.heap.size) v4) := by rw [hv4]; exact Bx.gr (Bx.n0 3 ⟨rfl, by decide⟩ (by decide) noI_s3) (Ext.gr (Ext.refl _))
  have u1 : Hid (w3.heap.size < v4.heap.size) := b1_0.out.2
  have e4_ : Ext w v4 := Ext.trans e3_ y4
  rw [← hv4]
  clear hv4
  have NE := Lib.hid (show (w.heap.size) ≠ (w3.heap.size) from (by (try dsimp only); have h1 := u0.out; have h2 := (x2.gr.trans x3.gr).size; have h3 := Nat.le_refl 0; omega))
  have LB2 := Lib.hid (show w.heap.size ≤ (w.heap.size) from (by omega))
  have LB4 := Lib.hid (show w.heap.size ≤ (w3.heap.size) from (by have := e3_.size; omega))
  have P0 : Hid (PlMem w (w.heap.size) (w3.heap.size) (costTo k 0) v4) := ⟨e4_, (b0_0.out.ext (x2.trans (x3.trans y4))), (b0_1.out.ext (x2.trans (x3.trans y4))), (b0_2.out.ext (x2.trans (x3.trans y4))), (k0.out.gr (x2.gr.trans (x3.gr.trans y4.gr))), BoxP.mk b1_0.out b1_1.out b1_2.out k1.out (show IsR _ _ _ _ _ _ (costTo k 0) from (e2.ext y4)) ((o2.ext y4).mono e2_.size)⟩
  obtain ⟨s6, hs6⟩ : ∃ s6, (w3.heap.size) = s6 := ⟨_, rfl⟩
  rw [hs6] at NE LB4 P0
  (try rw [hs6])
  clear hs6
  go_loopw [7] (fun v7 wr => ∃ i : Nat, v7 = .int .i64 ((k + i : Nat) : Int) ∧ i ≤ j ∧ PlMem w (w.heap.size) s6 (costTo k i) wr) (fun v7 _ => n + 1 - (intOf v7).toNat)
  case atStart => exact ⟨0, rfl, Nat.zero_le _, P0.out⟩
  case round =>
    obtain ⟨i, rfl, hin, hP⟩ := hrel
    obtain ⟨hx, h0, h1, h2, hz, qb, qp, qn, qc, qp', qn', qc', qm, qd, c0, c1, c2, cb, cr, co⟩ := hP
    have XX := Lib.hid hx
    have b100_0 := Lib.hid h0
    have b100_1 := Lib.hid h1
    have b100_2 := Lib.hid h2
    have k100 := Lib.hid hz
    have u100 := Lib.hid hz.lt
    have b102_0 := Lib.hid c0
    have b102_1 := Lib.hid c1
    have b102_2 := Lib.hid c2
    have k102 := Lib.hid cb
    have u102 := Lib.hid cb.lt
    have QR := Lib.hid cr
    have QO := Lib.hid co
    clear hx h0 h1 h2 hz c0 c1 c2 cb cr co
    obtain ⟨d, hd⟩ : ∃ d, k + i = d := ⟨_, rfl⟩
    have HD := Lib.hid hd
    have hji := HJ.out
    have hn64 := HN.out
    by_cases hni : i < j
    · obtain ⟨m, hm⟩ : ∃ m, d + 1 = m := ⟨_, rfl⟩
      have HM := Lib.hid hm
      have t2 : (d : Int) + 1 ≤ n := by omega
      have MB : Hid (m < Bs) := by show m < Bs; rw [Bs_def]; omega
      have M1 : Hid (1 ≤ m) := by show 1 ≤ m; omega
      have PL : Hid (k + i < Bs) := by show k + i < Bs; rw [Bs_def]; omega
      have K1 : Hid (3 * i + 1 + 2 ≤ 490) := by show _ ≤ 490; omega
      have LT : Hid (i + 1 ≤ j) := hni
      have MN : Hid (d < n) := by show d < n; omega
      have hwm : IntKind.i64.wrap ((d : Int) + 1) = (m : Int) := by rw [IntWalk.i64_in _ (by omega)]; omega
      have hm64 : (m : Int) ≤ 64 := by omega
      have hmk : m = k + (i + 1) := by omega
      have HMK := Lib.hid hmk
      rw [hd]
      clear hin hm hni hji hn64 hd hmk
      go_wp2_with fail
      refine (rcost9_is m MB.out M1.out).mono ?_
      rintro e w1 ⟨sb1, sv1, su1, sm1, sd1, rfl, e1, o1, x1⟩
      have e1_ : Ext w w1 := Ext.trans XX.out x1
      obtain ⟨sp1, sl1, sc1, tp1, tl1, tc1, rfl, rfl⟩ := e1.slice
      have g102_0 := (b102_0.out.ext x1).1
      have g102_1 := (b102_1.out.ext x1).1
      have g102_2 := (b102_2.out.ext x1).1
      have f102 : s6 < w1.heap.size := (b102_0.out.ext x1).2
      have ff102 : s6 < w1.heap.size + 1 := Nat.lt_succ_of_lt f102
      go_wp2_with fail
      obtain ⟨v2, hv2⟩ : ∃ W, W = (w1.alloc (.cells #[.bool sb1, .slice sp1 sl1 sc1, .slice tp1 tl1 tc1] 27)) := ⟨_, rfl⟩
      have y2 : Ext w1 v2 := by rw [hv2]; exact ((Ext.refl _).alloc _)
      have b0_0 : Hid (At (w1.heap.size) 0 (.bool sb1) v2) := by rw [hv2]; exact At.ext (At.n0 (by rfl)) (Ext.refl _)
      have b0_1 : Hid (At (w1.heap.size) 1 (.slice sp1 sl1 sc1) v2) := by rw [hv2]; exact At.ext (At.n0 (by rfl)) (Ext.refl _)
      have b0_2 : Hid (At (w1.heap.size) 2 (.slice tp1 tl1 tc1) v2) := by rw [hv2]; exact At.ext (At.n0 (by rfl)) (Ext.refl _)
      have k0 : Hid (Bx 3 (w1.heap.size) v2) := by rw [hv2]; exact Bx.gr (Bx.n0 3 ⟨rfl, by decide⟩ (by decide) noI_s3) (Ext.gr (Ext.refl _))
      have u0 : Hid (w1.heap.size < v2.heap.size) := b0_0.out.2
      have e2_ : Ext w v2 := Ext.trans e1_ y2
      rw [← hv2]
      clear hv2
      refine (add06_is ((QR.out.ext (x1.trans y2)).inR (k := (3 * i + 1)) (costTo_len k PL.out)) ((e1.ext y2).inR (k := 2) (costQ_len MB.out)) K1.out).mono ?_
      rintro e w3 ⟨sb2, sv2, su2, sm2, sd2, rfl, e2, o2, x3⟩
      have e3_ : Ext w w3 := Ext.trans e2_ x3
      obtain ⟨sp2, sl2, sc2, tp2, tl2, tc2, rfl, rfl⟩ := e2.slice
      clear g102_0 g102_1 g102_2 f102 ff102
      have g102_0 := (b102_0.out.ext (x1.trans (y2.trans x3))).1
      have g102_1 := (b102_1.out.ext (x1.trans (y2.trans x3))).1
      have g102_2 := (b102_2.out.ext (x1.trans (y2.trans x3))).1
      have z102_0 := (k102.out.gr (x1.gr.trans (y2.gr.trans x3.gr))).free 0
      have z102_1 := (k102.out.gr (x1.gr.trans (y2.gr.trans x3.gr))).free 1
      have z102_2 := (k102.out.gr (x1.gr.trans (y2.gr.trans x3.gr))).free 2
      have f102 : s6 < w3.heap.size := (b102_0.out.ext (x1.trans (y2.trans x3))).2
      have ff102 : s6 < w3.heap.size + 1 := Nat.lt_succ_of_lt f102
      go_wp2_with fail
      obtain ⟨v4, hv4⟩ : ∃ W, W = (((w3.setCell ⟨s6, 0, none⟩ (.bool sb2)).setCell ⟨s6, 1, none⟩ (.slice sp2 sl2 sc2)).setCell ⟨s6, 2, none⟩ (.slice tp2 tl2 tc2)) := ⟨_, rfl⟩
      have sv4 : v4 = setRow (s6) 0 [.bool sb2, .slice sp2 sl2 sc2, .slice tp2 tl2 tc2] w3 := hv4
      have uv4 := setRow_bx' (o := 0) (cs := [.bool sb2, .slice sp2 sl2 sc2, .slice tp2 tl2 tc2]) (k102.out.gr (x1.gr.trans (y2.gr.trans x3.gr))) (by simp) noI_s3
      have y4 : Gr w3 v4 := by rw [sv4]; exact setRow_gr' (o := 0) (cs := [.bool sb2, .slice sp2 sl2 sc2, .slice tp2 tl2 tc2]) (k102.out.gr (x1.gr.trans (y2.gr.trans x3.gr))) (by simp) noI_s3
      have t4 : Hid (∀ t o u, t ≠ (s6) → At t o u w3 → At t o u v4) := fun t o u h k => by rw [sv4]; exact k.setRow h _ _
      have e4_ : Ext w v4 := by rw [sv4]; exact setRow_below _ _ LB4.out _ _ e3_
      have b102_0 : Hid (At (s6) 0 (.bool sb2) v4) := by rw [sv4]; exact uv4.2.1 0 _ rfl
      have b102_1 : Hid (At (s6) 1 (.slice sp2 sl2 sc2) v4) := by rw [sv4]; exact uv4.2.1 1 _ rfl
      have b102_2 : Hid (At (s6) 2 (.slice tp2 tl2 tc2) v4) := by rw [sv4]; exact uv4.2.1 2 _ rfl
      have k102 : Hid (Bx 3 (s6) v4) := by rw [sv4]; exact uv4.1
      rw [← hv4]
      clear hv4 sv4 uv4
      refine ⟨⟨i + 1, by first | rfl | (rw [← HMK.out]) | go_num, LT.out, ⟨e4_, (t4.out _ _ _ NE.out (b100_0.out.ext (x1.trans (y2.trans x3)))), (t4.out _ _ _ NE.out (b100_1.out.ext (x1.trans (y2.trans x3)))), (t4.out _ _ _ NE.out (b100_2.out.ext (x1.trans (y2.trans x3)))), (k100.out.gr (x1.gr.trans (y2.gr.trans (x3.gr.trans y4)))), ?_⟩⟩, by simp [intOf]; have := HM.out; have := MN.out; omega⟩
      have hq : costTo k (i + 1) = costTo k i + costQ m := by rw [costTo, show k + i + 1 = m by have := HMK.out; omega]
      rw [hq]
      exact BoxP.mk b102_0.out b102_1.out b102_2.out k102.out (e2.gr y4) ((o2.gr y4).mono e2_.size)
    · obtain rfl : j = i := by omega
      have t2 : (n : Int) ≤ d := by omega
      rw [hd]
      clear hin hni hji hn64 hd
      have g102_0 := b102_0.out.1
      have g102_1 := b102_1.out.1
      have g102_2 := b102_2.out.1
      have g100_0 := b100_0.out.1
      have g100_1 := b100_1.out.1
      have g100_2 := b100_2.out.1
      have z100_0 := k100.out.free 0
      have z100_1 := k100.out.free 1
      have z100_2 := k100.out.free 2
      have f102 : s6 < wr.heap.size := b102_0.out.2
      have f100 : w.heap.size < wr.heap.size := b100_0.out.2
      have n100_102 : w.heap.size ≠ s6 := NE.out
      have n102_100 : s6 ≠ w.heap.size := Ne.symm n100_102
      have ff102 : s6 < wr.heap.size + 1 := Nat.lt_succ_of_lt f102
      have ff100 : w.heap.size < wr.heap.size + 1 := Nat.lt_succ_of_lt f100
      go_wp2_with fail
      obtain ⟨v1, hv1⟩ : ∃ W, W = (((wr.setCell ⟨w.heap.size, 0, none⟩ (.bool qb)).setCell ⟨w.heap.size, 1, none⟩ (.slice qp qn qc)).setCell ⟨w.heap.size, 2, none⟩ (.slice qp' qn' qc')) := ⟨_, rfl⟩
      have sv1 : v1 = setRow (w.heap.size) 0 [.bool qb, .slice qp qn qc, .slice qp' qn' qc'] wr := hv1
      have uv1 := setRow_bx' (o := 0) (cs := [.bool qb, .slice qp qn qc, .slice qp' qn' qc']) k100.out (by simp) noI_s3
      have y1 : Gr wr v1 := by rw [sv1]; exact setRow_gr' (o := 0) (cs := [.bool qb, .slice qp qn qc, .slice qp' qn' qc']) k100.out (by simp) noI_s3
      have t1 : Hid (∀ t o u, t ≠ (w.heap.size) → At t o u wr → At t o u v1) := fun t o u h k => by rw [sv1]; exact k.setRow h _ _
      have e1_ : Ext w v1 := by rw [sv1]; exact setRow_below _ _ LB2.out _ _ XX.out
      have b100_0 : Hid (At (w.heap.size) 0 (.bool qb) v1) := by rw [sv1]; exact uv1.2.1 0 _ rfl
      have b100_1 : Hid (At (w.heap.size) 1 (.slice qp qn qc) v1) := by rw [sv1]; exact uv1.2.1 1 _ rfl
      have b100_2 : Hid (At (w.heap.size) 2 (.slice qp' qn' qc') v1) := by rw [sv1]; exact uv1.2.1 2 _ rfl
      have k100 : Hid (Bx 3 (w.heap.size) v1) := by rw [sv1]; exact uv1.1
      rw [← hv1]
      clear hv1 sv1 uv1
      have c0 := b100_0.out.1
      have c1 := b100_1.out.1
      have c2 := b100_2.out.1
      refine bodyPost_ret (v := .tuple #[.agg #[.bool qb, .slice qp qn qc, .slice qp' qn' qc'], .int .i64 0]) (by simp [results, Tryz.results6, go_sem, c0, c1, c2]) rfl ?_
      exact ⟨_, _, _, _, _, rfl, (QR.out.gr y1), ((QO.out.gr y1)), e1_⟩

set_option maxHeartbeats 8000000 in
set_option maxRecDepth 100000 in
theorem rplcost_bad (w : World) (k n : Int) (hn : ¬ mayP k n) : Calls Tryz.prog 6 #[.int .i64 k, .int .i64 n] w (RetRE w 1) := by
  have MAY : Hid (decide (mayP k n) = false) := by show _ = _; rw [decide_eq_false_iff_not]; exact hn
  clear hn
  go_enter Tryz.func6, Tryz.ntmps6
  go_wp2_with fail
  obtain ⟨v1, hv1⟩ : ∃ W, W = (w.alloc (.cells #[.bool false, .slice none 0 0, .slice none 0 0] 27)) := ⟨_, rfl⟩
  have y1 : Ext w v1 := by rw [hv1]; exact ((Ext.refl _).alloc _)
  have b0_0 : Hid (At (w.heap.size) 0 (.bool false) v1) := by rw [hv1]; exact At.ext (At.n0 (by rfl)) (Ext.refl _)
  have b0_1 : Hid (At (w.heap.size) 1 (.slice none 0 0) v1) := by rw [hv1]; exact At.ext (At.n0 (by rfl)) (Ext.refl _)
  have b0_2 : Hid (At (w.heap.size) 2 (.slice none 0 0) v1) := by rw [hv1]; exact At.ext (At.n0 (by rfl)) (Ext.refl _)
  have k0 : Hid (Bx 3 (w.heap.size) v1) := by rw [hv1]; exact Bx.gr (Bx.n0 3 ⟨rfl, by decide⟩ (by decide) noI_s3) (Ext.gr (Ext.refl _))
  have u0 : Hid (w.heap.size < v1.heap.size) := b0_0.out.2
  have e1_ : Ext w v1 := y1
  rw [← hv1]
  clear hv1
  refine (rmay13_calls _ k n false MAY.out).mono ?_
  rintro e w2 ⟨rfl, x2⟩
  have e2_ : Ext w w2 := Ext.trans e1_ x2
  have g0_0 := (b0_0.out.ext x2).1
  have g0_1 := (b0_1.out.ext x2).1
  have g0_2 := (b0_2.out.ext x2).1
  have z0_0 := (k0.out.gr x2.gr).free 0
  have z0_1 := (k0.out.gr x2.gr).free 1
  have z0_2 := (k0.out.gr x2.gr).free 2
  have f0 : w.heap.size < w2.heap.size := (b0_0.out.ext x2).2
  have ff0 : w.heap.size < w2.heap.size + 1 := Nat.lt_succ_of_lt f0
  go_wp2_with fail
  obtain ⟨v3, hv3⟩ : ∃ W, W = (((w2.setCell ⟨w.heap.size, 0, none⟩ (.bool false)).setCell ⟨w.heap.size, 1, none⟩ (.slice none 0 0)).setCell ⟨w.heap.size, 2, none⟩ (.slice none 0 0)) := ⟨_, rfl⟩
  have sv3 : v3 = setRow (w.heap.size) 0 [.bool false, .slice none 0 0, .slice none 0 0] w2 := hv3
  have uv3 := setRow_bx' (o := 0) (cs := [.bool false, .slice none 0 0, .slice none 0 0]) (k0.out.gr x2.gr) (by simp) noI_s3
  have y3 : Gr w2 v3 := by rw [sv3]; exact setRow_gr' (o := 0) (cs := [.bool false, .slice none 0 0, .slice none 0 0]) (k0.out.gr x2.gr) (by simp) noI_s3
  have t3 : Hid (∀ t o u, t ≠ (w.heap.size) → At t o u w2 → At t o u v3) := fun t o u h k => by rw [sv3]; exact k.setRow h _ _
  have e3_ : Ext w v3 := by rw [sv3]; exact setRow_below _ _ (by omega) _ _ e2_
  have b0_0 : Hid (At (w.heap.size) 0 (.bool false) v3) := by rw [sv3]; exact uv3.2.1 0 _ rfl
  have b0_1 : Hid (At (w.heap.size) 1 (.slice none 0 0) v3) := by rw [sv3]; exact uv3.2.1 1 _ rfl
  have b0_2 : Hid (At (w.heap.size) 2 (.slice none 0 0) v3) := by rw [sv3]; exact uv3.2.1 2 _ rfl
  have k0 : Hid (Bx 3 (w.heap.size) v3) := by rw [sv3]; exact uv3.1
  rw [← hv3]
  clear hv3 sv3 uv3
  have c0 := b0_0.out.1
  have c1 := b0_1.out.1
  have c2 := b0_2.out.1
  refine bodyPost_ret (v := .tuple #[.agg #[.bool false, .slice none 0 0, .slice none 0 0], .int .i64 1]) (by simp [results, Tryz.results6, go_sem, c0, c1, c2]) rfl ?_
  exact ⟨rfl, e3_⟩
end Go.Proofs.YtkfioaoooodmnaaGreat
