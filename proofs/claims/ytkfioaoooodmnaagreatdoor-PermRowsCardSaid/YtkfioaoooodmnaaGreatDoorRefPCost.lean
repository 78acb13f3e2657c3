/- The contract of tombolaref12.Cost. -/
import Derived.Test.YtkfioaoooodmnaaGreatDoorRefCost
import Derived.Test.YtkfioaoooodmnaaGreatDoorPartI
namespace Go.Proofs.YtkfioaoooodmnaaGreatDoor
open Go Go.RowKit

set_option maxHeartbeats 8000000 in
set_option maxRecDepth 100000 in
theorem rpcost_is (w : World) (n : Nat) (hn : n ≤ 64) : Calls Tryz.prog 40 #[.int .i64 (n : Int)] w (RetR0 w (pcostQ n)) := by
  have t1 : (n : Int) ≤ 64 := by omega
  have HN := Lib.hid hn
  clear hn
  go_enter Tryz.func40, Tryz.ntmps40
  go_wp2_with fail
  obtain ⟨v1, hv1⟩ : ∃ W, W = (w.alloc (.cells #[.bool false, .slice none 0 0, .slice none 0 0] 37)) := ⟨_, rfl⟩
  have y1 : Ext w v1 := by rw [hv1]; exact ((Ext.refl _).alloc _)
  have b0_0 : Hid (At (w.heap.size) 0 (.bool false) v1) := by rw [hv1]; exact At.ext (At.n0 (by rfl)) (Ext.refl _)
  have b0_1 : Hid (At (w.heap.size) 1 (.slice none 0 0) v1) := by rw [hv1]; exact At.ext (At.n0 (by rfl)) (Ext.refl _)
  have b0_2 : Hid (At (w.heap.size) 2 (.slice none 0 0) v1) := by rw [hv1]; exact At.ext (At.n0 (by rfl)) (Ext.refl _)
  have k0 : Hid (Bx 3 (w.heap.size) v1) := by rw [hv1]; exact Bx.gr (Bx.n0 3 ⟨rfl, by decide⟩ (by decide) noI_s3) (Ext.gr (Ext.refl _))
  have u0 : Hid (w.heap.size < v1.heap.size) := b0_0.out.2
  have e1_ : Ext w v1 := y1
  rw [← hv1]
  clear hv1
  refine (of06_is _ 0 (by decide) (by decide)).mono ?_
  rintro e w2 ⟨sb1, sv1, su1, sm1, sd1, rfl, e1, o1, x2⟩
  have e2_ : Ext w w2 := Ext.trans e1_ x2
  obtain ⟨sp1, sl1, sc1, tp1, tl1, tc1, rfl, rfl⟩ := e1.slice
  go_wp2_with fail
  obtain ⟨v3, hv3⟩ : ∃ W, W = (w2.alloc (.cells #[.bool sb1, .slice sp1 sl1 sc1, .slice tp1 tl1 tc1] 37)) := ⟨_, rfl⟩
  have y3 : Ext w2 v3 := by rw [hv3]; exact ((Ext.refl _).alloc _)
  have b1_0 : Hid (At (w2.heap.size) 0 (.bool sb1) v3) := by rw [hv3]; exact At.ext (At.n0 (by rfl)) (Ext.refl _)
  have b1_1 : Hid (At (w2.heap.size) 1 (.slice sp1 sl1 sc1) v3) := by rw [hv3]; exact At.ext (At.n0 (by rfl)) (Ext.refl _)
  have b1_2 : Hid (At (w2.heap.size) 2 (.slice tp1 tl1 tc1) v3) := by rw [hv3]; exact At.ext (At.n0 (by rfl)) (Ext.refl _)
  have k1 : Hid (Bx 3 (w2.heap.size) v3) := by rw [hv3]; exact Bx.gr (Bx.n0 3 ⟨rfl, by decide⟩ (by decide) noI_s3) (Ext.gr (Ext.refl _))
  have u1 : Hid (w2.heap.size < v3.heap.size) := b1_0.out.2
  have e3_ : Ext w v3 := Ext.trans e2_ y3
  rw [← hv3]
  clear hv3
  have NE := Lib.hid (show (w.heap.size) ≠ (w2.heap.size) from (by (try dsimp only); have h1 := u0.out; have h2 := x2.gr.size; have h3 := Nat.le_refl 0; omega))
  have LB2 := Lib.hid (show w.heap.size ≤ (w.heap.size) from (by omega))
  have LB4 := Lib.hid (show w.heap.size ≤ (w2.heap.size) from (by have := e2_.size; omega))
  have P0 : Hid (PcMem w (w.heap.size) (w2.heap.size) (pcostQ 1) v3) := ⟨e3_, (b0_0.out.ext (x2.trans y3)), (b0_1.out.ext (x2.trans y3)), (b0_2.out.ext (x2.trans y3)), (k0.out.gr (x2.gr.trans y3.gr)), BoxO.mk b1_0.out b1_1.out b1_2.out k1.out (show IsR _ _ _ _ _ _ (pcostQ 1) from (e1.ext y3)) ((o1.ext y3).mono e1_.size)⟩
  go_loopw [5] (fun v5 wr => ∃ i : Nat, v5 = .int .i64 (i : Int) ∧ 2 ≤ i ∧ (i ≤ n + 1 ∨ i = 2) ∧ PcMem w (w.heap.size) (w2.heap.size) (pcostQ (i - 1)) wr) (fun v5 _ => n + 1 - (intOf v5).toNat)
  case atStart => exact ⟨2, rfl, Nat.le_refl _, .inr rfl, P0.out⟩
  case round =>
    obtain ⟨i, rfl, hi2, hin, hP⟩ := hrel
    obtain ⟨hx, h0, h1, h2, hz, qb, qp, qn, qc, qp', qn', qc', qm, qd, c0, c1, c2, cb, cr, co⟩ := hP
    have XX := Lib.hid hx
    have b100_0 := Lib.hid h0
    have b100_1 := Lib.hid h1
    have b100_2 := Lib.hid h2
    have k100 := Lib.hid hz
    have u100 := Lib.hid hz.lt
    have b102_0 := Lib.hid c0
    have b102_1 := Lib.hid c1
    have b102_2 := Lib.hid c2
    have k102 := Lib.hid cb
    have u102 := Lib.hid cb.lt
    have QR := Lib.hid cr
    have QO := Lib.hid co
    clear hx h0 h1 h2 hz c0 c1 c2 cb cr co
    have HI2 := Lib.hid hi2
    by_cases hni : i ≤ n
    · have t2 : (i : Int) ≤ n := by omega
      have t3 : (2 : Int) ≤ i := by omega
      have MB : Hid (i < Bs) := by show i < Bs; rw [Bs_def]; omega
      have M1 : Hid (1 ≤ i) := by show 1 ≤ i; omega
      have PL : Hid (i - 1 < Bs) := by show i - 1 < Bs; rw [Bs_def]; omega
      have K1 : Hid (3 * (i - 1) + 1 + 2 ≤ 490) := by show _ ≤ 490; omega
      clear hin
      go_wp2_with fail
      refine (rcost9_is i MB.out M1.out).mono ?_
      rintro e w1 ⟨sb1, sv1, su1, sm1, sd1, rfl, e1, o1, x1⟩
      have e1_ : Ext w w1 := Ext.trans XX.out x1
      obtain ⟨sp1, sl1, sc1, tp1, tl1, tc1, rfl, rfl⟩ := e1.slice
      have g102_0 := (b102_0.out.ext x1).1
      have g102_1 := (b102_1.out.ext x1).1
      have g102_2 := (b102_2.out.ext x1).1
      have f102 : w2.heap.size < w1.heap.size := (b102_0.out.ext x1).2
      have ff102 : w2.heap.size < w1.heap.size + 1 := Nat.lt_succ_of_lt f102
      go_wp2_with fail
      obtain ⟨v2, hv2⟩ : ∃ W, W = (w1.alloc (.cells #[.bool sb1, .slice sp1 sl1 sc1, .slice tp1 tl1 tc1] 37)) := ⟨_, rfl⟩
      have y2 : Ext w1 v2 := by rw [hv2]; exact ((Ext.refl _).alloc _)
      have b0_0 : Hid (At (w1.heap.size) 0 (.bool sb1) v2) := by rw [hv2]; exact At.ext (At.n0 (by rfl)) (Ext.refl _)
      have b0_1 : Hid (At (w1.heap.size) 1 (.slice sp1 sl1 sc1) v2) := by rw [hv2]; exact At.ext (At.n0 (by rfl)) (Ext.refl _)
      have b0_2 : Hid (At (w1.heap.size) 2 (.slice tp1 tl1 tc1) v2) := by rw [hv2]; exact At.ext (At.n0 (by rfl)) (Ext.refl _)
      have k0 : Hid (Bx 3 (w1.heap.size) v2) := by rw [hv2]; exact Bx.gr (Bx.n0 3 ⟨rfl, by decide⟩ (by decide) noI_s3) (Ext.gr (Ext.refl _))
      have u0 : Hid (w1.heap.size < v2.heap.size) := b0_0.out.2
      have e2_ : Ext w v2 := Ext.trans e1_ y2
      rw [← hv2]
      clear hv2
      refine (add06_is ((QR.out.ext (x1.trans y2)).inR (k := (3 * (i - 1) + 1)) (pcostQ_len PL.out)) ((e1.ext y2).inR (k := 2) (costQ_len MB.out)) K1.out).mono ?_
      rintro e w3 ⟨sb2, sv2, su2, sm2, sd2, rfl, e2, o2, x3⟩
      have e3_ : Ext w w3 := Ext.trans e2_ x3
      obtain ⟨sp2, sl2, sc2, tp2, tl2, tc2, rfl, rfl⟩ := e2.slice
      clear g102_0 g102_1 g102_2 f102 ff102
      have g102_0 := (b102_0.out.ext (x1.trans (y2.trans x3))).1
      have g102_1 := (b102_1.out.ext (x1.trans (y2.trans x3))).1
      have g102_2 := (b102_2.out.ext (x1.trans (y2.trans x3))).1
      have z102_0 := (k102.out.gr (x1.gr.trans (y2.gr.trans x3.gr))).free 0
      have z102_1 := (k102.out.gr (x1.gr.trans (y2.gr.trans x3.gr))).free 1
      have z102_2 := (k102.out.gr (x1.gr.trans (y2.gr.trans x3.gr))).free 2
      have f102 : w2.heap.size < w3.heap.size := (b102_0.out.ext (x1.trans (y2.trans x3))).2
      have ff102 : w2.heap.size < w3.heap.size + 1 := Nat.lt_succ_of_lt f102
      go_wp2_with fail
      obtain ⟨v4, hv4⟩ : ∃ W, W = (((w3.setCell ⟨w2.heap.size, 0, none⟩ (.bool sb2)).setCell ⟨w2.heap.size, 1, none⟩ (.slice sp2 sl2 sc2)).setCell ⟨w2.heap.size, 2, none⟩ (.slice tp2 tl2 tc2)) := ⟨_, rfl⟩
      have sv4 : v4 = setRow (w2.heap.size) 0 [.bool sb2, .slice sp2 sl2 sc2, .slice tp2 tl2 tc2] w3 := hv4
      have uv4 := setRow_bx' (o := 0) (cs := [.bool sb2, .slice sp2 sl2 sc2, .slice tp2 tl2 tc2]) (k102.out.gr (x1.gr.trans (y2.gr.trans x3.gr))) (by simp) noI_s3
      have y4 : Gr w3 v4 := by rw [sv4]; exact setRow_gr' (o := 0) (cs := [.bool sb2, .slice sp2 sl2 sc2, .slice tp2 tl2 tc2]) (k102.out.gr (x1.gr.trans (y2.gr.trans x3.gr))) (by simp) noI_s3
      have t4 : Hid (∀ t o u, t ≠ (w2.heap.size) → At t o u w3 → At t o u v4) := fun t o u h k => by rw [sv4]; exact k.setRow h _ _
      have e4_ : Ext w v4 := by rw [sv4]; exact setRow_below _ _ LB4.out _ _ e3_
      have b102_0 : Hid (At (w2.heap.size) 0 (.bool sb2) v4) := by rw [sv4]; exact uv4.2.1 0 _ rfl
      have b102_1 : Hid (At (w2.heap.size) 1 (.slice sp2 sl2 sc2) v4) := by rw [sv4]; exact uv4.2.1 1 _ rfl
      have b102_2 : Hid (At (w2.heap.size) 2 (.slice tp2 tl2 tc2) v4) := by rw [sv4]; exact uv4.2.1 2 _ rfl
      have k102 : Hid (Bx 3 (w2.heap.size) v4) := by rw [sv4]; exact uv4.1
      rw [← hv4]
      clear hv4 sv4 uv4
      refine ⟨⟨i + 1, by go_num, by have := HI2.out; omega, .inl (by omega), ⟨e4_, (t4.out _ _ _ NE.out (b100_0.out.ext (x1.trans (y2.trans x3)))), (t4.out _ _ _ NE.out (b100_1.out.ext (x1.trans (y2.trans x3)))), (t4.out _ _ _ NE.out (b100_2.out.ext (x1.trans (y2.trans x3)))), (k100.out.gr (x1.gr.trans (y2.gr.trans (x3.gr.trans y4)))), ?_⟩⟩, by simp [intOf]; omega⟩
      rw [show i + 1 - 1 = i from rfl, ← pcostQ_next HI2.out]
      exact BoxO.mk b102_0.out b102_1.out b102_2.out k102.out (e2.gr y4) ((o2.gr y4).mono e2_.size)
    · have HQ : Hid (pcostQ (i - 1) = pcostQ n) := by
        show _ = _
        rcases hin with h | h
        · rw [show i - 1 = n by omega]
        · subst h
          have : n = 0 ∨ n = 1 := by omega
          rcases this with rfl | rfl <;> rfl
      have t2 : (n : Int) + 1 ≤ i := by omega
      clear hin hni
      have QR : Hid (IsR wr qb (.slice qp qn qc) (.slice qp' qn' qc') qm qd (pcostQ n)) := by have := QR.out; rwa [HQ.out] at this
      have g102_0 := b102_0.out.1
      have g102_1 := b102_1.out.1
      have g102_2 := b102_2.out.1
      have g100_0 := b100_0.out.1
      have g100_1 := b100_1.out.1
      have g100_2 := b100_2.out.1
      have z100_0 := k100.out.free 0
      have z100_1 := k100.out.free 1
      have z100_2 := k100.out.free 2
      have f102 : w2.heap.size < wr.heap.size := b102_0.out.2
      have f100 : w.heap.size < wr.heap.size := b100_0.out.2
      have n100_102 : w.heap.size ≠ w2.heap.size := NE.out
      have n102_100 : w2.heap.size ≠ w.heap.size := Ne.symm n100_102
      have ff102 : w2.heap.size < wr.heap.size + 1 := Nat.lt_succ_of_lt f102
      have ff100 : w.heap.size < wr.heap.size + 1 := Nat.lt_succ_of_lt f100
      go_wp2_with fail
      obtain ⟨v1, hv1⟩ : ∃ W, W = (((wr.setCell ⟨w.heap.size, 0, none⟩ (.bool qb)).setCell ⟨w.heap.size, 1, none⟩ (.slice qp qn qc)).setCell ⟨w.heap.size, 2, none⟩ (.slice qp' qn' qc')) := ⟨_, rfl⟩
      have sv1 : v1 = setRow (w.heap.size) 0 [.bool qb, .slice qp qn qc, .slice qp' qn' qc'] wr := hv1
      have uv1 := setRow_bx' (o := 0) (cs := [.bool qb, .slice qp qn qc, .slice qp' qn' qc']) k100.out (by simp) noI_s3
      have y1 : Gr wr v1 := by rw [sv1]; exact setRow_gr' (o := 0) (cs := [.bool qb, .slice qp qn qc, .slice qp' qn' qc']) k100.out (by simp) noI_s3
      have t1 : Hid (∀ t o u, t ≠ (w.heap.size) → At t o u wr → At t o u v1) := fun t o u h k => by rw [sv1]; exact k.setRow h _ _
      have e1_ : Ext w v1 := by rw [sv1]; exact setRow_below _ _ LB2.out _ _ XX.out
      have b100_0 : Hid (At (w.heap.size) 0 (.bool qb) v1) := by rw [sv1]; exact uv1.2.1 0 _ rfl
      have b100_1 : Hid (At (w.heap.size) 1 (.slice qp qn qc) v1) := by rw [sv1]; exact uv1.2.1 1 _ rfl
      have b100_2 : Hid (At (w.heap.size) 2 (.slice qp' qn' qc') v1) := by rw [sv1]; exact uv1.2.1 2 _ rfl
      have k100 : Hid (Bx 3 (w.heap.size) v1) := by rw [sv1]; exact uv1.1
      rw [← hv1]
      clear hv1 sv1 uv1
      have c0 := b100_0.out.1
      have c1 := b100_1.out.1
      have c2 := b100_2.out.1
      refine bodyPost_ret (v := .tuple #[.agg #[.bool qb, .slice qp qn qc, .slice qp' qn' qc'], .int .i64 0]) (by simp [results, Tryz.results40, go_sem, c0, c1, c2]) rfl ?_
      exact ⟨_, _, _, _, _, rfl, (QR.out.gr y1), ((QO.out.gr y1)), e1_⟩

set_option maxHeartbeats 8000000 in
set_option maxRecDepth 100000 in
theorem rpcost_bad (w : World) (n : Int) (hn : n < 0 ∨ 64 < n) : Calls Tryz.prog 40 #[.int .i64 n] w (RetRE w 1) := by
  rcases hn with h | h
  · go_enter Tryz.func40, Tryz.ntmps40
    go_wp2_with fail
    obtain ⟨v1, hv1⟩ : ∃ W, W = (w.alloc (.cells #[.bool false, .slice none 0 0, .slice none 0 0] 37)) := ⟨_, rfl⟩
    have y1 : Ext w v1 := by rw [hv1]; exact ((Ext.refl _).alloc _)
    have b0_0 : Hid (At (w.heap.size) 0 (.bool false) v1) := by rw [hv1]; exact At.ext (At.n0 (by rfl)) (Ext.refl _)
    have b0_1 : Hid (At (w.heap.size) 1 (.slice none 0 0) v1) := by rw [hv1]; exact At.ext (At.n0 (by rfl)) (Ext.refl _)
    have b0_2 : Hid (At (w.heap.size) 2 (.slice none 0 0) v1) := by rw [hv1]; exact At.ext (At.n0 (by rfl)) (Ext.refl _)
    have k0 : Hid (Bx 3 (w.heap.size) v1) := by rw [hv1]; exact Bx.gr (Bx.n0 3 ⟨rfl, by decide⟩ (by decide) noI_s3) (Ext.gr (Ext.refl _))
    have u0 : Hid (w.heap.size < v1.heap.size) := b0_0.out.2
    have e1_ : Ext w v1 := y1
    rw [← hv1]
    clear hv1
    have c0 := b0_0.out.1
    have c1 := b0_1.out.1
    have c2 := b0_2.out.1
    refine bodyPost_ret (v := .tuple #[.agg #[.bool false, .slice none 0 0, .slice none 0 0], .int .i64 1]) (by simp [results, Tryz.results40, go_sem, c0, c1, c2]) rfl ?_
    exact ⟨rfl, e1_⟩
  · have h2 : ¬ n < 0 := by omega
    go_enter Tryz.func40, Tryz.ntmps40
    go_wp2_with fail
    obtain ⟨v1, hv1⟩ : ∃ W, W = (w.alloc (.cells #[.bool false, .slice none 0 0, .slice none 0 0] 37)) := ⟨_, rfl⟩
    have y1 : Ext w v1 := by rw [hv1]; exact ((Ext.refl _).alloc _)
    have b0_0 : Hid (At (w.heap.size) 0 (.bool false) v1) := by rw [hv1]; exact At.ext (At.n0 (by rfl)) (Ext.refl _)
    have b0_1 : Hid (At (w.heap.size) 1 (.slice none 0 0) v1) := by rw [hv1]; exact At.ext (At.n0 (by rfl)) (Ext.refl _)
    have b0_2 : Hid (At (w.heap.size) 2 (.slice none 0 0) v1) := by rw [hv1]; exact At.ext (At.n0 (by rfl)) (Ext.refl _)
    have k0 : Hid (Bx 3 (w.heap.size) v1) := by rw [hv1]; exact Bx.gr (Bx.n0 3 ⟨rfl, by decide⟩ (by decide) noI_s3) (Ext.gr (Ext.refl _))
    have u0 : Hid (w.heap.size < v1.heap.size) := b0_0.out.2
    have e1_ : Ext w v1 := y1
    rw [← hv1]
    clear hv1
    have c0 := b0_0.out.1
    have c1 := b0_1.out.1
    have c2 := b0_2.out.1
    refine bodyPost_ret (v := .tuple #[.agg #[.bool false, .slice none 0 0, .slice none 0 0], .int .i64 1]) (by simp [results, Tryz.results40, go_sem, c0, c1, c2]) rfl ?_
    exact ⟨rfl, e1_⟩

/-- a fraction by its parts: the sign, the numerator's limbs, the denominator's -/
noncomputable def frQ (q : Rat) : Bool × List Nat × List Nat := (decide (q.num < 0), dig q.num.natAbs, dig q.den)
/-- the fraction that nobody made -/
def fr0 : Bool × List Nat × List Nat := (false, [], [])
/-- what tells a fraction, or why there is none -/
def RetF (w : World) (x : Bool × List Nat × List Nat) (c : Nat) (e : Ending) (w' : World) : Prop :=
  ∃ p n k p' n' k', e = .returned (.tuple #[.agg #[.bool x.1, .slice p n k, .slice p' n' k'], .int .i64 (c : Int)]) ∧ OwnL w.heap.size w' (.slice p n k) x.2.1 ∧ OwnL w.heap.size w' (.slice p' n' k') x.2.2 ∧ Ext w w'
theorem retR0_f {w w' : World} {q : Rat} {e : Ending} (h : RetR0 w q e w') : RetF w (frQ q) 0 e w' := by
  obtain ⟨b, v, u, m, d, rfl, h1, h2, h3⟩ := h
  obtain ⟨a, n, c, a', n', c', rfl, rfl⟩ := h1.slice
  exact ⟨a, n, c, a', n', c', by rw [← h1.1]; rfl, by show OwnL _ _ _ (dig _); rw [h1.2.1]; exact h2.1, by show OwnL _ _ _ (dig _); rw [h1.2.2.1]; exact h2.2, h3⟩
theorem retRE_f {w w' : World} {k : Nat} {e : Ending} (h : RetRE w (k : Int) e w') : RetF w fr0 k e w' := by
  obtain ⟨rfl, h3⟩ := h
  exact ⟨none, 0, 0, none, 0, 0, rfl, OwnL.nil _ _, OwnL.nil _ _, h3⟩
/-- what a shuffled row costs, and why it has no cost -/
noncomputable def co12 (n : Int) : (Bool × List Nat × List Nat) × Nat := if 0 ≤ n ∧ n ≤ 64 then (frQ (pcostQ n.toNat), 0) else (fr0, 1)
theorem pcost_all (w : World) (n : Int) (x : Bool × List Nat × List Nat) (c : Nat) (h : co12 n = (x, c)) : Calls Tryz.prog 43 #[.int .i64 n] w (RetF w x c) := by
  unfold co12 at h
  split at h
  · injection h with h1 h2
    subst h1 h2
    rename_i h
    obtain ⟨m, rfl⟩ : ∃ m : Nat, n = (m : Int) := ⟨n.toNat, by omega⟩
    rw [Int.toNat_natCast]
    exact (pcost_is w m (by omega)).mono fun _ _ h => retR0_f h
  · injection h with h1 h2
    subst h1 h2
    rename_i h
    exact (pcost_bad w n (by omega)).mono fun _ _ h => retRE_f (k := 1) h
theorem rpcost_all (w : World) (n : Int) (x : Bool × List Nat × List Nat) (c : Nat) (h : co12 n = (x, c)) : Calls Tryz.prog 40 #[.int .i64 n] w (RetF w x c) := by
  unfold co12 at h
  split at h
  · injection h with h1 h2
    subst h1 h2
    rename_i h
    obtain ⟨m, rfl⟩ : ∃ m : Nat, n = (m : Int) := ⟨n.toNat, by omega⟩
    rw [Int.toNat_natCast]
    exact (rpcost_is w m (by omega)).mono fun _ _ h => retR0_f h
  · injection h with h1 h2
    subst h1 h2
    rename_i h
    exact (rpcost_bad w n (by omega)).mono fun _ _ h => retRE_f (k := 1) h
end Go.Proofs.YtkfioaoooodmnaaGreatDoor
