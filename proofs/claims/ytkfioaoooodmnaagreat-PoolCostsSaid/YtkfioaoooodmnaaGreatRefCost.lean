/- The contract of tombolaref09.Cost. -/
import Derived.Test.YtkfioaoooodmnaaGreatRefAdd
import Derived.Test.YtkfioaoooodmnaaGreatRefDraw
namespace Go.Proofs.YtkfioaoooodmnaaGreat
open Go Go.RowKit

theorem nof06 (w : World) (n : Nat) (hn : n < Bs) : Calls Tryz.prog 52 #[.int .u64 (n : Int)] w (RetN w n) := refof_calls hn
theorem nshl06 {w : World} {v : Value} {k x : Nat} (h : InN w v k x) (n : Nat) (hk : k ≤ 60000) (hn : n ≤ 65536) :
    Calls Tryz.prog 48 #[v, .int .i64 (n : Int)] w fun e w' => ∃ r, e = .returned (.tuple #[r, .int .i64 0]) ∧ OwnL w.heap.size w' r (dig (x * 2 ^ n)) ∧ Ext w w' := by
  obtain ⟨A, h1, rfl, h3⟩ := h
  exact refshl_ok h1 (by omega) n hn
theorem shl_bs1 {q : Nat} (h : q ≤ 64) : 1 * 2 ^ q < Bs ^ 2 := by
  have h1 : (2 : Nat) ^ q ≤ Bs := by rw [Bs_eq]; exact Nat.pow_le_pow_right (by decide) h
  rw [Nat.pow_two, Nat.one_mul]
  exact Nat.lt_of_le_of_lt h1 (Nat.lt_of_lt_of_le (by rw [Bs_def]; decide : Bs < Bs * 2) (Nat.mul_le_mul_left _ (by rw [Bs_def]; decide)))

set_option maxHeartbeats 4000000 in
set_option maxRecDepth 100000 in
theorem rcost9_is {w : World} (m : Nat) (hm : m < Bs) (h1 : 1 ≤ m) :
    Calls Tryz.prog 25 #[.int .u64 (m : Int)] w (RetR0 w (costQ m)) := by
  obtain ⟨q, hq⟩ : ∃ q, wid m = q := ⟨_, rfl⟩
  have h6 := wid_le hm
  rw [hq] at h6
  have HE : Hid (mkRat (sgI false (q * (1 * 2 ^ q))) m = costQ m) := by show _ = _; unfold costQ sgI; rw [hq, Nat.one_mul]; rfl
  have t1 : ((m : Int) == 0) = false := by rw [beq_eq_false_iff_ne]; omega
  have HM := Lib.hid hm
  have HQ := Lib.hid hq
  have HQ6 := Lib.hid h6
  have HB : Hid (q < Bs) := by show q < Bs; rw [Bs_def]; omega
  have HR : Hid (q ≤ 65536) := by show q ≤ 65536; omega
  have H1 : Hid (m ≠ 0) := by show m ≠ 0; omega
  have h6i : (q : Int) ≤ 64 := by omega
  clear hm hq h6 h1
  go_enter Tryz.func25, Tryz.ntmps25
  go_wp2_with fail
  obtain ⟨v1, hv1⟩ : ∃ W, W = ((w.alloc (.cells #[.bool false, .slice none 0 0, .slice none 0 0] 27)).alloc (.cells #[.int .u64 1] 54)) := ⟨_, rfl⟩
  have y1 : Ext w v1 := by rw [hv1]; exact (((Ext.refl _).alloc _).alloc _)
  have b0_0 : Hid (At (w.heap.size) 0 (.bool false) v1) := by rw [hv1]; exact At.ext (At.n0 (by rfl)) ((Ext.refl _).alloc _)
  have b0_1 : Hid (At (w.heap.size) 1 (.slice none 0 0) v1) := by rw [hv1]; exact At.ext (At.n0 (by rfl)) ((Ext.refl _).alloc _)
  have b0_2 : Hid (At (w.heap.size) 2 (.slice none 0 0) v1) := by rw [hv1]; exact At.ext (At.n0 (by rfl)) ((Ext.refl _).alloc _)
  have k0 : Hid (Bx 3 (w.heap.size) v1) := by rw [hv1]; exact Bx.gr (Bx.n0 3 ⟨rfl, by decide⟩ (by decide) noI_s3) (Ext.gr ((Ext.refl _).alloc _))
  have u0 : Hid (w.heap.size < v1.heap.size) := b0_0.out.2
  have r1 : Hid (Limbs v1 (.slice (some ⟨w.heap.size + 1, 0, none⟩) 1 1) [1]) := by rw [hv1]; exact (lit_n1 [1] (by decide) rfl 1 rfl (by decide)).ext (Ext.refl _)
  have ro1 : Hid (OwnL w.heap.size v1 (.slice (some ⟨w.heap.size + 1, 0, none⟩) 1 1) [1]) := by rw [hv1]; exact OwnL.ext (lito_n1 [1] (by decide) rfl 1 rfl (by decide) (by omega)) (Ext.refl _)
  have e1_ : Ext w v1 := y1
  rw [← hv1]
  clear hv1
  refine (rwidth_calls _ m HM.out q HQ.out).mono ?_
  rintro e w2 ⟨rfl, x2⟩
  have e2_ : Ext w w2 := Ext.trans e1_ x2
  go_wp2_with fail
  refine (nshl06 ((lit_in r1.out).ext x2) q (by decide) HR.out).mono ?_
  rintro e w3 ⟨sv2, rfl, o2, x3⟩
  have e3_ : Ext w w3 := Ext.trans e2_ x3
  obtain ⟨sp2, sl2, sc2, rfl⟩ := o2.slice'
  go_wp2_with fail
  refine (rwidth_calls _ m HM.out q HQ.out).mono ?_
  rintro e w4 ⟨rfl, x4⟩
  have e4_ : Ext w w4 := Ext.trans e3_ x4
  go_wp2_with fail
  refine (nof06 _ q HB.out).mono ?_
  rintro e w5 ⟨sv4, rfl, o4, x5⟩
  have e5_ : Ext w w5 := Ext.trans e4_ x5
  obtain ⟨sp4, sl4, sc4, rfl⟩ := o4.slice'
  go_wp2_with fail
  refine (nmul02 (Limbs.inN (k := 1) o4.limbs (by rw [Nat.pow_one]; exact HB.out)) (Limbs.inN (k := 2) (o2.limbs.ext (x4.trans x5)) (shl_bs1 HQ6.out)) (by decide)).mono ?_
  rintro e w6 ⟨sv5, rfl, o5, x6⟩
  have e6_ : Ext w w6 := Ext.trans e5_ x6
  obtain ⟨sp5, sl5, sc5, rfl⟩ := o5.slice'
  go_wp2_with fail
  refine (nof06 _ m HM.out).mono ?_
  rintro e w7 ⟨sv6, rfl, o6, x7⟩
  have e7_ : Ext w w7 := Ext.trans e6_ x7
  obtain ⟨sp6, sl6, sc6, rfl⟩ := o6.slice'
  go_wp2_with fail
  refine (rmake06_is (q := (costQ m)) (inI_mk (Limbs.inN (k := (1 + 2)) (o5.limbs.ext x7) (lt_mul (by rw [Nat.pow_one]; exact HB.out) (shl_bs1 HQ6.out))) false) (Limbs.inN (k := 1) o6.limbs (by rw [Nat.pow_one]; exact HM.out)) H1.out (by decide) (by decide) HE.out).mono ?_
  rintro e w8 ⟨sb7, sv7, su7, sm7, sd7, rfl, e7, o7, x8⟩
  have e8_ : Ext w w8 := Ext.trans e7_ x8
  obtain ⟨sp7, sl7, sc7, tp7, tl7, tc7, rfl, rfl⟩ := e7.slice
  have g0_0 := (b0_0.out.ext (x2.trans (x3.trans (x4.trans (x5.trans (x6.trans (x7.trans x8))))))).1
  have g0_1 := (b0_1.out.ext (x2.trans (x3.trans (x4.trans (x5.trans (x6.trans (x7.trans x8))))))).1
  have g0_2 := (b0_2.out.ext (x2.trans (x3.trans (x4.trans (x5.trans (x6.trans (x7.trans x8))))))).1
  have z0_0 := (k0.out.gr (x2.gr.trans (x3.gr.trans (x4.gr.trans (x5.gr.trans (x6.gr.trans (x7.gr.trans x8.gr))))))).free 0
  have z0_1 := (k0.out.gr (x2.gr.trans (x3.gr.trans (x4.gr.trans (x5.gr.trans (x6.gr.trans (x7.gr.trans x8.gr))))))).free 1
  have z0_2 := (k0.out.gr (x2.gr.trans (x3.gr.trans (x4.gr.trans (x5.gr.trans (x6.gr.trans (x7.gr.trans x8.gr))))))).free 2
  have f0 : w.heap.size < w8.heap.size := (b0_0.out.ext (x2.trans (x3.trans (x4.trans (x5.trans (x6.trans (x7.trans x8))))))).2
  have ff0 : w.heap.size < w8.heap.size + 1 := Nat.lt_succ_of_lt f0
  go_wp2_with fail
  obtain ⟨v9, hv9⟩ : ∃ W, W = (((w8.setCell ⟨w.heap.size, 0, none⟩ (.bool sb7)).setCell ⟨w.heap.size, 1, none⟩ (.slice sp7 sl7 sc7)).setCell ⟨w.heap.size, 2, none⟩ (.slice tp7 tl7 tc7)) := ⟨_, rfl⟩
  have sv9 : v9 = setRow (w.heap.size) 0 [.bool sb7, .slice sp7 sl7 sc7, .slice tp7 tl7 tc7] w8 := hv9
  have uv9 := setRow_bx' (o := 0) (cs := [.bool sb7, .slice sp7 sl7 sc7, .slice tp7 tl7 tc7]) (k0.out.gr (x2.gr.trans (x3.gr.trans (x4.gr.trans (x5.gr.trans (x6.gr.trans (x7.gr.trans x8.gr))))))) (by simp) noI_s3
  have y9 : Gr w8 v9 := by rw [sv9]; exact setRow_gr' (o := 0) (cs := [.bool sb7, .slice sp7 sl7 sc7, .slice tp7 tl7 tc7]) (k0.out.gr (x2.gr.trans (x3.gr.trans (x4.gr.trans (x5.gr.trans (x6.gr.trans (x7.gr.trans x8.gr))))))) (by simp) noI_s3
  have t9 : Hid (∀ t o u, t ≠ (w.heap.size) → At t o u w8 → At t o u v9) := fun t o u h k => by rw [sv9]; exact k.setRow h _ _
  have e9_ : Ext w v9 := by rw [sv9]; exact setRow_below _ _ (by omega) _ _ e8_
  have b0_0 : Hid (At (w.heap.size) 0 (.bool sb7) v9) := by rw [sv9]; exact uv9.2.1 0 _ rfl
  have b0_1 : Hid (At (w.heap.size) 1 (.slice sp7 sl7 sc7) v9) := by rw [sv9]; exact uv9.2.1 1 _ rfl
  have b0_2 : Hid (At (w.heap.size) 2 (.slice tp7 tl7 tc7) v9) := by rw [sv9]; exact uv9.2.1 2 _ rfl
  have k0 : Hid (Bx 3 (w.heap.size) v9) := by rw [sv9]; exact uv9.1
  rw [← hv9]
  clear hv9 sv9 uv9
  have c0 := b0_0.out.1
  have c1 := b0_1.out.1
  have c2 := b0_2.out.1
  refine bodyPost_ret (v := .tuple #[.agg #[.bool sb7, .slice sp7 sl7 sc7, .slice tp7 tl7 tc7], .int .i64 0]) (by simp [results, Tryz.results25, go_sem, c0, c1, c2]) rfl ?_
  exact ⟨_, _, _, _, _, rfl, (e7.gr y9), ((o7.gr y9).mono e7_.size), e9_⟩

/-- a fraction by its parts: the sign, the numerator's limbs, the denominator's -/
noncomputable def frQ (q : Rat) : Bool × List Nat × List Nat := (decide (q.num < 0), dig q.num.natAbs, dig q.den)
/-- the fraction that nobody made -/
def fr0 : Bool × List Nat × List Nat := (false, [], [])
/-- what tells a fraction, or why there is none -/
def RetF (w : World) (x : Bool × List Nat × List Nat) (c : Nat) (e : Ending) (w' : World) : Prop :=
  ∃ p n k p' n' k', e = .returned (.tuple #[.agg #[.bool x.1, .slice p n k, .slice p' n' k'], .int .i64 (c : Int)]) ∧ OwnL w.heap.size w' (.slice p n k) x.2.1 ∧ OwnL w.heap.size w' (.slice p' n' k') x.2.2 ∧ Ext w w'
theorem retR0_f {w w' : World} {q : Rat} {e : Ending} (h : RetR0 w q e w') : RetF w (frQ q) 0 e w' := by
  obtain ⟨b, v, u, m, d, rfl, h1, h2, h3⟩ := h
  obtain ⟨a, n, c, a', n', c', rfl, rfl⟩ := h1.slice
  exact ⟨a, n, c, a', n', c', by rw [← h1.1]; rfl, by show OwnL _ _ _ (dig _); rw [h1.2.1]; exact h2.1, by show OwnL _ _ _ (dig _); rw [h1.2.2.1]; exact h2.2, h3⟩
theorem retRE_f {w w' : World} {k : Nat} {e : Ending} (h : RetRE w (k : Int) e w') : RetF w fr0 k e w' := by
  obtain ⟨rfl, h3⟩ := h
  exact ⟨none, 0, 0, none, 0, 0, rfl, OwnL.nil _ _, OwnL.nil _ _, h3⟩
end Go.Proofs.YtkfioaoooodmnaaGreat
