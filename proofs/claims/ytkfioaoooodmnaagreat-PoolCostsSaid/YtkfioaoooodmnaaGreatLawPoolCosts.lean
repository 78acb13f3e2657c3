/- PoolCosts answers true at all numbers. -/
import Derived.Test.YtkfioaoooodmnaaGreatRefChoose
import Derived.Test.YtkfioaoooodmnaaGreatPartJ
namespace Go.Proofs.YtkfioaoooodmnaaGreat
open Go Go.RowKit

set_option maxHeartbeats 800000 in
set_option maxRecDepth 100000 in
theorem rchoose_bad (w : World) (k n : Int) (h : ¬ mayP k n) :
    Calls Tryz.prog 8 #[.int .i64 k, .int .i64 n] w fun e w' => e = .returned (.tuple #[.slice none 0 0, .int .i64 1]) ∧ Ext w w' := by
  have MAY : Hid (decide (mayP k n) = false) := by show _ = _; rw [decide_eq_false_iff_not]; exact h
  clear h
  go_enter Tryz.func8, Tryz.ntmps8
  go_wp2_with fail
  refine (rmay13_calls _ _ _ false MAY.out).mono ?_
  rintro e w1 ⟨rfl, x1⟩
  have X1 := Lib.hid x1
  clear x1
  go_wp2_with fail
  go_ret2
  exact ⟨rfl, X1.out⟩

/-- what tells a natural, or why there is none -/
def RetC (w : World) (A : List Nat) (c : Nat) (e : Ending) (w' : World) : Prop := ∃ p n k, e = .returned (.tuple #[.slice p n k, .int .i64 (c : Int)]) ∧ Limbs w' (.slice p n k) A ∧ Ext w w'
theorem cost13_both (k n : Int) : ∃ (x : Bool × List Nat × List Nat) (c : Nat), (∀ w, Calls Tryz.prog 5 #[.int .i64 k, .int .i64 n] w (RetF w x c)) ∧ ∀ w, Calls Tryz.prog 6 #[.int .i64 k, .int .i64 n] w (RetF w x c) := by
  by_cases h : mayP k n
  · have h' := h
    unfold mayP at h'
    obtain ⟨a, rfl⟩ : ∃ a : Nat, k = (a : Int) := ⟨k.toNat, by omega⟩
    obtain ⟨b, rfl⟩ : ∃ b : Nat, n = (b : Int) := ⟨n.toNat, by omega⟩
    exact ⟨frQ (costTo a (b - a)), 0, fun w => (plcost_is w a b (by omega) (by omega) _ rfl).mono fun _ _ h => retR0_f h, fun w => (rplcost_is w a b (by omega) (by omega) _ rfl).mono fun _ _ h => retR0_f h⟩
  · exact ⟨fr0, 1, fun w => (plcost_bad w k n h).mono fun _ _ h => retRE_f (k := 1) h, fun w => (rplcost_bad w k n h).mono fun _ _ h => retRE_f (k := 1) h⟩
theorem retC_of {w w' : World} {A : List Nat} {e : Ending} (h : ∃ r, e = .returned (.tuple #[r, .int .i64 0]) ∧ OwnL w.heap.size w' r A ∧ Ext w w') : RetC w A 0 e w' := by
  obtain ⟨r, rfl, h1, h2⟩ := h
  obtain ⟨p, n, k, rfl⟩ := h1.slice'
  exact ⟨p, n, k, rfl, h1.limbs, h2⟩
theorem choose13_both (k n : Int) : ∃ (A : List Nat) (c : Nat), (∀ w, Calls Tryz.prog 7 #[.int .i64 k, .int .i64 n] w (RetC w A c)) ∧ ∀ w, Calls Tryz.prog 8 #[.int .i64 k, .int .i64 n] w (RetC w A c) := by
  by_cases h : mayP k n
  · have h' := h
    unfold mayP at h'
    obtain ⟨a, rfl⟩ : ∃ a : Nat, k = (a : Int) := ⟨k.toNat, by omega⟩
    obtain ⟨b, rfl⟩ : ∃ b : Nat, n = (b : Int) := ⟨n.toNat, by omega⟩
    exact ⟨dig (bin b a), 0, fun w => (choose_ok w a b (by omega) (by omega)).mono fun _ _ h => retC_of h, fun w => (rchoose_ok w a b (by omega) (by omega)).mono fun _ _ h => retC_of h⟩
  · exact ⟨[], 1, fun w => (choose_bad w k n h).mono fun _ _ ⟨h1, h2⟩ => ⟨none, 0, 0, h1, Limbs.nil _, h2⟩, fun w => (rchoose_bad w k n h).mono fun _ _ ⟨h1, h2⟩ => ⟨none, 0, 0, h1, Limbs.nil _, h2⟩⟩

set_option maxHeartbeats 1600000 in
set_option maxRecDepth 100000 in
theorem poolCosts_calls (w : World) (k : Int) (_hk : -9223372036854775808 ≤ k ∧ k ≤ 9223372036854775807) (n : Int) (_hn : -9223372036854775808 ≤ n ∧ n ≤ 9223372036854775807) :
    Calls Tryz.prog 3 #[.int .i64 k, .int .i64 n] w (Yes w) := by
  obtain ⟨⟨xb, xn, xd⟩, c, h1, h2⟩ := cost13_both k n
  obtain ⟨A, d, h3, h4⟩ := choose13_both k n
  have H1 := Lib.hid h1
  have H2 := Lib.hid h2
  have H3 := Lib.hid h3
  have H4 := Lib.hid h4
  clear h1 h2 h3 h4 _hk _hn
  go_enter Tryz.func3, Tryz.ntmps3
  go_wp2_with fail
  refine (H1.out _).mono ?_
  rintro e w9 ⟨q1, q2, q3, q4, q5, q6, rfl, l1, l2, x9⟩
  have Y9 : Ext w9 (w9.alloc (.cells #[.bool xb, .slice q1 q2 q3, .slice q4 q5 q6] 27)) := (Ext.refl _).alloc _
  have L1 := Lib.hid (l1.limbs.ext Y9)
  have L2 := Lib.hid (l2.limbs.ext Y9)
  have X9 := Lib.hid (x9.trans Y9)
  obtain ⟨b1, hb1⟩ : ∃ s, w9.heap.size = s := ⟨_, rfl⟩
  have C0 : Hid (At b1 0 (.bool xb) (w9.alloc (.cells #[.bool xb, .slice q1 q2 q3, .slice q4 q5 q6] 27))) := by rw [← hb1]; exact At.n0 (by rfl)
  have C1 : Hid (At b1 1 (.slice q1 q2 q3) (w9.alloc (.cells #[.bool xb, .slice q1 q2 q3, .slice q4 q5 q6] 27))) := by rw [← hb1]; exact At.n0 (by rfl)
  have C2 : Hid (At b1 2 (.slice q4 q5 q6) (w9.alloc (.cells #[.bool xb, .slice q1 q2 q3, .slice q4 q5 q6] 27))) := by rw [← hb1]; exact At.n0 (by rfl)
  clear l1 l2 x9 Y9
  go_wp2_with fail
  (try rw [hb1])
  obtain ⟨wa, hwa⟩ : ∃ W', W' = w9.alloc (.cells #[.bool xb, .slice q1 q2 q3, .slice q4 q5 q6] 27) := ⟨_, rfl⟩
  rw [← hwa] at L1 L2 X9 C0 C1 C2 ⊢
  clear hwa hb1
  refine (H2.out _).mono ?_
  rintro e wb ⟨r1, r2, r3, r4, r5, r6, rfl, l1, l2, xb_⟩
  have Yb : Ext wb (wb.alloc (.cells #[.bool xb, .slice r1 r2 r3, .slice r4 r5 r6] 27)) := (Ext.refl _).alloc _
  have M1 := Lib.hid (l1.limbs.ext Yb)
  have M2 := Lib.hid (l2.limbs.ext Yb)
  have L1 := Lib.hid (L1.out.ext (xb_.trans Yb))
  have L2 := Lib.hid (L2.out.ext (xb_.trans Yb))
  have C0 := Lib.hid (C0.out.ext (xb_.trans Yb))
  have C1 := Lib.hid (C1.out.ext (xb_.trans Yb))
  have C2 := Lib.hid (C2.out.ext (xb_.trans Yb))
  have XB := Lib.hid (X9.out.trans (xb_.trans Yb))
  obtain ⟨b2, hb2⟩ : ∃ s, wb.heap.size = s := ⟨_, rfl⟩
  have D0 : Hid (At b2 0 (.bool xb) (wb.alloc (.cells #[.bool xb, .slice r1 r2 r3, .slice r4 r5 r6] 27))) := by rw [← hb2]; exact At.n0 (by rfl)
  have D1 : Hid (At b2 1 (.slice r1 r2 r3) (wb.alloc (.cells #[.bool xb, .slice r1 r2 r3, .slice r4 r5 r6] 27))) := by rw [← hb2]; exact At.n0 (by rfl)
  have D2 : Hid (At b2 2 (.slice r4 r5 r6) (wb.alloc (.cells #[.bool xb, .slice r1 r2 r3, .slice r4 r5 r6] 27))) := by rw [← hb2]; exact At.n0 (by rfl)
  clear l1 l2 xb_ X9 Yb
  go_wp2_with fail
  (try rw [hb2])
  obtain ⟨wc, hwc⟩ : ∃ W', W' = wb.alloc (.cells #[.bool xb, .slice r1 r2 r3, .slice r4 r5 r6] 27) := ⟨_, rfl⟩
  rw [← hwc] at L1 L2 M1 M2 XB C0 C1 C2 D0 D1 D2 ⊢
  clear hwc hb2
  refine (H3.out _).mono ?_
  rintro e wd ⟨s1, s2, s3, rfl, l3, xd_⟩
  have N1 := Lib.hid l3
  have XD := Lib.hid xd_
  clear l3 xd_
  go_wp2_with fail
  refine (H4.out _).mono ?_
  rintro e we ⟨s4, s5, s6, rfl, l4, xe⟩
  have N2 := Lib.hid l4
  have N1 := Lib.hid (N1.out.ext xe)
  have XE := Lib.hid (XD.out.trans xe)
  have g0 := (C0.out.ext XE.out).1
  have g1 := (C1.out.ext XE.out).1
  have g2 := (C2.out.ext XE.out).1
  have g3 := (D0.out.ext XE.out).1
  have g4 := (D1.out.ext XE.out).1
  have g5 := (D2.out.ext XE.out).1
  clear l4 xe XD
  go_wp2_with fail
  refine (is_raw (L1.out.ext XE.out) (L2.out.ext XE.out) (M1.out.ext XE.out) (M2.out.ext XE.out) xb xb true (by simp)).mono ?_
  rintro e wf ⟨rfl, xf⟩
  have XF := Lib.hid xf
  clear xf g0 g1 g2 g3 g4 g5
  go_wp2_with fail
  refine (same_bool (N1.out.ext XF.out) (N2.out.ext XF.out) true (by simp)).mono ?_
  rintro e wg ⟨rfl, xg⟩
  have XG := Lib.hid (XF.out.trans xg)
  clear xg
  go_wp2_with fail
  refine (awake13_calls _).mono ?_
  rintro e wh ⟨rfl, xh⟩
  have XH := Lib.hid (XB.out.trans (XE.out.trans (XG.out.trans xh)))
  clear xh
  go_wp2_with fail
  go_ret
  exact ⟨rfl, XH.out⟩
end Go.Proofs.YtkfioaoooodmnaaGreat
