/- WholeTells answers true at all whole numbers. -/
import Derived.Test.YtomhfipgabpfiaaGreatDoorLawRef
namespace Go.Proofs.YtomhfipgabpfiaaGreatDoor
open Go Go.RowKit

set_option maxHeartbeats 8000000 in
set_option maxRecDepth 100000 in
theorem wholeTells_calls {w : World} {v0 v1 : Value} {A0 A1 : List Nat} (h0 : Limbs w v0 A0) (h1 : Limbs w v1 A1) (nb n0 n1 : Bool) (n : Int) (hn1 : -9223372036854775808 ≤ n) (hn2 : n ≤ 9223372036854775807) :
    Calls Tryz.prog 4 #[.bool nb, .agg #[.bool n0, v0], .agg #[.bool n1, v1], .int .i64 n] w (Yes w) := by
  obtain ⟨p0, q0, rfl, -, -, -⟩ := h0.open
  obtain ⟨p1, q1, rfl, -, -, -⟩ := h1.open
  have HN1 := Lib.hid hn1
  have HN2 := Lib.hid hn2
  clear hn1 hn2
  obtain ⟨lb, hlb⟩ : ∃ b, (decide (10 < A0.length) || decide (10 < A1.length)) = b := ⟨_, rfl⟩
  cases lb with
  | true =>
    have HLB := Lib.hid hlb
    clear hlb
    go_enter Tryz.func4, Tryz.ntmps4
    go_wp2_with fail
    refine (ilong2_calls (h0.ext (((Ext.refl _).alloc _).alloc _)) (h1.ext (((Ext.refl _).alloc _).alloc _)) n0 n1 true HLB.out (by simp)).mono ?_
    rintro e w1_ ⟨rfl, rfl⟩
    go_wp2_with fail
    refine (lawake_calls _).mono ?_
    rintro e w1 ⟨rfl, x1⟩
    have y1 := Ext.trans ((((Ext.refl _).alloc _).alloc _).alloc _) x1
    have b0_0 : Hid (At (w.heap.size) 0 (.bool n0) w1) := At.ext (At.n0 (by rfl)) ((((Ext.refl _).alloc _).alloc _).trans x1)
    have b0_1 : Hid (At (w.heap.size) 1 (.slice p0 A0.length q0) w1) := At.ext (At.n0 (by rfl)) ((((Ext.refl _).alloc _).alloc _).trans x1)
    have b1_0 : Hid (At (w.heap.size + 1) 0 (.bool n1) w1) := At.ext (At.n1 (by rfl)) (((Ext.refl _).alloc _).trans x1)
    have b1_1 : Hid (At (w.heap.size + 1) 1 (.slice p1 A1.length q1) w1) := At.ext (At.n1 (by rfl)) (((Ext.refl _).alloc _).trans x1)
    go_wp2_with fail
    go_ret
    exact ⟨rfl, y1⟩
  | false =>
    have HLB := Lib.hid hlb
    simp at hlb
    have i0 : InI w n0 (.slice p0 A0.length q0) 10 (iv n0 A0) := ⟨A0, h0, rfl, by omega⟩
    have j0 : InI w nb (.slice p0 A0.length q0) 10 (iv nb A0) := ⟨A0, h0, rfl, by omega⟩
    have i1 : InI w n1 (.slice p1 A1.length q1) 10 (iv n1 A1) := ⟨A1, h1, rfl, by omega⟩
    obtain ⟨z0, hz0⟩ : ∃ z, iv n0 A0 = z := ⟨_, rfl⟩
    obtain ⟨zn, hzn⟩ : ∃ z, iv nb A0 = z := ⟨_, rfl⟩
    obtain ⟨z1, hz1⟩ : ∃ z, iv n1 A1 = z := ⟨_, rfl⟩
    rw [hz0] at i0
    rw [hzn] at j0
    rw [hz1] at i1
    obtain ⟨mb, hmb⟩ : ∃ b, (if A0.length = 0 then !n0 else decide (el A0 (A0.length - 1) ≠ 0)) = b := ⟨_, rfl⟩
    obtain ⟨s, hs⟩ : ∃ s, smallI z0 = s := ⟨_, rfl⟩
    obtain ⟨f, hf⟩ : ∃ f, fitsI z0 = f := ⟨_, rfl⟩
    obtain ⟨g, hg⟩ : ∃ g, z0.sign = g := ⟨_, rfl⟩
    obtain ⟨c, hc⟩ : ∃ c, cmpI z0 z1 = c := ⟨_, rfl⟩
    have HMB := Lib.hid hmb
    have HS := Lib.hid hs
    have HF := Lib.hid hf
    have HG := Lib.hid hg
    have HC := Lib.hid hc
    clear hlb hz0 hzn hz1 hmb hs hf hg hc
    go_enter Tryz.func4, Tryz.ntmps4
    go_wp2_with fail
    refine (ilong2_calls (h0.ext (((Ext.refl _).alloc _).alloc _)) (h1.ext (((Ext.refl _).alloc _).alloc _)) n0 n1 false HLB.out (by simp)).mono ?_
    rintro e w1_ ⟨rfl, rfl⟩
    go_wp2_with fail
    refine (small_is (i0.ext ((((Ext.refl _).alloc _).alloc _).alloc _)) (by decide) s HS.out f HF.out).mono ?_
    rintro e w1 ⟨rfl, x1⟩
    have y1 := Ext.trans ((((Ext.refl _).alloc _).alloc _).alloc _) x1
    have b0_0 : Hid (At (w.heap.size) 0 (.bool n0) w1) := At.ext (At.n0 (by rfl)) ((((Ext.refl _).alloc _).alloc _).trans x1)
    have b0_1 : Hid (At (w.heap.size) 1 (.slice p0 A0.length q0) w1) := At.ext (At.n0 (by rfl)) ((((Ext.refl _).alloc _).alloc _).trans x1)
    have b1_0 : Hid (At (w.heap.size + 1) 0 (.bool n1) w1) := At.ext (At.n1 (by rfl)) (((Ext.refl _).alloc _).trans x1)
    have b1_1 : Hid (At (w.heap.size + 1) 1 (.slice p1 A1.length q1) w1) := At.ext (At.n1 (by rfl)) (((Ext.refl _).alloc _).trans x1)
    have g0_0 := (b0_0.out.ext (Ext.refl _)).1
    have g0_1 := (b0_1.out.ext (Ext.refl _)).1
    go_wp2_with fail
    refine (refsmall_is (i0.ext y1) (by decide) s HS.out f HF.out).mono ?_
    rintro e w2 ⟨rfl, x2⟩
    go_wp2_with fail
    have X1_0 := (Ext.refl w2).drew
    have z1_0 := X1_0
    clear g0_0 g0_1
    have g0_1 := (b0_1.out.ext (x2.trans X1_0)).1
    have g0_0 := (b0_0.out.ext (x2.trans X1_0)).1
    have g1_0 := (b1_0.out.ext (x2.trans X1_0)).1
    have g1_1 := (b1_1.out.ext (x2.trans X1_0)).1
    (try simp only [List.append_eq, List.cons_append, List.nil_append])
    go_region_held3 (fun W => W.cell? ⟨w.heap.size, 1, none⟩ = some (.slice p0 A0.length q0) ∧ W.cell? ⟨w.heap.size, 0, none⟩ = some (.bool n0) ∧ W.cell? ⟨w.heap.size + 1, 0, none⟩ = some (.bool n1) ∧ W.cell? ⟨w.heap.size + 1, 1, none⟩ = some (.slice p1 A1.length q1)) (go_keep)
      (first
        | (have pre := z1_12; go_at_call 6; refine (lawake_calls _).mono ?_; rintro e a1_13 ⟨rfl, z1_13⟩; have X1_13 := Ext.trans X1_12 z1_13; clear g0_1 g0_0 g1_0 g1_1; have g0_1 := (b0_1.out.ext (x2.trans X1_13)).1; have g0_0 := (b0_0.out.ext (x2.trans X1_13)).1; have g1_0 := (b1_0.out.ext (x2.trans X1_13)).1; have g1_1 := (b1_1.out.ext (x2.trans X1_13)).1)
        | (have pre := z1_11; go_at_call 31; refine (refcmp_is (i0.ext (y1.trans (x2.trans X1_11))) (i1.ext (y1.trans (x2.trans X1_11))) (by decide) (by decide) c HC.out).mono ?_; rintro e a1_12 ⟨rfl, z1_12⟩; have X1_12 := Ext.trans X1_11 z1_12; clear g0_1 g0_0 g1_0 g1_1; have g0_1 := (b0_1.out.ext (x2.trans X1_12)).1; have g0_0 := (b0_0.out.ext (x2.trans X1_12)).1; have g1_0 := (b1_0.out.ext (x2.trans X1_12)).1; have g1_1 := (b1_1.out.ext (x2.trans X1_12)).1)
        | (have pre := z1_10; go_at_call 30; refine (cmp_is (i0.ext (y1.trans (x2.trans X1_10))) (i1.ext (y1.trans (x2.trans X1_10))) (by decide) (by decide) c HC.out).mono ?_; rintro e a1_11 ⟨rfl, z1_11⟩; have X1_11 := Ext.trans X1_10 z1_11; clear g0_1 g0_0 g1_0 g1_1; have g0_1 := (b0_1.out.ext (x2.trans X1_11)).1; have g0_0 := (b0_0.out.ext (x2.trans X1_11)).1; have g1_0 := (b1_0.out.ext (x2.trans X1_11)).1; have g1_1 := (b1_1.out.ext (x2.trans X1_11)).1)
        | (have pre := z1_9; go_at_call 29; refine (refsign_is (i0.ext (y1.trans (x2.trans X1_9))) (by decide) g HG.out).mono ?_; rintro e a1_10 ⟨rfl, z1_10⟩; have X1_10 := Ext.trans X1_9 z1_10; clear g0_1 g0_0 g1_0 g1_1; have g0_1 := (b0_1.out.ext (x2.trans X1_10)).1; have g0_0 := (b0_0.out.ext (x2.trans X1_10)).1; have g1_0 := (b1_0.out.ext (x2.trans X1_10)).1; have g1_1 := (b1_1.out.ext (x2.trans X1_10)).1)
        | (have pre := z1_8; go_at_call 28; refine (sign_is (i0.ext (y1.trans (x2.trans X1_8))) (by decide) g HG.out).mono ?_; rintro e a1_9 ⟨rfl, z1_9⟩; have X1_9 := Ext.trans X1_8 z1_9; clear g0_1 g0_0 g1_0 g1_1; have g0_1 := (b0_1.out.ext (x2.trans X1_9)).1; have g0_0 := (b0_0.out.ext (x2.trans X1_9)).1; have g1_0 := (b1_0.out.ext (x2.trans X1_9)).1; have g1_1 := (b1_1.out.ext (x2.trans X1_9)).1)
        | (have pre := z1_7; go_at_call 14; refine (rsame_is (e9.ext z1_7) (e10.ext (Ext.refl _)) true (decide_eq_true (show (n : Int) = n from rfl))).mono ?_; rintro e a1_8 ⟨rfl, z1_8⟩; have X1_8 := Ext.trans X1_7 z1_8; clear g0_1 g0_0 g1_0 g1_1; have g0_1 := (b0_1.out.ext (x2.trans X1_8)).1; have g0_0 := (b0_0.out.ext (x2.trans X1_8)).1; have g1_0 := (b1_0.out.ext (x2.trans X1_8)).1; have g1_1 := (b1_1.out.ext (x2.trans X1_8)).1)
        | (have pre := z1_6; go_at_call 27; refine (refof_is _ n HN1.out HN2.out).mono ?_; rintro e a1_7 ⟨sb10, sv10, sm10, rfl, e10, z1_7⟩; have X1_7 := Ext.trans X1_6 z1_7; obtain ⟨sp10, sl10, sc10, rfl⟩ := e10.slice; clear g0_1 g0_0 g1_0 g1_1; have g0_1 := (b0_1.out.ext (x2.trans X1_7)).1; have g0_0 := (b0_0.out.ext (x2.trans X1_7)).1; have g1_0 := (b1_0.out.ext (x2.trans X1_7)).1; have g1_1 := (b1_1.out.ext (x2.trans X1_7)).1)
        | (have pre := z1_5; go_at_call 26; refine (of_is _ n HN1.out HN2.out).mono ?_; rintro e a1_6 ⟨sb9, sv9, sm9, rfl, e9, z1_6⟩; have X1_6 := Ext.trans X1_5 z1_6; obtain ⟨sp9, sl9, sc9, rfl⟩ := e9.slice; clear g0_1 g0_0 g1_0 g1_1; have g0_1 := (b0_1.out.ext (x2.trans X1_6)).1; have g0_0 := (b0_0.out.ext (x2.trans X1_6)).1; have g1_0 := (b1_0.out.ext (x2.trans X1_6)).1; have g1_1 := (b1_1.out.ext (x2.trans X1_6)).1)
        | (have pre := z1_4; go_at_call 25; refine (refmay_any (h0.ext (y1.trans (x2.trans X1_4))) n0 mb HMB.out).mono ?_; rintro e a1_5 ⟨rfl, z1_5⟩; have X1_5 := Ext.trans X1_4 z1_5; clear g0_1 g0_0 g1_0 g1_1; have g0_1 := (b0_1.out.ext (x2.trans X1_5)).1; have g0_0 := (b0_0.out.ext (x2.trans X1_5)).1; have g1_0 := (b1_0.out.ext (x2.trans X1_5)).1; have g1_1 := (b1_1.out.ext (x2.trans X1_5)).1)
        | (have pre := z1_3; go_at_call 24; refine (may_any (h0.ext (y1.trans (x2.trans X1_3))) n0 mb HMB.out).mono ?_; rintro e a1_4 ⟨rfl, z1_4⟩; have X1_4 := Ext.trans X1_3 z1_4; clear g0_1 g0_0 g1_0 g1_1; have g0_1 := (b0_1.out.ext (x2.trans X1_4)).1; have g0_0 := (b0_0.out.ext (x2.trans X1_4)).1; have g1_0 := (b1_0.out.ext (x2.trans X1_4)).1; have g1_1 := (b1_1.out.ext (x2.trans X1_4)).1)
        | (have pre := z1_2; go_at_call 14; refine (rsame_is (e4.ext z1_2) (e5.ext (Ext.refl _)) true (decide_eq_true (show (zn : Int) = zn from rfl))).mono ?_; rintro e a1_3 ⟨rfl, z1_3⟩; have X1_3 := Ext.trans X1_2 z1_3; clear g0_1 g0_0 g1_0 g1_1; have g0_1 := (b0_1.out.ext (x2.trans X1_3)).1; have g0_0 := (b0_0.out.ext (x2.trans X1_3)).1; have g1_0 := (b1_0.out.ext (x2.trans X1_3)).1; have g1_1 := (b1_1.out.ext (x2.trans X1_3)).1)
        | (have pre := z1_1; go_at_call 23; refine (refmake_is (j0.ext (y1.trans (x2.trans X1_1))) (by decide)).mono ?_; rintro e a1_2 ⟨sb5, sv5, sm5, rfl, e5, z1_2⟩; have X1_2 := Ext.trans X1_1 z1_2; obtain ⟨sp5, sl5, sc5, rfl⟩ := e5.slice; clear g0_1 g0_0 g1_0 g1_1; have g0_1 := (b0_1.out.ext (x2.trans X1_2)).1; have g0_0 := (b0_0.out.ext (x2.trans X1_2)).1; have g1_0 := (b1_0.out.ext (x2.trans X1_2)).1; have g1_1 := (b1_1.out.ext (x2.trans X1_2)).1)
        | (have pre := z1_0; go_at_call 22; refine (make_is (j0.ext (y1.trans (x2.trans X1_0))) (by decide)).mono ?_; rintro e a1_1 ⟨sb4, sv4, sm4, rfl, e4, z1_1⟩; have X1_1 := Ext.trans X1_0 z1_1; obtain ⟨sp4, sl4, sc4, rfl⟩ := e4.slice; clear g0_1 g0_0 g1_0 g1_1; have g0_1 := (b0_1.out.ext (x2.trans X1_1)).1; have g0_0 := (b0_0.out.ext (x2.trans X1_1)).1; have g1_0 := (b1_0.out.ext (x2.trans X1_1)).1; have g1_1 := (b1_1.out.ext (x2.trans X1_1)).1))
    clear g0_1 g0_0 g1_0 g1_1
    go_wp2_with fail
    go_ret
    exact ⟨rfl, (y1.trans (x2.trans X1_13))⟩

end Go.Proofs.YtomhfipgabpfiaaGreatDoor
