/- WholeTexts answers true at all whole numbers and texts. -/
import Derived.Test.YtomhfipgabpfiaaDoorLawTxt
namespace Go.Proofs.YtomhfipgabpfiaaDoor
open Go Go.RowKit


set_option maxHeartbeats 8000000 in
set_option maxRecDepth 100000 in
theorem wholeTexts_calls {w : World} {v0 : Value} {A0 : List Nat} (h0 : Limbs w v0 A0) (n0 : Bool) (s : ByteArray) (hs : s.size ≤ maxLen) :
    Calls Tryd.prog 3 #[.agg #[.bool n0, v0], .string s] w (Yes w) := by
  obtain ⟨p0, q0, rfl, -, -, -⟩ := h0.open
  unfold maxLen at hs
  have hsm : (s.size : Int) ≤ 9223372036854775807 := by omega
  clear hs
  obtain ⟨lb, hlb⟩ : ∃ b, decide (10 < A0.length) = b := ⟨_, rfl⟩
  cases lb with
  | true =>
    have HLB := Lib.hid hlb
    clear hlb
    go_enter Tryd.func3, Tryd.ntmps3
    go_wp2_with fail
    refine (ilong1_calls (h0.ext ((Ext.refl _).alloc _)) n0 true HLB.out (by simp)).mono ?_
    rintro e w1_ ⟨rfl, rfl⟩
    go_wp2_with fail
    refine (lawake_calls _).mono ?_
    rintro e w1 ⟨rfl, x1⟩
    have y1 := Ext.trans (((Ext.refl _).alloc _).alloc _) x1
    have b0_0 : Hid (At (w.heap.size) 0 (.bool n0) w1) := At.ext (At.n0 (by rfl)) (((Ext.refl _).alloc _).trans x1)
    have b0_1 : Hid (At (w.heap.size) 1 (.slice p0 A0.length q0) w1) := At.ext (At.n0 (by rfl)) (((Ext.refl _).alloc _).trans x1)
    go_wp2_with fail
    go_ret
    exact ⟨rfl, y1⟩
  | false =>
    have HLB := Lib.hid hlb
    simp at hlb
    have i0 : InI w n0 (.slice p0 A0.length q0) 10 (iv n0 A0) := ⟨A0, h0, rfl, by omega⟩
    obtain ⟨z0, hz0⟩ : ∃ z, iv n0 A0 = z := ⟨_, rfl⟩
    rw [hz0] at i0
    clear hlb
    clear hz0
    by_cases h300 : 300 < s.size
    · have hsz : (301 : Int) ≤ s.size := by omega
      clear h300
      go_enter Tryd.func3, Tryd.ntmps3
      go_wp2_with fail
      refine (ilong1_calls (h0.ext ((Ext.refl _).alloc _)) n0 false HLB.out (by simp)).mono ?_
      rintro e w1_ ⟨rfl, rfl⟩
      go_wp2_with fail
      refine (lawake_calls _).mono ?_
      rintro e w1 ⟨rfl, x1⟩
      have y1 := Ext.trans (((Ext.refl _).alloc _).alloc _) x1
      have b0_0 : Hid (At (w.heap.size) 0 (.bool n0) w1) := At.ext (At.n0 (by rfl)) (((Ext.refl _).alloc _).trans x1)
      have b0_1 : Hid (At (w.heap.size) 1 (.slice p0 A0.length q0) w1) := At.ext (At.n0 (by rfl)) (((Ext.refl _).alloc _).trans x1)
      go_wp2_with fail
      go_ret
      exact ⟨rfl, y1⟩
    · have hsz : (s.size : Int) ≤ 300 := by omega
      have HSZ : Hid (s.size ≤ 500) := by show _ ≤ _; omega
      clear h300
      obtain ⟨k, hk⟩ : ∃ k, ((errI s.data.toList : Nat) : Int) = k := ⟨_, rfl⟩
      obtain ⟨z, hz⟩ : ∃ z, readI s.data.toList = z := ⟨_, rfl⟩
      obtain ⟨t, ht⟩ := str_of (showI z0)
      have HK := Lib.hid hk
      have HZ := Lib.hid hz
      have HT := Lib.hid ht
      have HL : Hid ((showL z0.natAbs).length ≤ 4294967296) := by show _ ≤ _; have := i0.len.show (by decide); omega
      clear hk hz ht
      go_enter Tryd.func3, Tryd.ntmps3
      go_wp2_with fail
      refine (ilong1_calls (h0.ext ((Ext.refl _).alloc _)) n0 false HLB.out (by simp)).mono ?_
      rintro e w1_ ⟨rfl, rfl⟩
      go_wp2_with fail
      refine (read_is s _ HSZ.out k z HK.out HZ.out).mono ?_
      rintro e w1 ⟨sb2, sv2, sm2, rfl, e2, x1⟩
      have y1 := Ext.trans (((Ext.refl _).alloc _).alloc _) x1
      have b0_0 : Hid (At (w.heap.size) 0 (.bool n0) w1) := At.ext (At.n0 (by rfl)) (((Ext.refl _).alloc _).trans x1)
      have b0_1 : Hid (At (w.heap.size) 1 (.slice p0 A0.length q0) w1) := At.ext (At.n0 (by rfl)) (((Ext.refl _).alloc _).trans x1)
      obtain ⟨sp2, sl2, sc2, rfl⟩ := e2.slice
      go_wp2_with fail
      refine (refread_is s _ HSZ.out k z HK.out HZ.out).mono ?_
      rintro e w2 ⟨sb3, sv3, sm3, rfl, e3, x2⟩
      have y2 := Ext.trans ((Ext.refl _).alloc _) x2
      have b2_0 : Hid (At (w1.heap.size) 0 (.bool sb2) w2) := At.ext (At.n0 (by rfl)) x2
      have b2_1 : Hid (At (w1.heap.size) 1 (.slice sp2 sl2 sc2) w2) := At.ext (At.n0 (by rfl)) x2
      obtain ⟨sp3, sl3, sc3, rfl⟩ := e3.slice
      go_wp2_with fail
      obtain ⟨v3, hv3⟩ : ∃ W, W = (w2.alloc (.cells #[.bool sb3, .slice sp3 sl3 sc3] 25)) := ⟨_, rfl⟩
      have y3 : Ext w2 v3 := by rw [hv3]; exact ((Ext.refl _).alloc _)
      have b3_0 : Hid (At (w2.heap.size) 0 (.bool sb3) v3) := by rw [hv3]; exact At.ext (At.n0 (by rfl)) (Ext.refl _)
      have b3_1 : Hid (At (w2.heap.size) 1 (.slice sp3 sl3 sc3) v3) := by rw [hv3]; exact At.ext (At.n0 (by rfl)) (Ext.refl _)
      rw [← hv3]
      clear hv3
      have X1_0 := (Ext.refl v3).drew
      have z1_0 := X1_0
      have g0_0 := (b0_0.out.ext (y2.trans (y3.trans X1_0))).1
      have g0_1 := (b0_1.out.ext (y2.trans (y3.trans X1_0))).1
      have g2_0 := (b2_0.out.ext (y3.trans X1_0)).1
      have g2_1 := (b2_1.out.ext (y3.trans X1_0)).1
      have g3_0 := (b3_0.out.ext X1_0).1
      have g3_1 := (b3_1.out.ext X1_0).1
      (try simp only [List.append_eq, List.cons_append, List.nil_append])
      go_region_held3 (fun W => W.cell? ⟨w.heap.size, 0, none⟩ = some (.bool n0) ∧ W.cell? ⟨w.heap.size, 1, none⟩ = some (.slice p0 A0.length q0) ∧ W.cell? ⟨w1.heap.size, 0, none⟩ = some (.bool sb2) ∧ W.cell? ⟨w1.heap.size, 1, none⟩ = some (.slice sp2 sl2 sc2) ∧ W.cell? ⟨w2.heap.size, 0, none⟩ = some (.bool sb3) ∧ W.cell? ⟨w2.heap.size, 1, none⟩ = some (.slice sp3 sl3 sc3)) (go_keep)
        (first
          | (have pre := z1_3; go_at_call 12; refine (lawake_calls _).mono ?_; rintro e a1_4 ⟨rfl, z1_4⟩; have X1_4 := Ext.trans X1_3 z1_4; clear g0_0 g0_1 g2_0 g2_1 g3_0 g3_1; have g0_0 := (b0_0.out.ext (y2.trans (y3.trans X1_4))).1; have g0_1 := (b0_1.out.ext (y2.trans (y3.trans X1_4))).1; have g2_0 := (b2_0.out.ext (y3.trans X1_4)).1; have g2_1 := (b2_1.out.ext (y3.trans X1_4)).1; have g3_0 := (b3_0.out.ext X1_4).1; have g3_1 := (b3_1.out.ext X1_4).1)
          | (have pre := z1_2; go_at_call 17; refine (rsame_is (e2.ext (y2.trans (y3.trans X1_2))) (e3.ext (y3.trans X1_2)) true (decide_eq_true (show (z : Int) = z from rfl))).mono ?_; rintro e a1_3 ⟨rfl, z1_3⟩; have X1_3 := Ext.trans X1_2 z1_3; clear g0_0 g0_1 g2_0 g2_1 g3_0 g3_1; have g0_0 := (b0_0.out.ext (y2.trans (y3.trans X1_3))).1; have g0_1 := (b0_1.out.ext (y2.trans (y3.trans X1_3))).1; have g2_0 := (b2_0.out.ext (y3.trans X1_3)).1; have g2_1 := (b2_1.out.ext (y3.trans X1_3)).1; have g3_0 := (b3_0.out.ext X1_3).1; have g3_1 := (b3_1.out.ext X1_3).1)
          | (have pre := z1_1; go_at_call 16; refine (refshow_is (i0.ext (y1.trans (y2.trans (y3.trans X1_1)))) (by decide) t HT.out HL.out).mono ?_; rintro e a1_2 ⟨rfl, z1_2⟩; have X1_2 := Ext.trans X1_1 z1_2; clear g0_0 g0_1 g2_0 g2_1 g3_0 g3_1; have g0_0 := (b0_0.out.ext (y2.trans (y3.trans X1_2))).1; have g0_1 := (b0_1.out.ext (y2.trans (y3.trans X1_2))).1; have g2_0 := (b2_0.out.ext (y3.trans X1_2)).1; have g2_1 := (b2_1.out.ext (y3.trans X1_2)).1; have g3_0 := (b3_0.out.ext X1_2).1; have g3_1 := (b3_1.out.ext X1_2).1)
          | (have pre := z1_0; go_at_call 15; refine (show_is (i0.ext (y1.trans (y2.trans (y3.trans X1_0)))) (by decide) t HT.out HL.out).mono ?_; rintro e a1_1 ⟨rfl, z1_1⟩; have X1_1 := Ext.trans X1_0 z1_1; clear g0_0 g0_1 g2_0 g2_1 g3_0 g3_1; have g0_0 := (b0_0.out.ext (y2.trans (y3.trans X1_1))).1; have g0_1 := (b0_1.out.ext (y2.trans (y3.trans X1_1))).1; have g2_0 := (b2_0.out.ext (y3.trans X1_1)).1; have g2_1 := (b2_1.out.ext (y3.trans X1_1)).1; have g3_0 := (b3_0.out.ext X1_1).1; have g3_1 := (b3_1.out.ext X1_1).1))
      clear g0_0 g0_1 g2_0 g2_1 g3_0 g3_1
      go_wp2_with fail
      go_ret
      exact ⟨rfl, (y1.trans (y2.trans (y3.trans X1_4)))⟩

end Go.Proofs.YtomhfipgabpfiaaDoor
