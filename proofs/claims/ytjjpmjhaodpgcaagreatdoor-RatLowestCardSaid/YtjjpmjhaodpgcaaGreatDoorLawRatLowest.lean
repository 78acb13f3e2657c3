/- RatLowest answers true at all numerators and denominators. -/
import Derived.Test.YtjjpmjhaodpgcaaGreatDoorPartG
namespace Go.Proofs.YtjjpmjhaodpgcaaGreatDoor
open Go Go.RowKit

theorem mk_cross {z : Int} {d : Nat} (hd : d ≠ 0) : (mkRat z d).num.natAbs * d = z.natAbs * (mkRat z d).den := by
  rw [mk_abs hd, mk_den hd]
  obtain ⟨a, ha⟩ := Nat.gcd_dvd_left z.natAbs d
  obtain ⟨b, hb⟩ := Nat.gcd_dvd_right z.natAbs d
  have hg : 0 < Nat.gcd z.natAbs d := Nat.gcd_pos_of_pos_right _ (Nat.pos_of_ne_zero hd)
  generalize Nat.gcd z.natAbs d = g at *
  rw [ha, hb, Nat.mul_div_cancel_left _ hg, Nat.mul_div_cancel_left _ hg]
  simp [Nat.mul_comm, Nat.mul_left_comm]

set_option maxHeartbeats 8000000 in
set_option maxRecDepth 100000 in
theorem ratLowest_calls {w : World} {v0 u0 : Value} {A0 B0 : List Nat} (h0 : Limbs w v0 A0) (g0 : Limbs w u0 B0) (n0 : Bool) :
    Calls Tryz.prog 5 #[.agg #[.bool n0, v0], u0] w (Yes w) := by
  obtain ⟨p0, q0, rfl, -, -, -⟩ := h0.open
  obtain ⟨p0', q0', rfl, -, -, -⟩ := g0.open
  obtain ⟨lb, hlb⟩ : ∃ b, longR [(n0, A0, B0)] = b := ⟨_, rfl⟩
  cases lb with
  | true =>
    have HLB := Lib.hid hlb
    clear hlb
    go_enter Tryz.func5, Tryz.ntmps5
    go_wp2_with fail
    obtain ⟨v1, hv1⟩ : ∃ W, W = ((w.alloc (.cells #[.bool n0, .slice p0 A0.length q0] 25)).alloc (.cells #[.bool n0, .slice p0 A0.length q0, .slice p0' B0.length q0'] 27)) := ⟨_, rfl⟩
    have y1 : Ext w v1 := by rw [hv1]; exact (((Ext.refl _).alloc _).alloc _)
    have b0_0 : Hid (At (w.heap.size) 0 (.bool n0) v1) := by rw [hv1]; exact At.ext (At.n0 (by rfl)) ((Ext.refl _).alloc _)
    have b0_1 : Hid (At (w.heap.size) 1 (.slice p0 A0.length q0) v1) := by rw [hv1]; exact At.ext (At.n0 (by rfl)) ((Ext.refl _).alloc _)
    have k0 : Hid (Bx 2 (w.heap.size) v1) := by rw [hv1]; exact Bx.gr (Bx.n0 2 ⟨rfl, by decide⟩ (by decide) noI_s2) (Ext.gr ((Ext.refl _).alloc _))
    have u0 : Hid (w.heap.size < v1.heap.size) := b0_0.out.2
    have b1_0 : Hid (At (w.heap.size + 1) 0 (.bool n0) v1) := by rw [hv1]; exact At.ext (At.n1 (by rfl)) (Ext.refl _)
    have b1_1 : Hid (At (w.heap.size + 1) 1 (.slice p0 A0.length q0) v1) := by rw [hv1]; exact At.ext (At.n1 (by rfl)) (Ext.refl _)
    have b1_2 : Hid (At (w.heap.size + 1) 2 (.slice p0' B0.length q0') v1) := by rw [hv1]; exact At.ext (At.n1 (by rfl)) (Ext.refl _)
    have k1 : Hid (Bx 3 (w.heap.size + 1) v1) := by rw [hv1]; exact Bx.gr (Bx.n1 3 ⟨rfl, by decide⟩ (by decide) noI_s3) (Ext.gr (Ext.refl _))
    have u1 : Hid (w.heap.size + 1 < v1.heap.size) := b1_0.out.2
    have e1_ : Ext w v1 := y1
    rw [← hv1]
    clear hv1
    refine (long_calls (Ls := [(n0, A0, B0)]) (sl3_1 (b1_0.out) (b1_1.out) (b1_2.out) (⟨rfl, (h0.ext y1), (g0.ext y1)⟩)) true HLB.out).mono ?_
    rintro e w2 ⟨rfl, x2⟩
    have e2_ : Ext w w2 := Ext.trans e1_ x2
    go_wp2_with fail
    refine (awake06_calls _).mono ?_
    rintro e w3 ⟨rfl, x3⟩
    have e3_ : Ext w w3 := Ext.trans e2_ x3
    go_wp2_with fail
    go_ret
    exact ⟨rfl, e3_⟩
  | false =>
    have HLB := Lib.hid hlb
    have HLA0 : Hid (A0.length ≤ 6) := (longR_get hlb (a := (n0, A0, B0)) (by simp)).1
    have HLB0 : Hid (B0.length ≤ 6) := (longR_get hlb (a := (n0, A0, B0)) (by simp)).2
    have j0 : InN w (.slice p0' B0.length q0') 6 (val B0) := ⟨B0, g0, rfl, HLB0.out⟩
    obtain ⟨q, hq⟩ : ∃ z, mkRat (iv n0 A0) (val B0) = z := ⟨_, rfl⟩
    have HQ := Lib.hid hq
    clear hlb
    by_cases hb : val B0 = 0
    case pos =>
      have HB0 := Lib.hid hb
      have HZB : Hid (decide (val B0 = 0) = true) := decide_eq_true hb
      clear hb hq
      go_enter Tryz.func5, Tryz.ntmps5
      go_wp2_with fail
      obtain ⟨v1, hv1⟩ : ∃ W, W = ((w.alloc (.cells #[.bool n0, .slice p0 A0.length q0] 25)).alloc (.cells #[.bool n0, .slice p0 A0.length q0, .slice p0' B0.length q0'] 27)) := ⟨_, rfl⟩
      have y1 : Ext w v1 := by rw [hv1]; exact (((Ext.refl _).alloc _).alloc _)
      have b0_0 : Hid (At (w.heap.size) 0 (.bool n0) v1) := by rw [hv1]; exact At.ext (At.n0 (by rfl)) ((Ext.refl _).alloc _)
      have b0_1 : Hid (At (w.heap.size) 1 (.slice p0 A0.length q0) v1) := by rw [hv1]; exact At.ext (At.n0 (by rfl)) ((Ext.refl _).alloc _)
      have k0 : Hid (Bx 2 (w.heap.size) v1) := by rw [hv1]; exact Bx.gr (Bx.n0 2 ⟨rfl, by decide⟩ (by decide) noI_s2) (Ext.gr ((Ext.refl _).alloc _))
      have u0 : Hid (w.heap.size < v1.heap.size) := b0_0.out.2
      have b1_0 : Hid (At (w.heap.size + 1) 0 (.bool n0) v1) := by rw [hv1]; exact At.ext (At.n1 (by rfl)) (Ext.refl _)
      have b1_1 : Hid (At (w.heap.size + 1) 1 (.slice p0 A0.length q0) v1) := by rw [hv1]; exact At.ext (At.n1 (by rfl)) (Ext.refl _)
      have b1_2 : Hid (At (w.heap.size + 1) 2 (.slice p0' B0.length q0') v1) := by rw [hv1]; exact At.ext (At.n1 (by rfl)) (Ext.refl _)
      have k1 : Hid (Bx 3 (w.heap.size + 1) v1) := by rw [hv1]; exact Bx.gr (Bx.n1 3 ⟨rfl, by decide⟩ (by decide) noI_s3) (Ext.gr (Ext.refl _))
      have u1 : Hid (w.heap.size + 1 < v1.heap.size) := b1_0.out.2
      have e1_ : Ext w v1 := y1
      rw [← hv1]
      clear hv1
      refine (long_calls (Ls := [(n0, A0, B0)]) (sl3_1 (b1_0.out) (b1_1.out) (b1_2.out) (⟨rfl, (h0.ext y1), (g0.ext y1)⟩)) false HLB.out).mono ?_
      rintro e w2 ⟨rfl, x2⟩
      have e2_ : Ext w w2 := Ext.trans e1_ x2
      go_wp2_with fail
      refine (awake06_calls _).mono ?_
      rintro e w3 ⟨rfl, x3⟩
      have e3_ : Ext w w3 := Ext.trans e2_ x3
      have g0_0 := (b0_0.out.ext (x2.trans x3)).1
      have g0_1 := (b0_1.out.ext (x2.trans x3)).1
      have f0 : w.heap.size < w3.heap.size := (b0_0.out.ext (x2.trans x3)).2
      go_wp2_with fail
      refine (rmake_zero ⟨_, (h0.ext (y1.trans (x2.trans x3))), rfl, HLA0.out⟩ (j0.ext (y1.trans (x2.trans x3))) HB0.out (by decide) (by decide)).mono ?_
      rintro e w4 ⟨rfl, x4⟩
      have e4_ : Ext w w4 := Ext.trans e3_ x4
      clear g0_0 g0_1 f0
      go_wp2_with fail
      obtain ⟨v5, hv5⟩ : ∃ W, W = (w4.alloc (.cells #[.bool false, .slice none 0 0, .slice none 0 0] 27)) := ⟨_, rfl⟩
      have y5 : Ext w4 v5 := by rw [hv5]; exact ((Ext.refl _).alloc _)
      have b2_0 : Hid (At (w4.heap.size) 0 (.bool false) v5) := by rw [hv5]; exact At.ext (At.n0 (by rfl)) (Ext.refl _)
      have b2_1 : Hid (At (w4.heap.size) 1 (.slice none 0 0) v5) := by rw [hv5]; exact At.ext (At.n0 (by rfl)) (Ext.refl _)
      have b2_2 : Hid (At (w4.heap.size) 2 (.slice none 0 0) v5) := by rw [hv5]; exact At.ext (At.n0 (by rfl)) (Ext.refl _)
      have k2 : Hid (Bx 3 (w4.heap.size) v5) := by rw [hv5]; exact Bx.gr (Bx.n0 3 ⟨rfl, by decide⟩ (by decide) noI_s3) (Ext.gr (Ext.refl _))
      have u2 : Hid (w4.heap.size < v5.heap.size) := b2_0.out.2
      have e5_ : Ext w v5 := Ext.trans e4_ y5
      rw [← hv5]
      clear hv5
      refine (nzero_n (j0.ext (y1.trans (x2.trans (x3.trans (x4.trans y5))))) (by decide) true HZB.out).mono ?_
      rintro e w6 ⟨rfl, x6⟩
      have e6_ : Ext w w6 := Ext.trans e5_ x6
      go_wp2_with fail
      go_ret
      exact ⟨rfl, e6_⟩
    have HB1 : Hid (val B0 ≠ 0) := hb
    have HZB1 : Hid (decide (val B0 = 0) = false) := decide_eq_false hb
    have HLQ : Hid (LenR 6 q) := lenR_raw h0 g0 hq HLA0.out HLB0.out (by decide)
    have HCR : Hid (q.num.natAbs * val B0 = val A0 * q.den) := by show _ = _; rw [← hq, mk_cross hb, iv_abs]
    have hsg := mk_sign (z := iv n0 A0) hb
    rw [hq] at hsg
    cases n0 with
    | false =>
      have HF : Hid (decide (q.num < 0) = false) := by
        show _ = _
        rw [decide_eq_false_iff_not, hsg]; unfold iv; simp
      clear hb hq hsg
      go_enter Tryz.func5, Tryz.ntmps5
      go_wp2_with fail
      obtain ⟨v1, hv1⟩ : ∃ W, W = ((w.alloc (.cells #[.bool false, .slice p0 A0.length q0] 25)).alloc (.cells #[.bool false, .slice p0 A0.length q0, .slice p0' B0.length q0'] 27)) := ⟨_, rfl⟩
      have y1 : Ext w v1 := by rw [hv1]; exact (((Ext.refl _).alloc _).alloc _)
      have b0_0 : Hid (At (w.heap.size) 0 (.bool false) v1) := by rw [hv1]; exact At.ext (At.n0 (by rfl)) ((Ext.refl _).alloc _)
      have b0_1 : Hid (At (w.heap.size) 1 (.slice p0 A0.length q0) v1) := by rw [hv1]; exact At.ext (At.n0 (by rfl)) ((Ext.refl _).alloc _)
      have k0 : Hid (Bx 2 (w.heap.size) v1) := by rw [hv1]; exact Bx.gr (Bx.n0 2 ⟨rfl, by decide⟩ (by decide) noI_s2) (Ext.gr ((Ext.refl _).alloc _))
      have u0 : Hid (w.heap.size < v1.heap.size) := b0_0.out.2
      have b1_0 : Hid (At (w.heap.size + 1) 0 (.bool false) v1) := by rw [hv1]; exact At.ext (At.n1 (by rfl)) (Ext.refl _)
      have b1_1 : Hid (At (w.heap.size + 1) 1 (.slice p0 A0.length q0) v1) := by rw [hv1]; exact At.ext (At.n1 (by rfl)) (Ext.refl _)
      have b1_2 : Hid (At (w.heap.size + 1) 2 (.slice p0' B0.length q0') v1) := by rw [hv1]; exact At.ext (At.n1 (by rfl)) (Ext.refl _)
      have k1 : Hid (Bx 3 (w.heap.size + 1) v1) := by rw [hv1]; exact Bx.gr (Bx.n1 3 ⟨rfl, by decide⟩ (by decide) noI_s3) (Ext.gr (Ext.refl _))
      have u1 : Hid (w.heap.size + 1 < v1.heap.size) := b1_0.out.2
      have e1_ : Ext w v1 := y1
      rw [← hv1]
      clear hv1
      refine (long_calls (Ls := [(false, A0, B0)]) (sl3_1 (b1_0.out) (b1_1.out) (b1_2.out) (⟨rfl, (h0.ext y1), (g0.ext y1)⟩)) false HLB.out).mono ?_
      rintro e w2 ⟨rfl, x2⟩
      have e2_ : Ext w w2 := Ext.trans e1_ x2
      go_wp2_with fail
      refine (awake06_calls _).mono ?_
      rintro e w3 ⟨rfl, x3⟩
      have e3_ : Ext w w3 := Ext.trans e2_ x3
      have g0_0 := (b0_0.out.ext (x2.trans x3)).1
      have g0_1 := (b0_1.out.ext (x2.trans x3)).1
      have f0 : w.heap.size < w3.heap.size := (b0_0.out.ext (x2.trans x3)).2
      go_wp2_with fail
      refine (rmake_is (q := q) ⟨_, (h0.ext (y1.trans (x2.trans x3))), rfl, HLA0.out⟩ (j0.ext (y1.trans (x2.trans x3))) HB1.out (by decide) (by decide) HQ.out).mono ?_
      rintro e w4 ⟨sb3, sv3, su3, sm3, sd3, rfl, e3, o3, x4⟩
      have e4_ : Ext w w4 := Ext.trans e3_ x4
      have hsb : sb3 = false := e3.1.symm.trans HF.out
      subst hsb
      obtain ⟨sp3, sl3, sc3, tp3, tl3, tc3, rfl, rfl⟩ := e3.slice
      clear g0_0 g0_1 f0
      go_wp2_with fail
      obtain ⟨v5, hv5⟩ : ∃ W, W = (w4.alloc (.cells #[.bool false, .slice sp3 sl3 sc3, .slice tp3 tl3 tc3] 27)) := ⟨_, rfl⟩
      have y5 : Ext w4 v5 := by rw [hv5]; exact ((Ext.refl _).alloc _)
      have b2_0 : Hid (At (w4.heap.size) 0 (.bool false) v5) := by rw [hv5]; exact At.ext (At.n0 (by rfl)) (Ext.refl _)
      have b2_1 : Hid (At (w4.heap.size) 1 (.slice sp3 sl3 sc3) v5) := by rw [hv5]; exact At.ext (At.n0 (by rfl)) (Ext.refl _)
      have b2_2 : Hid (At (w4.heap.size) 2 (.slice tp3 tl3 tc3) v5) := by rw [hv5]; exact At.ext (At.n0 (by rfl)) (Ext.refl _)
      have k2 : Hid (Bx 3 (w4.heap.size) v5) := by rw [hv5]; exact Bx.gr (Bx.n0 3 ⟨rfl, by decide⟩ (by decide) noI_s3) (Ext.gr (Ext.refl _))
      have u2 : Hid (w4.heap.size < v5.heap.size) := b2_0.out.2
      have e5_ : Ext w v5 := Ext.trans e4_ y5
      rw [← hv5]
      clear hv5
      refine (nzero_n (j0.ext (y1.trans (x2.trans (x3.trans (x4.trans y5))))) (by decide) false HZB1.out).mono ?_
      rintro e w6 ⟨rfl, x6⟩
      have e6_ : Ext w w6 := Ext.trans e5_ x6
      have g2_1 := (b2_1.out.ext x6).1
      have g2_2 := (b2_2.out.ext x6).1
      have f2 : w4.heap.size < w6.heap.size := (b2_0.out.ext x6).2
      go_wp2_with fail
      refine (gcd_n (Limbs.inN (k := 6) (e3.ext (y5.trans x6)).mag HLQ.out.1) (Limbs.inN (k := 6) (e3.ext (y5.trans x6)).den HLQ.out.2) (by decide) (by decide)).mono ?_
      rintro e w7 ⟨sv5, rfl, o5, x7⟩
      have e7_ : Ext w w7 := Ext.trans e6_ x7
      obtain ⟨sp5, sl5, sc5, rfl⟩ := o5.slice'
      clear g2_1 g2_2 f2
      go_wp2_with fail
      have hkeep1 : AllAt' ([(w.heap.size, 0, .bool false), (w.heap.size, 1, .slice p0 A0.length q0), (w4.heap.size, 0, .bool false), (w4.heap.size, 1, .slice sp3 sl3 sc3), (w4.heap.size, 2, .slice tp3 tl3 tc3)] : List (Nat × Nat × Value)) w7 := AllAt'.cons (b0_0.out.ext (x2.trans (x3.trans (x4.trans (y5.trans (x6.trans x7)))))) (AllAt'.cons (b0_1.out.ext (x2.trans (x3.trans (x4.trans (y5.trans (x6.trans x7)))))) (AllAt'.cons (b2_0.out.ext (x6.trans x7)) (AllAt'.cons (b2_1.out.ext (x6.trans x7)) (AllAt'.cons (b2_2.out.ext (x6.trans x7)) (AllAt'.nil _)))))
      have hob1 : ObOk w.heap.size w7 (([(w.heap.size, 0, .bool false), (w.heap.size, 1, .slice p0 A0.length q0), (w4.heap.size, 0, .bool false), (w4.heap.size, 1, .slice sp3 sl3 sc3), (w4.heap.size, 2, .slice tp3 tl3 tc3)] : List (Nat × Nat × Value)).map (·.1)) ([] : List (Nat × List (Nat × Value))) := trivial
      have hne1 : AllNe (([] : List (Nat × List (Nat × Value))).map (·.1)) := trivial
      (try simp only [List.append_eq, List.cons_append, List.nil_append])
      refine wp_region_gen ⟨[37, 38, 39, 40, 41, 42, 43, 44, 45, 46, 47, 48, 49, 50, 51, 52, 53, 54, 55, 56, 57, 58, 59, 60, 61, 62, 63, 64, 65, 66, 67, 68, 69, 70, 71, 72, 73, 74, 75, 76, 77, 78, 4], fun i => false, fun i => ([none, none, none, none, none, none, none, none, none, none, none, none, none, none, none, none, none, none, none, none, none, none, none, none, none, none, none, none, none, none, none, none, none, none, none, none, none, none, none, none, none, none, none] : List (Option (BoxRef × Nat))).getD i none, fun i => ([Sg.ratO w.heap.size q, Sg.val (.bool true), Sg.val (.bool true), Sg.natO w.heap.size (Nat.gcd (q).num.natAbs (q).den), Sg.nat 1, Sg.val (.int .i64 0), Sg.val (.bool true), Sg.val (.bool true), Sg.val (.bool true), Sg.val (.pointer (some ⟨w4.heap.size, 0, none⟩)), Sg.val (.pointer (some ⟨w4.heap.size, 1, none⟩)), Sg.val (.slice sp3 sl3 sc3), Sg.val (.slice p0' B0.length q0'), Sg.natO w.heap.size ((q).num.natAbs * (val B0)), Sg.val (.pointer (some ⟨w.heap.size, 1, none⟩)), Sg.val (.slice p0 A0.length q0), Sg.val (.pointer (some ⟨w4.heap.size, 2, none⟩)), Sg.val (.slice tp3 tl3 tc3), Sg.natO w.heap.size ((val A0) * (q).den), Sg.val (.int .i64 0), Sg.val (.bool true), Sg.val (.bool true), Sg.val (.bool true), Sg.val (.pointer (some ⟨w4.heap.size, 0, none⟩)), Sg.val (.pointer (some ⟨w4.heap.size, 0, none⟩)), Sg.val (.bool false), Sg.val (.pointer (some ⟨w.heap.size, 0, none⟩)), Sg.val (.bool false), Sg.val (.bool false), Sg.val undef, Sg.val undef, Sg.val undef, Sg.val undef, Sg.val (.bool false), Sg.val (.bool true), Sg.val (.bool true), Sg.val (.bool true), Sg.val (.pointer (some ⟨w4.heap.size, 2, none⟩)), Sg.val (.slice tp3 tl3 tc3), Sg.val (.bool false), Sg.val (.bool true), Sg.val (.bool true), Sg.val (.bool true)] : List Sg).getD i Sg.any, [(w.heap.size, 0, .bool false), (w.heap.size, 1, .slice p0 A0.length q0), (w4.heap.size, 0, .bool false), (w4.heap.size, 1, .slice sp3 sl3 sc3), (w4.heap.size, 2, .slice tp3 tl3 tc3)], []⟩ w.heap.size (by kernel_rfl) (by kernel_rfl) e7_.size ?hfr hkeep1 hob1 hne1 ?hs ?he
      case hfr =>
        intro i v wk hi hst hv
        exact absurd hi (by simp)
      case hs =>
        refine ⟨?_, ?_, ?_, ?_, ?_, ?_, ?_, ?_, ?_, ?_, ?_, ?_, ?_, ?_, ?_, ?_, ?_, ?_, ?_, ?_, ?_, ?_, ?_, ?_, ?_, ?_, ?_, ?_, ?_, ?_, ?_, ?_, ?_, ?_, ?_, ?_, ?_, ?_, ?_, ?_, ?_, ?_, ?_, trivial⟩
        · refine RStep.op rfl rfl (fun ac wk hp K hK => ?_)
          have t5_ : ac.tmps[5]?.getD undef = .pointer (some ⟨w4.heap.size, 0, none⟩) := hp.slot 5 rfl rfl
          have c0_ := hp.cell 2 rfl
          have c1_ := hp.cell 3 rfl
          have c2_ := hp.cell 4 rfl
          have HP := Lib.hid hp
          clear hp
          go_simp
          refine hK.out _ _ ?_ (Ext.refl _) (fun h => absurd h (by simp))
          exact ⟨_, _, _, _, _, _, _, _, _, rfl, (e3.gr ((y5.gr.trans (x6.gr.trans x7.gr)).trans HP.out.gr)), ((o3.gr ((y5.gr.trans (x6.gr.trans x7.gr)).trans HP.out.gr)).mono e3_.size)⟩
        · refine RStep.op rfl rfl (fun ac wk hp K hK => ?_)
          obtain ⟨u0b, u0p, u0n, u0c, u0q, u0k, u0d, u0m, u0l, u0e, u0i, u0o⟩ := hp.get 0 (by decide +kernel) rfl
          have t37_ : ac.tmps[37]?.getD undef = .agg #[.bool u0b, .slice u0p u0n u0c, .slice u0q u0k u0d] := slot_is' u0e
          have HP := Lib.hid hp
          clear hp
          go_simp
          refine (rmay_is u0i HLQ.out (by decide)).mono ?_
          rintro e wk' ⟨rfl, ix⟩
          refine hK.out _ _ ?_ ix (fun h => absurd h (by simp))
          exact rfl
        · refine RStep.op rfl rfl (fun ac wk hp K hK => ?_)
          have u1e := hp.get 1 (by decide +kernel) rfl
          have t38_ : ac.tmps[38]?.getD undef = .bool true := slot_is' u1e
          have HP := Lib.hid hp
          clear hp
          go_simp
          refine hK.out _ _ ?_ (Ext.refl _) (fun h => absurd h (by simp))
          exact rfl
        · refine RStep.yes 2 true rfl rfl (by decide +kernel) rfl rfl (fun ac wk hp K hK => ?_)
          have t7_ : ac.tmps[7]?.getD undef = .slice sp5 sl5 sc5 := hp.slot 7 rfl rfl
          have HP := Lib.hid hp
          clear hp
          go_simp
          refine hK.out _ _ ?_ (Ext.refl _) (fun h => absurd h (by simp))
          exact ⟨_, _, _, rfl, ((o5.gr HP.out.gr).mono e6_.size)⟩
        · refine RStep.yes 2 true rfl rfl (by decide +kernel) rfl rfl (fun ac wk hp K hK => ?_)
          have HP := Lib.hid hp
          clear hp
          go_simp
          exact hK.out _ _ ⟨_, _, _, rfl, lit_dig (lit_n0 [1] (by decide) rfl 1 rfl (by decide)) (by decide) (by decide)⟩ ((Ext.refl _).alloc _) (fun h => absurd h (by simp))
        · refine RStep.yes 2 true rfl rfl (by decide +kernel) rfl rfl (fun ac wk hp K hK => ?_)
          obtain ⟨u3p, u3n, u3c, u3e, u3o⟩ := hp.get 3 (by decide +kernel) rfl
          have t40_ : ac.tmps[40]?.getD undef = .slice u3p u3n u3c := slot_is' u3e
          obtain ⟨u4p, u4n, u4c, u4e, u4i⟩ := hp.get 4 (by decide +kernel) rfl
          have t41_ : ac.tmps[41]?.getD undef = .slice u4p u4n u4c := slot_is' u4e
          have HP := Lib.hid hp
          clear hp
          go_simp
          refine (ncmp_n (Limbs.inN (k := 6) u3o.limbs (gcd_lt HLQ.out.2 q.den_nz)) (Limbs.inN (k := 1) u4i (by rw [Nat.pow_one]; exact small_Bs (n := 1) (by decide))) (by decide) (by decide) 0 (by rw [q.reduced]; rfl)).mono ?_
          rintro e wk' ⟨rfl, ix⟩
          refine hK.out _ _ ?_ ix (fun h => absurd h (by simp))
          exact rfl
        · refine RStep.yes 2 true rfl rfl (by decide +kernel) rfl rfl (fun ac wk hp K hK => ?_)
          have u5e := hp.get 5 (by decide +kernel) rfl
          have t42_ : ac.tmps[42]?.getD undef = .int .i64 0 := slot_is' u5e
          have HP := Lib.hid hp
          clear hp
          go_simp
          refine hK.out _ _ ?_ (Ext.refl _) (fun h => absurd h (by simp))
          exact rfl
        · refine RStep.op rfl rfl (fun ac wk hp K hK => ?_)
          have u2e := hp.get 2 (by decide +kernel) rfl
          have t39_ : ac.tmps[39]?.getD undef = .bool true := slot_is' u2e
          have u6e := hp.get 6 (by decide +kernel) rfl
          have t43_ : ac.tmps[43]?.getD undef = .bool true := slot_is' u6e
          have HP := Lib.hid hp
          clear hp
          go_simp
          refine hK.out _ _ ?_ (Ext.refl _) (fun h => absurd h (by simp))
          exact rfl
        · refine RStep.op rfl rfl (fun ac wk hp K hK => ?_)
          have u7e := hp.get 7 (by decide +kernel) rfl
          have t44_ : ac.tmps[44]?.getD undef = .bool true := slot_is' u7e
          have HP := Lib.hid hp
          clear hp
          go_simp
          refine hK.out _ _ ?_ (Ext.refl _) (fun h => absurd h (by simp))
          exact rfl
        · refine RStep.yes 8 true rfl rfl (by decide +kernel) rfl rfl (fun ac wk hp K hK => ?_)
          have t5_ : ac.tmps[5]?.getD undef = .pointer (some ⟨w4.heap.size, 0, none⟩) := hp.slot 5 rfl rfl
          have HP := Lib.hid hp
          clear hp
          go_simp
          refine hK.out _ _ ?_ (Ext.refl _) (fun h => absurd h (by simp))
          exact rfl
        · refine RStep.yes 8 true rfl rfl (by decide +kernel) rfl rfl (fun ac wk hp K hK => ?_)
          have u9e := hp.get 9 (by decide +kernel) rfl
          have t46_ : ac.tmps[46]?.getD undef = .pointer (some ⟨w4.heap.size, 0, none⟩) := slot_is' u9e
          have HP := Lib.hid hp
          clear hp
          go_simp
          refine hK.out _ _ ?_ (Ext.refl _) (fun h => absurd h (by simp))
          exact rfl
        · refine RStep.yes 8 true rfl rfl (by decide +kernel) rfl rfl (fun ac wk hp K hK => ?_)
          have u10e := hp.get 10 (by decide +kernel) rfl
          have t47_ : ac.tmps[47]?.getD undef = .pointer (some ⟨w4.heap.size, 1, none⟩) := slot_is' u10e
          have c0_ := hp.cell 3 rfl
          have HP := Lib.hid hp
          clear hp
          go_simp
          refine hK.out _ _ ?_ (Ext.refl _) (fun h => absurd h (by simp))
          exact rfl
        · refine RStep.yes 8 true rfl rfl (by decide +kernel) rfl rfl (fun ac wk hp K hK => ?_)
          have t1_ : ac.tmps[1]?.getD undef = .slice p0' B0.length q0' := hp.slot 1 rfl rfl
          have HP := Lib.hid hp
          clear hp
          go_simp
          refine hK.out _ _ ?_ (Ext.refl _) (fun h => absurd h (by simp))
          exact rfl
        · refine RStep.yes 8 true rfl rfl (by decide +kernel) rfl rfl (fun ac wk hp K hK => ?_)
          have u11e := hp.get 11 (by decide +kernel) rfl
          have t48_ : ac.tmps[48]?.getD undef = .slice sp3 sl3 sc3 := slot_is' u11e
          have u12e := hp.get 12 (by decide +kernel) rfl
          have t49_ : ac.tmps[49]?.getD undef = .slice p0' B0.length q0' := slot_is' u12e
          have HP := Lib.hid hp
          clear hp
          go_simp
          refine (nmul_n (Limbs.inN (k := 6) (e3.gr ((y5.gr.trans (x6.gr.trans x7.gr)).trans HP.out.gr)).mag HLQ.out.1) (j0.gr ((y1.gr.trans (x2.gr.trans (x3.gr.trans (x4.gr.trans (y5.gr.trans (x6.gr.trans x7.gr)))))).trans HP.out.gr)) (by decide)).mono ?_
          rintro e wk' ⟨sv8, rfl, o8, ix⟩
          obtain ⟨sp8, sl8, sc8, rfl⟩ := o8.slice'
          refine hK.out _ _ ?_ ix (fun h => absurd h (by simp))
          exact ⟨_, _, _, rfl, (o8.mono (Nat.le_trans e7_.size HP.out.gr.size))⟩
        · refine RStep.yes 8 true rfl rfl (by decide +kernel) rfl rfl (fun ac wk hp K hK => ?_)
          have t2_ : ac.tmps[2]?.getD undef = .pointer (some ⟨w.heap.size, 0, none⟩) := hp.slot 2 rfl rfl
          have HP := Lib.hid hp
          clear hp
          go_simp
          refine hK.out _ _ ?_ (Ext.refl _) (fun h => absurd h (by simp))
          exact rfl
        · refine RStep.yes 8 true rfl rfl (by decide +kernel) rfl rfl (fun ac wk hp K hK => ?_)
          have u14e := hp.get 14 (by decide +kernel) rfl
          have t51_ : ac.tmps[51]?.getD undef = .pointer (some ⟨w.heap.size, 1, none⟩) := slot_is' u14e
          have c0_ := hp.cell 1 rfl
          have HP := Lib.hid hp
          clear hp
          go_simp
          refine hK.out _ _ ?_ (Ext.refl _) (fun h => absurd h (by simp))
          exact rfl
        · refine RStep.yes 8 true rfl rfl (by decide +kernel) rfl rfl (fun ac wk hp K hK => ?_)
          have t5_ : ac.tmps[5]?.getD undef = .pointer (some ⟨w4.heap.size, 0, none⟩) := hp.slot 5 rfl rfl
          have HP := Lib.hid hp
          clear hp
          go_simp
          refine hK.out _ _ ?_ (Ext.refl _) (fun h => absurd h (by simp))
          exact rfl
        · refine RStep.yes 8 true rfl rfl (by decide +kernel) rfl rfl (fun ac wk hp K hK => ?_)
          have u16e := hp.get 16 (by decide +kernel) rfl
          have t53_ : ac.tmps[53]?.getD undef = .pointer (some ⟨w4.heap.size, 2, none⟩) := slot_is' u16e
          have c0_ := hp.cell 4 rfl
          have HP := Lib.hid hp
          clear hp
          go_simp
          refine hK.out _ _ ?_ (Ext.refl _) (fun h => absurd h (by simp))
          exact rfl
        · refine RStep.yes 8 true rfl rfl (by decide +kernel) rfl rfl (fun ac wk hp K hK => ?_)
          have u15e := hp.get 15 (by decide +kernel) rfl
          have t52_ : ac.tmps[52]?.getD undef = .slice p0 A0.length q0 := slot_is' u15e
          have u17e := hp.get 17 (by decide +kernel) rfl
          have t54_ : ac.tmps[54]?.getD undef = .slice tp3 tl3 tc3 := slot_is' u17e
          have HP := Lib.hid hp
          clear hp
          go_simp
          refine (nmul_n ⟨_, (h0.gr ((y1.gr.trans (x2.gr.trans (x3.gr.trans (x4.gr.trans (y5.gr.trans (x6.gr.trans x7.gr)))))).trans HP.out.gr)), rfl, HLA0.out⟩ (Limbs.inN (k := 6) (e3.gr ((y5.gr.trans (x6.gr.trans x7.gr)).trans HP.out.gr)).den HLQ.out.2) (by decide)).mono ?_
          rintro e wk' ⟨sv9, rfl, o9, ix⟩
          obtain ⟨sp9, sl9, sc9, rfl⟩ := o9.slice'
          refine hK.out _ _ ?_ ix (fun h => absurd h (by simp))
          exact ⟨_, _, _, rfl, (o9.mono (Nat.le_trans e7_.size HP.out.gr.size))⟩
        · refine RStep.yes 8 true rfl rfl (by decide +kernel) rfl rfl (fun ac wk hp K hK => ?_)
          obtain ⟨u13p, u13n, u13c, u13e, u13o⟩ := hp.get 13 (by decide +kernel) rfl
          have t50_ : ac.tmps[50]?.getD undef = .slice u13p u13n u13c := slot_is' u13e
          obtain ⟨u18p, u18n, u18c, u18e, u18o⟩ := hp.get 18 (by decide +kernel) rfl
          have t55_ : ac.tmps[55]?.getD undef = .slice u18p u18n u18c := slot_is' u18e
          have HP := Lib.hid hp
          clear hp
          go_simp
          refine (ncmp_n (Limbs.inN (k := (6 + 6)) u13o.limbs (lt_mul HLQ.out.1 (InN.lt j0))) (Limbs.inN (k := (6 + 6)) u18o.limbs (lt_mul (lenN_raw h0 HLA0.out) HLQ.out.2)) (by decide) (by decide) 0 (cmpN_eq HCR.out)).mono ?_
          rintro e wk' ⟨rfl, ix⟩
          refine hK.out _ _ ?_ ix (fun h => absurd h (by simp))
          exact rfl
        · refine RStep.yes 8 true rfl rfl (by decide +kernel) rfl rfl (fun ac wk hp K hK => ?_)
          have u19e := hp.get 19 (by decide +kernel) rfl
          have t56_ : ac.tmps[56]?.getD undef = .int .i64 0 := slot_is' u19e
          have HP := Lib.hid hp
          clear hp
          go_simp
          refine hK.out _ _ ?_ (Ext.refl _) (fun h => absurd h (by simp))
          exact rfl
        · refine RStep.op rfl rfl (fun ac wk hp K hK => ?_)
          have u8e := hp.get 8 (by decide +kernel) rfl
          have t45_ : ac.tmps[45]?.getD undef = .bool true := slot_is' u8e
          have u20e := hp.get 20 (by decide +kernel) rfl
          have t57_ : ac.tmps[57]?.getD undef = .bool true := slot_is' u20e
          have HP := Lib.hid hp
          clear hp
          go_simp
          refine hK.out _ _ ?_ (Ext.refl _) (fun h => absurd h (by simp))
          exact rfl
        · refine RStep.op rfl rfl (fun ac wk hp K hK => ?_)
          have u21e := hp.get 21 (by decide +kernel) rfl
          have t58_ : ac.tmps[58]?.getD undef = .bool true := slot_is' u21e
          have HP := Lib.hid hp
          clear hp
          go_simp
          refine hK.out _ _ ?_ (Ext.refl _) (fun h => absurd h (by simp))
          exact rfl
        · refine RStep.yes 22 true rfl rfl (by decide +kernel) rfl rfl (fun ac wk hp K hK => ?_)
          have t5_ : ac.tmps[5]?.getD undef = .pointer (some ⟨w4.heap.size, 0, none⟩) := hp.slot 5 rfl rfl
          have HP := Lib.hid hp
          clear hp
          go_simp
          refine hK.out _ _ ?_ (Ext.refl _) (fun h => absurd h (by simp))
          exact rfl
        · refine RStep.yes 22 true rfl rfl (by decide +kernel) rfl rfl (fun ac wk hp K hK => ?_)
          have u23e := hp.get 23 (by decide +kernel) rfl
          have t60_ : ac.tmps[60]?.getD undef = .pointer (some ⟨w4.heap.size, 0, none⟩) := slot_is' u23e
          have HP := Lib.hid hp
          clear hp
          go_simp
          refine hK.out _ _ ?_ (Ext.refl _) (fun h => absurd h (by simp))
          exact rfl
        · refine RStep.yes 22 true rfl rfl (by decide +kernel) rfl rfl (fun ac wk hp K hK => ?_)
          have u24e := hp.get 24 (by decide +kernel) rfl
          have t61_ : ac.tmps[61]?.getD undef = .pointer (some ⟨w4.heap.size, 0, none⟩) := slot_is' u24e
          have c0_ := hp.cell 2 rfl
          have HP := Lib.hid hp
          clear hp
          go_simp
          refine hK.out _ _ ?_ (Ext.refl _) (fun h => absurd h (by simp))
          exact rfl
        · refine RStep.yes 22 true rfl rfl (by decide +kernel) rfl rfl (fun ac wk hp K hK => ?_)
          have t2_ : ac.tmps[2]?.getD undef = .pointer (some ⟨w.heap.size, 0, none⟩) := hp.slot 2 rfl rfl
          have HP := Lib.hid hp
          clear hp
          go_simp
          refine hK.out _ _ ?_ (Ext.refl _) (fun h => absurd h (by simp))
          exact rfl
        · refine RStep.yes 22 true rfl rfl (by decide +kernel) rfl rfl (fun ac wk hp K hK => ?_)
          have u26e := hp.get 26 (by decide +kernel) rfl
          have t63_ : ac.tmps[63]?.getD undef = .pointer (some ⟨w.heap.size, 0, none⟩) := slot_is' u26e
          have c0_ := hp.cell 0 rfl
          have HP := Lib.hid hp
          clear hp
          go_simp
          refine hK.out _ _ ?_ (Ext.refl _) (fun h => absurd h (by simp))
          exact rfl
        · refine RStep.yes 22 true rfl rfl (by decide +kernel) rfl rfl (fun ac wk hp K hK => ?_)
          have u27e := hp.get 27 (by decide +kernel) rfl
          have t64_ : ac.tmps[64]?.getD undef = .bool false := slot_is' u27e
          have HP := Lib.hid hp
          clear hp
          go_simp
          refine hK.out _ _ ?_ (Ext.refl _) (fun h => absurd h (by simp))
          exact rfl
        · exact RStep.no 28 true rfl rfl (by decide +kernel) rfl (.inl rfl) rfl rfl
        · exact RStep.no 28 true rfl rfl (by decide +kernel) rfl (.inl rfl) rfl rfl
        · exact RStep.no 28 true rfl rfl (by decide +kernel) rfl (.inl rfl) rfl rfl
        · exact RStep.no 28 true rfl rfl (by decide +kernel) rfl (.inl rfl) rfl rfl
        · refine RStep.yes 22 true rfl rfl (by decide +kernel) rfl rfl (fun ac wk hp K hK => ?_)
          have u28e := hp.get 28 (by decide +kernel) rfl
          have t65_ : ac.tmps[65]?.getD undef = .bool false := slot_is' u28e
          have u32e := hp.get 32 (by decide +kernel) rfl
          have t69_ : ac.tmps[69]?.getD undef = undef := slot_is' u32e
          have HP := Lib.hid hp
          clear hp
          go_simp
          refine hK.out _ _ ?_ (Ext.refl _) (fun h => absurd h (by simp))
          exact rfl
        · refine RStep.yes 22 true rfl rfl (by decide +kernel) rfl rfl (fun ac wk hp K hK => ?_)
          have u25e := hp.get 25 (by decide +kernel) rfl
          have t62_ : ac.tmps[62]?.getD undef = .bool false := slot_is' u25e
          have u33e := hp.get 33 (by decide +kernel) rfl
          have t70_ : ac.tmps[70]?.getD undef = .bool false := slot_is' u33e
          have HP := Lib.hid hp
          clear hp
          go_simp
          refine hK.out _ _ ?_ (Ext.refl _) (fun h => absurd h (by simp))
          exact rfl
        · refine RStep.op rfl rfl (fun ac wk hp K hK => ?_)
          have u22e := hp.get 22 (by decide +kernel) rfl
          have t59_ : ac.tmps[59]?.getD undef = .bool true := slot_is' u22e
          have u34e := hp.get 34 (by decide +kernel) rfl
          have t71_ : ac.tmps[71]?.getD undef = .bool true := slot_is' u34e
          have HP := Lib.hid hp
          clear hp
          go_simp
          refine hK.out _ _ ?_ (Ext.refl _) (fun h => absurd h (by simp))
          exact rfl
        · refine RStep.op rfl rfl (fun ac wk hp K hK => ?_)
          have u35e := hp.get 35 (by decide +kernel) rfl
          have t72_ : ac.tmps[72]?.getD undef = .bool true := slot_is' u35e
          have HP := Lib.hid hp
          clear hp
          go_simp
          refine hK.out _ _ ?_ (Ext.refl _) (fun h => absurd h (by simp))
          exact rfl
        · refine RStep.yes 36 true rfl rfl (by decide +kernel) rfl rfl (fun ac wk hp K hK => ?_)
          have t5_ : ac.tmps[5]?.getD undef = .pointer (some ⟨w4.heap.size, 0, none⟩) := hp.slot 5 rfl rfl
          have HP := Lib.hid hp
          clear hp
          go_simp
          refine hK.out _ _ ?_ (Ext.refl _) (fun h => absurd h (by simp))
          exact rfl
        · refine RStep.yes 36 true rfl rfl (by decide +kernel) rfl rfl (fun ac wk hp K hK => ?_)
          have u37e := hp.get 37 (by decide +kernel) rfl
          have t74_ : ac.tmps[74]?.getD undef = .pointer (some ⟨w4.heap.size, 2, none⟩) := slot_is' u37e
          have c0_ := hp.cell 4 rfl
          have HP := Lib.hid hp
          clear hp
          go_simp
          refine hK.out _ _ ?_ (Ext.refl _) (fun h => absurd h (by simp))
          exact rfl
        · refine RStep.yes 36 true rfl rfl (by decide +kernel) rfl rfl (fun ac wk hp K hK => ?_)
          have u38e := hp.get 38 (by decide +kernel) rfl
          have t75_ : ac.tmps[75]?.getD undef = .slice tp3 tl3 tc3 := slot_is' u38e
          have HP := Lib.hid hp
          clear hp
          go_simp
          refine (nzero_n (Limbs.inN (k := 6) (e3.gr ((y5.gr.trans (x6.gr.trans x7.gr)).trans HP.out.gr)).den HLQ.out.2) (by decide) false (decide_eq_false q.den_nz)).mono ?_
          rintro e wk' ⟨rfl, ix⟩
          refine hK.out _ _ ?_ ix (fun h => absurd h (by simp))
          exact rfl
        · refine RStep.yes 36 true rfl rfl (by decide +kernel) rfl rfl (fun ac wk hp K hK => ?_)
          have u39e := hp.get 39 (by decide +kernel) rfl
          have t76_ : ac.tmps[76]?.getD undef = .bool false := slot_is' u39e
          have HP := Lib.hid hp
          clear hp
          go_simp
          refine hK.out _ _ ?_ (Ext.refl _) (fun h => absurd h (by simp))
          exact rfl
        · refine RStep.op rfl rfl (fun ac wk hp K hK => ?_)
          have u36e := hp.get 36 (by decide +kernel) rfl
          have t73_ : ac.tmps[73]?.getD undef = .bool true := slot_is' u36e
          have u40e := hp.get 40 (by decide +kernel) rfl
          have t77_ : ac.tmps[77]?.getD undef = .bool true := slot_is' u40e
          have HP := Lib.hid hp
          clear hp
          go_simp
          refine hK.out _ _ ?_ (Ext.refl _) (fun h => absurd h (by simp))
          exact rfl
        · refine RStep.op rfl rfl (fun ac wk hp K hK => ?_)
          have u41e := hp.get 41 (by decide +kernel) rfl
          have t78_ : ac.tmps[78]?.getD undef = .bool true := slot_is' u41e
          have HP := Lib.hid hp
          clear hp
          go_simp
          refine hK.out _ _ ?_ (Ext.refl _) (fun h => absurd h (by simp))
          exact rfl
      case he =>
        intro ac v8 hM
        obtain ⟨y1_0b, y1_0p, y1_0n, y1_0c, y1_0q, y1_0k, y1_0d, y1_0m, y1_0l, y1_0e, y1_0i, y1_0o⟩ := hM.post 0 rfl rfl
        have y1_1e := hM.post 1 rfl rfl
        have y1_2e := hM.post 2 rfl rfl
        obtain ⟨y1_3p, y1_3n, y1_3c, y1_3e, y1_3o⟩ := hM.post 3 rfl rfl
        obtain ⟨y1_4p, y1_4n, y1_4c, y1_4e, y1_4i⟩ := hM.post 4 rfl rfl
        have y1_5e := hM.post 5 rfl rfl
        have y1_6e := hM.post 6 rfl rfl
        have y1_7e := hM.post 7 rfl rfl
        have y1_8e := hM.post 8 rfl rfl
        have y1_9e := hM.post 9 rfl rfl
        have y1_10e := hM.post 10 rfl rfl
        have y1_11e := hM.post 11 rfl rfl
        have y1_12e := hM.post 12 rfl rfl
        obtain ⟨y1_13p, y1_13n, y1_13c, y1_13e, y1_13o⟩ := hM.post 13 rfl rfl
        have y1_14e := hM.post 14 rfl rfl
        have y1_15e := hM.post 15 rfl rfl
        have y1_16e := hM.post 16 rfl rfl
        have y1_17e := hM.post 17 rfl rfl
        obtain ⟨y1_18p, y1_18n, y1_18c, y1_18e, y1_18o⟩ := hM.post 18 rfl rfl
        have y1_19e := hM.post 19 rfl rfl
        have y1_20e := hM.post 20 rfl rfl
        have y1_21e := hM.post 21 rfl rfl
        have y1_22e := hM.post 22 rfl rfl
        have y1_23e := hM.post 23 rfl rfl
        have y1_24e := hM.post 24 rfl rfl
        have y1_25e := hM.post 25 rfl rfl
        have y1_26e := hM.post 26 rfl rfl
        have y1_27e := hM.post 27 rfl rfl
        have y1_28e := hM.post 28 rfl rfl
        have y1_29e := hM.post 29 rfl rfl
        have y1_30e := hM.post 30 rfl rfl
        have y1_31e := hM.post 31 rfl rfl
        have y1_32e := hM.post 32 rfl rfl
        have y1_33e := hM.post 33 rfl rfl
        have y1_34e := hM.post 34 rfl rfl
        have y1_35e := hM.post 35 rfl rfl
        have y1_36e := hM.post 36 rfl rfl
        have y1_37e := hM.post 37 rfl rfl
        have y1_38e := hM.post 38 rfl rfl
        have y1_39e := hM.post 39 rfl rfl
        have y1_40e := hM.post 40 rfl rfl
        have y1_41e := hM.post 41 rfl rfl
        have y1_42e := hM.post 42 rfl rfl
        have b0_0 : Hid (At (w.heap.size) 0 (.bool false) v8) := Lib.hid (hM.keep.at 0 rfl)
        have b0_1 : Hid (At (w.heap.size) 1 (.slice p0 A0.length q0) v8) := Lib.hid (hM.keep.at 1 rfl)
        have b2_0 : Hid (At (w4.heap.size) 0 (.bool false) v8) := Lib.hid (hM.keep.at 2 rfl)
        have b2_1 : Hid (At (w4.heap.size) 1 (.slice sp3 sl3 sc3) v8) := Lib.hid (hM.keep.at 3 rfl)
        have b2_2 : Hid (At (w4.heap.size) 2 (.slice tp3 tl3 tc3) v8) := Lib.hid (hM.keep.at 4 rfl)
        have gv8 : Gr w7 v8 := hM.gr
        have e8_ : Ext w v8 := Ext.below e7_ hM.blw
        have z0_ : sl ac 37 = .agg #[.bool y1_0b, .slice y1_0p y1_0n y1_0c, .slice y1_0q y1_0k y1_0d] := y1_0e
        have z1_ : sl ac 38 = .bool true := y1_1e
        have z2_ : sl ac 39 = .bool true := y1_2e
        have z3_ : sl ac 40 = .slice y1_3p y1_3n y1_3c := y1_3e
        have z4_ : sl ac 41 = .slice y1_4p y1_4n y1_4c := y1_4e
        have z5_ : sl ac 42 = .int .i64 0 := y1_5e
        have z6_ : sl ac 43 = .bool true := y1_6e
        have z7_ : sl ac 44 = .bool true := y1_7e
        have z8_ : sl ac 45 = .bool true := y1_8e
        have z9_ : sl ac 46 = .pointer (some ⟨w4.heap.size, 0, none⟩) := y1_9e
        have z10_ : sl ac 47 = .pointer (some ⟨w4.heap.size, 1, none⟩) := y1_10e
        have z11_ : sl ac 48 = .slice sp3 sl3 sc3 := y1_11e
        have z12_ : sl ac 49 = .slice p0' B0.length q0' := y1_12e
        have z13_ : sl ac 50 = .slice y1_13p y1_13n y1_13c := y1_13e
        have z14_ : sl ac 51 = .pointer (some ⟨w.heap.size, 1, none⟩) := y1_14e
        have z15_ : sl ac 52 = .slice p0 A0.length q0 := y1_15e
        have z16_ : sl ac 53 = .pointer (some ⟨w4.heap.size, 2, none⟩) := y1_16e
        have z17_ : sl ac 54 = .slice tp3 tl3 tc3 := y1_17e
        have z18_ : sl ac 55 = .slice y1_18p y1_18n y1_18c := y1_18e
        have z19_ : sl ac 56 = .int .i64 0 := y1_19e
        have z20_ : sl ac 57 = .bool true := y1_20e
        have z21_ : sl ac 58 = .bool true := y1_21e
        have z22_ : sl ac 59 = .bool true := y1_22e
        have z23_ : sl ac 60 = .pointer (some ⟨w4.heap.size, 0, none⟩) := y1_23e
        have z24_ : sl ac 61 = .pointer (some ⟨w4.heap.size, 0, none⟩) := y1_24e
        have z25_ : sl ac 62 = .bool false := y1_25e
        have z26_ : sl ac 63 = .pointer (some ⟨w.heap.size, 0, none⟩) := y1_26e
        have z27_ : sl ac 64 = .bool false := y1_27e
        have z28_ : sl ac 65 = .bool false := y1_28e
        have z29_ : sl ac 66 = undef := y1_29e
        have z30_ : sl ac 67 = undef := y1_30e
        have z31_ : sl ac 68 = undef := y1_31e
        have z32_ : sl ac 69 = undef := y1_32e
        have z33_ : sl ac 70 = .bool false := y1_33e
        have z34_ : sl ac 71 = .bool true := y1_34e
        have z35_ : sl ac 72 = .bool true := y1_35e
        have z36_ : sl ac 73 = .bool true := y1_36e
        have z37_ : sl ac 74 = .pointer (some ⟨w4.heap.size, 2, none⟩) := y1_37e
        have z38_ : sl ac 75 = .slice tp3 tl3 tc3 := y1_38e
        have z39_ : sl ac 76 = .bool false := y1_39e
        have z40_ : sl ac 77 = .bool true := y1_40e
        have z41_ : sl ac 78 = .bool true := y1_41e
        have z42_ : sl ac 4 = .bool true := y1_42e
        rw [hM.ag.lay]
        simp only [lay, List.foldl_cons, List.foldl_nil, List.setIfInBounds_toArray, List.set_cons_zero, List.set_cons_succ, z0_, z1_, z2_, z3_, z4_, z5_, z6_, z7_, z8_, z9_, z10_, z11_, z12_, z13_, z14_, z15_, z16_, z17_, z18_, z19_, z20_, z21_, z22_, z23_, z24_, z25_, z26_, z27_, z28_, z29_, z30_, z31_, z32_, z33_, z34_, z35_, z36_, z37_, z38_, z39_, z40_, z41_, z42_]
        clear hM hkeep1 hob1 hne1 z0_ z1_ z2_ z3_ z4_ z5_ z6_ z7_ z8_ z9_ z10_ z11_ z12_ z13_ z14_ z15_ z16_ z17_ z18_ z19_ z20_ z21_ z22_ z23_ z24_ z25_ z26_ z27_ z28_ z29_ z30_ z31_ z32_ z33_ z34_ z35_ z36_ z37_ z38_ z39_ z40_ z41_ z42_ y1_0e y1_1e y1_2e y1_3e y1_4e y1_5e y1_6e y1_7e y1_8e y1_9e y1_10e y1_11e y1_12e y1_13e y1_14e y1_15e y1_16e y1_17e y1_18e y1_19e y1_20e y1_21e y1_22e y1_23e y1_24e y1_25e y1_26e y1_27e y1_28e y1_29e y1_30e y1_31e y1_32e y1_33e y1_34e y1_35e y1_36e y1_37e y1_38e y1_39e y1_40e y1_41e y1_42e
        go_wp2_with fail
        go_ret
        exact ⟨rfl, e8_⟩
    | true =>
      by_cases ha : val A0 = 0
      · have HA0 : Hid (decide (val A0 = 0) = true) := decide_eq_true ha
        have HF : Hid (decide (q.num < 0) = false) := by
          show _ = _
          rw [decide_eq_false_iff_not, hsg]; unfold iv; simp [ha]
        clear hb hq hsg ha
        go_enter Tryz.func5, Tryz.ntmps5
        go_wp2_with fail
        obtain ⟨v1, hv1⟩ : ∃ W, W = ((w.alloc (.cells #[.bool true, .slice p0 A0.length q0] 25)).alloc (.cells #[.bool true, .slice p0 A0.length q0, .slice p0' B0.length q0'] 27)) := ⟨_, rfl⟩
        have y1 : Ext w v1 := by rw [hv1]; exact (((Ext.refl _).alloc _).alloc _)
        have b0_0 : Hid (At (w.heap.size) 0 (.bool true) v1) := by rw [hv1]; exact At.ext (At.n0 (by rfl)) ((Ext.refl _).alloc _)
        have b0_1 : Hid (At (w.heap.size) 1 (.slice p0 A0.length q0) v1) := by rw [hv1]; exact At.ext (At.n0 (by rfl)) ((Ext.refl _).alloc _)
        have k0 : Hid (Bx 2 (w.heap.size) v1) := by rw [hv1]; exact Bx.gr (Bx.n0 2 ⟨rfl, by decide⟩ (by decide) noI_s2) (Ext.gr ((Ext.refl _).alloc _))
        have u0 : Hid (w.heap.size < v1.heap.size) := b0_0.out.2
        have b1_0 : Hid (At (w.heap.size + 1) 0 (.bool true) v1) := by rw [hv1]; exact At.ext (At.n1 (by rfl)) (Ext.refl _)
        have b1_1 : Hid (At (w.heap.size + 1) 1 (.slice p0 A0.length q0) v1) := by rw [hv1]; exact At.ext (At.n1 (by rfl)) (Ext.refl _)
        have b1_2 : Hid (At (w.heap.size + 1) 2 (.slice p0' B0.length q0') v1) := by rw [hv1]; exact At.ext (At.n1 (by rfl)) (Ext.refl _)
        have k1 : Hid (Bx 3 (w.heap.size + 1) v1) := by rw [hv1]; exact Bx.gr (Bx.n1 3 ⟨rfl, by decide⟩ (by decide) noI_s3) (Ext.gr (Ext.refl _))
        have u1 : Hid (w.heap.size + 1 < v1.heap.size) := b1_0.out.2
        have e1_ : Ext w v1 := y1
        rw [← hv1]
        clear hv1
        refine (long_calls (Ls := [(true, A0, B0)]) (sl3_1 (b1_0.out) (b1_1.out) (b1_2.out) (⟨rfl, (h0.ext y1), (g0.ext y1)⟩)) false HLB.out).mono ?_
        rintro e w2 ⟨rfl, x2⟩
        have e2_ : Ext w w2 := Ext.trans e1_ x2
        go_wp2_with fail
        refine (awake06_calls _).mono ?_
        rintro e w3 ⟨rfl, x3⟩
        have e3_ : Ext w w3 := Ext.trans e2_ x3
        have g0_0 := (b0_0.out.ext (x2.trans x3)).1
        have g0_1 := (b0_1.out.ext (x2.trans x3)).1
        have f0 : w.heap.size < w3.heap.size := (b0_0.out.ext (x2.trans x3)).2
        go_wp2_with fail
        refine (rmake_is (q := q) ⟨_, (h0.ext (y1.trans (x2.trans x3))), rfl, HLA0.out⟩ (j0.ext (y1.trans (x2.trans x3))) HB1.out (by decide) (by decide) HQ.out).mono ?_
        rintro e w4 ⟨sb3, sv3, su3, sm3, sd3, rfl, e3, o3, x4⟩
        have e4_ : Ext w w4 := Ext.trans e3_ x4
        have hsb : sb3 = false := e3.1.symm.trans HF.out
        subst hsb
        obtain ⟨sp3, sl3, sc3, tp3, tl3, tc3, rfl, rfl⟩ := e3.slice
        clear g0_0 g0_1 f0
        go_wp2_with fail
        obtain ⟨v5, hv5⟩ : ∃ W, W = (w4.alloc (.cells #[.bool false, .slice sp3 sl3 sc3, .slice tp3 tl3 tc3] 27)) := ⟨_, rfl⟩
        have y5 : Ext w4 v5 := by rw [hv5]; exact ((Ext.refl _).alloc _)
        have b2_0 : Hid (At (w4.heap.size) 0 (.bool false) v5) := by rw [hv5]; exact At.ext (At.n0 (by rfl)) (Ext.refl _)
        have b2_1 : Hid (At (w4.heap.size) 1 (.slice sp3 sl3 sc3) v5) := by rw [hv5]; exact At.ext (At.n0 (by rfl)) (Ext.refl _)
        have b2_2 : Hid (At (w4.heap.size) 2 (.slice tp3 tl3 tc3) v5) := by rw [hv5]; exact At.ext (At.n0 (by rfl)) (Ext.refl _)
        have k2 : Hid (Bx 3 (w4.heap.size) v5) := by rw [hv5]; exact Bx.gr (Bx.n0 3 ⟨rfl, by decide⟩ (by decide) noI_s3) (Ext.gr (Ext.refl _))
        have u2 : Hid (w4.heap.size < v5.heap.size) := b2_0.out.2
        have e5_ : Ext w v5 := Ext.trans e4_ y5
        rw [← hv5]
        clear hv5
        refine (nzero_n (j0.ext (y1.trans (x2.trans (x3.trans (x4.trans y5))))) (by decide) false HZB1.out).mono ?_
        rintro e w6 ⟨rfl, x6⟩
        have e6_ : Ext w w6 := Ext.trans e5_ x6
        have g2_1 := (b2_1.out.ext x6).1
        have g2_2 := (b2_2.out.ext x6).1
        have f2 : w4.heap.size < w6.heap.size := (b2_0.out.ext x6).2
        go_wp2_with fail
        refine (gcd_n (Limbs.inN (k := 6) (e3.ext (y5.trans x6)).mag HLQ.out.1) (Limbs.inN (k := 6) (e3.ext (y5.trans x6)).den HLQ.out.2) (by decide) (by decide)).mono ?_
        rintro e w7 ⟨sv5, rfl, o5, x7⟩
        have e7_ : Ext w w7 := Ext.trans e6_ x7
        obtain ⟨sp5, sl5, sc5, rfl⟩ := o5.slice'
        clear g2_1 g2_2 f2
        go_wp2_with fail
        have hkeep1 : AllAt' ([(w.heap.size, 0, .bool true), (w.heap.size, 1, .slice p0 A0.length q0), (w4.heap.size, 0, .bool false), (w4.heap.size, 1, .slice sp3 sl3 sc3), (w4.heap.size, 2, .slice tp3 tl3 tc3)] : List (Nat × Nat × Value)) w7 := AllAt'.cons (b0_0.out.ext (x2.trans (x3.trans (x4.trans (y5.trans (x6.trans x7)))))) (AllAt'.cons (b0_1.out.ext (x2.trans (x3.trans (x4.trans (y5.trans (x6.trans x7)))))) (AllAt'.cons (b2_0.out.ext (x6.trans x7)) (AllAt'.cons (b2_1.out.ext (x6.trans x7)) (AllAt'.cons (b2_2.out.ext (x6.trans x7)) (AllAt'.nil _)))))
        have hob1 : ObOk w.heap.size w7 (([(w.heap.size, 0, .bool true), (w.heap.size, 1, .slice p0 A0.length q0), (w4.heap.size, 0, .bool false), (w4.heap.size, 1, .slice sp3 sl3 sc3), (w4.heap.size, 2, .slice tp3 tl3 tc3)] : List (Nat × Nat × Value)).map (·.1)) ([] : List (Nat × List (Nat × Value))) := trivial
        have hne1 : AllNe (([] : List (Nat × List (Nat × Value))).map (·.1)) := trivial
        (try simp only [List.append_eq, List.cons_append, List.nil_append])
        refine wp_region_gen ⟨[37, 38, 39, 40, 41, 42, 43, 44, 45, 46, 47, 48, 49, 50, 51, 52, 53, 54, 55, 56, 57, 58, 59, 60, 61, 62, 63, 64, 65, 66, 67, 68, 69, 70, 71, 72, 73, 74, 75, 76, 77, 78, 4], fun i => false, fun i => ([none, none, none, none, none, none, none, none, none, none, none, none, none, none, none, none, none, none, none, none, none, none, none, none, none, none, none, none, none, none, none, none, none, none, none, none, none, none, none, none, none, none, none] : List (Option (BoxRef × Nat))).getD i none, fun i => ([Sg.ratO w.heap.size q, Sg.val (.bool true), Sg.val (.bool true), Sg.natO w.heap.size (Nat.gcd (q).num.natAbs (q).den), Sg.nat 1, Sg.val (.int .i64 0), Sg.val (.bool true), Sg.val (.bool true), Sg.val (.bool true), Sg.val (.pointer (some ⟨w4.heap.size, 0, none⟩)), Sg.val (.pointer (some ⟨w4.heap.size, 1, none⟩)), Sg.val (.slice sp3 sl3 sc3), Sg.val (.slice p0' B0.length q0'), Sg.natO w.heap.size ((q).num.natAbs * (val B0)), Sg.val (.pointer (some ⟨w.heap.size, 1, none⟩)), Sg.val (.slice p0 A0.length q0), Sg.val (.pointer (some ⟨w4.heap.size, 2, none⟩)), Sg.val (.slice tp3 tl3 tc3), Sg.natO w.heap.size ((val A0) * (q).den), Sg.val (.int .i64 0), Sg.val (.bool true), Sg.val (.bool true), Sg.val (.bool true), Sg.val (.pointer (some ⟨w4.heap.size, 0, none⟩)), Sg.val (.pointer (some ⟨w4.heap.size, 0, none⟩)), Sg.val (.bool false), Sg.val (.pointer (some ⟨w.heap.size, 0, none⟩)), Sg.val (.bool true), Sg.val (.bool true), Sg.val (.pointer (some ⟨w.heap.size, 1, none⟩)), Sg.val (.slice p0 A0.length q0), Sg.val (.bool true), Sg.val (.bool false), Sg.val (.bool false), Sg.val (.bool true), Sg.val (.bool true), Sg.val (.bool true), Sg.val (.pointer (some ⟨w4.heap.size, 2, none⟩)), Sg.val (.slice tp3 tl3 tc3), Sg.val (.bool false), Sg.val (.bool true), Sg.val (.bool true), Sg.val (.bool true)] : List Sg).getD i Sg.any, [(w.heap.size, 0, .bool true), (w.heap.size, 1, .slice p0 A0.length q0), (w4.heap.size, 0, .bool false), (w4.heap.size, 1, .slice sp3 sl3 sc3), (w4.heap.size, 2, .slice tp3 tl3 tc3)], []⟩ w.heap.size (by kernel_rfl) (by kernel_rfl) e7_.size ?hfr hkeep1 hob1 hne1 ?hs ?he
        case hfr =>
          intro i v wk hi hst hv
          exact absurd hi (by simp)
        case hs =>
          refine ⟨?_, ?_, ?_, ?_, ?_, ?_, ?_, ?_, ?_, ?_, ?_, ?_, ?_, ?_, ?_, ?_, ?_, ?_, ?_, ?_, ?_, ?_, ?_, ?_, ?_, ?_, ?_, ?_, ?_, ?_, ?_, ?_, ?_, ?_, ?_, ?_, ?_, ?_, ?_, ?_, ?_, ?_, ?_, trivial⟩
          · refine RStep.op rfl rfl (fun ac wk hp K hK => ?_)
            have t5_ : ac.tmps[5]?.getD undef = .pointer (some ⟨w4.heap.size, 0, none⟩) := hp.slot 5 rfl rfl
            have c0_ := hp.cell 2 rfl
            have c1_ := hp.cell 3 rfl
            have c2_ := hp.cell 4 rfl
            have HP := Lib.hid hp
            clear hp
            go_simp
            refine hK.out _ _ ?_ (Ext.refl _) (fun h => absurd h (by simp))
            exact ⟨_, _, _, _, _, _, _, _, _, rfl, (e3.gr ((y5.gr.trans (x6.gr.trans x7.gr)).trans HP.out.gr)), ((o3.gr ((y5.gr.trans (x6.gr.trans x7.gr)).trans HP.out.gr)).mono e3_.size)⟩
          · refine RStep.op rfl rfl (fun ac wk hp K hK => ?_)
            obtain ⟨u0b, u0p, u0n, u0c, u0q, u0k, u0d, u0m, u0l, u0e, u0i, u0o⟩ := hp.get 0 (by decide +kernel) rfl
            have t37_ : ac.tmps[37]?.getD undef = .agg #[.bool u0b, .slice u0p u0n u0c, .slice u0q u0k u0d] := slot_is' u0e
            have HP := Lib.hid hp
            clear hp
            go_simp
            refine (rmay_is u0i HLQ.out (by decide)).mono ?_
            rintro e wk' ⟨rfl, ix⟩
            refine hK.out _ _ ?_ ix (fun h => absurd h (by simp))
            exact rfl
          · refine RStep.op rfl rfl (fun ac wk hp K hK => ?_)
            have u1e := hp.get 1 (by decide +kernel) rfl
            have t38_ : ac.tmps[38]?.getD undef = .bool true := slot_is' u1e
            have HP := Lib.hid hp
            clear hp
            go_simp
            refine hK.out _ _ ?_ (Ext.refl _) (fun h => absurd h (by simp))
            exact rfl
          · refine RStep.yes 2 true rfl rfl (by decide +kernel) rfl rfl (fun ac wk hp K hK => ?_)
            have t7_ : ac.tmps[7]?.getD undef = .slice sp5 sl5 sc5 := hp.slot 7 rfl rfl
            have HP := Lib.hid hp
            clear hp
            go_simp
            refine hK.out _ _ ?_ (Ext.refl _) (fun h => absurd h (by simp))
            exact ⟨_, _, _, rfl, ((o5.gr HP.out.gr).mono e6_.size)⟩
          · refine RStep.yes 2 true rfl rfl (by decide +kernel) rfl rfl (fun ac wk hp K hK => ?_)
            have HP := Lib.hid hp
            clear hp
            go_simp
            exact hK.out _ _ ⟨_, _, _, rfl, lit_dig (lit_n0 [1] (by decide) rfl 1 rfl (by decide)) (by decide) (by decide)⟩ ((Ext.refl _).alloc _) (fun h => absurd h (by simp))
          · refine RStep.yes 2 true rfl rfl (by decide +kernel) rfl rfl (fun ac wk hp K hK => ?_)
            obtain ⟨u3p, u3n, u3c, u3e, u3o⟩ := hp.get 3 (by decide +kernel) rfl
            have t40_ : ac.tmps[40]?.getD undef = .slice u3p u3n u3c := slot_is' u3e
            obtain ⟨u4p, u4n, u4c, u4e, u4i⟩ := hp.get 4 (by decide +kernel) rfl
            have t41_ : ac.tmps[41]?.getD undef = .slice u4p u4n u4c := slot_is' u4e
            have HP := Lib.hid hp
            clear hp
            go_simp
            refine (ncmp_n (Limbs.inN (k := 6) u3o.limbs (gcd_lt HLQ.out.2 q.den_nz)) (Limbs.inN (k := 1) u4i (by rw [Nat.pow_one]; exact small_Bs (n := 1) (by decide))) (by decide) (by decide) 0 (by rw [q.reduced]; rfl)).mono ?_
            rintro e wk' ⟨rfl, ix⟩
            refine hK.out _ _ ?_ ix (fun h => absurd h (by simp))
            exact rfl
          · refine RStep.yes 2 true rfl rfl (by decide +kernel) rfl rfl (fun ac wk hp K hK => ?_)
            have u5e := hp.get 5 (by decide +kernel) rfl
            have t42_ : ac.tmps[42]?.getD undef = .int .i64 0 := slot_is' u5e
            have HP := Lib.hid hp
            clear hp
            go_simp
            refine hK.out _ _ ?_ (Ext.refl _) (fun h => absurd h (by simp))
            exact rfl
          · refine RStep.op rfl rfl (fun ac wk hp K hK => ?_)
            have u2e := hp.get 2 (by decide +kernel) rfl
            have t39_ : ac.tmps[39]?.getD undef = .bool true := slot_is' u2e
            have u6e := hp.get 6 (by decide +kernel) rfl
            have t43_ : ac.tmps[43]?.getD undef = .bool true := slot_is' u6e
            have HP := Lib.hid hp
            clear hp
            go_simp
            refine hK.out _ _ ?_ (Ext.refl _) (fun h => absurd h (by simp))
            exact rfl
          · refine RStep.op rfl rfl (fun ac wk hp K hK => ?_)
            have u7e := hp.get 7 (by decide +kernel) rfl
            have t44_ : ac.tmps[44]?.getD undef = .bool true := slot_is' u7e
            have HP := Lib.hid hp
            clear hp
            go_simp
            refine hK.out _ _ ?_ (Ext.refl _) (fun h => absurd h (by simp))
            exact rfl
          · refine RStep.yes 8 true rfl rfl (by decide +kernel) rfl rfl (fun ac wk hp K hK => ?_)
            have t5_ : ac.tmps[5]?.getD undef = .pointer (some ⟨w4.heap.size, 0, none⟩) := hp.slot 5 rfl rfl
            have HP := Lib.hid hp
            clear hp
            go_simp
            refine hK.out _ _ ?_ (Ext.refl _) (fun h => absurd h (by simp))
            exact rfl
          · refine RStep.yes 8 true rfl rfl (by decide +kernel) rfl rfl (fun ac wk hp K hK => ?_)
            have u9e := hp.get 9 (by decide +kernel) rfl
            have t46_ : ac.tmps[46]?.getD undef = .pointer (some ⟨w4.heap.size, 0, none⟩) := slot_is' u9e
            have HP := Lib.hid hp
            clear hp
            go_simp
            refine hK.out _ _ ?_ (Ext.refl _) (fun h => absurd h (by simp))
            exact rfl
          · refine RStep.yes 8 true rfl rfl (by decide +kernel) rfl rfl (fun ac wk hp K hK => ?_)
            have u10e := hp.get 10 (by decide +kernel) rfl
            have t47_ : ac.tmps[47]?.getD undef = .pointer (some ⟨w4.heap.size, 1, none⟩) := slot_is' u10e
            have c0_ := hp.cell 3 rfl
            have HP := Lib.hid hp
            clear hp
            go_simp
            refine hK.out _ _ ?_ (Ext.refl _) (fun h => absurd h (by simp))
            exact rfl
          · refine RStep.yes 8 true rfl rfl (by decide +kernel) rfl rfl (fun ac wk hp K hK => ?_)
            have t1_ : ac.tmps[1]?.getD undef = .slice p0' B0.length q0' := hp.slot 1 rfl rfl
            have HP := Lib.hid hp
            clear hp
            go_simp
            refine hK.out _ _ ?_ (Ext.refl _) (fun h => absurd h (by simp))
            exact rfl
          · refine RStep.yes 8 true rfl rfl (by decide +kernel) rfl rfl (fun ac wk hp K hK => ?_)
            have u11e := hp.get 11 (by decide +kernel) rfl
            have t48_ : ac.tmps[48]?.getD undef = .slice sp3 sl3 sc3 := slot_is' u11e
            have u12e := hp.get 12 (by decide +kernel) rfl
            have t49_ : ac.tmps[49]?.getD undef = .slice p0' B0.length q0' := slot_is' u12e
            have HP := Lib.hid hp
            clear hp
            go_simp
            refine (nmul_n (Limbs.inN (k := 6) (e3.gr ((y5.gr.trans (x6.gr.trans x7.gr)).trans HP.out.gr)).mag HLQ.out.1) (j0.gr ((y1.gr.trans (x2.gr.trans (x3.gr.trans (x4.gr.trans (y5.gr.trans (x6.gr.trans x7.gr)))))).trans HP.out.gr)) (by decide)).mono ?_
            rintro e wk' ⟨sv8, rfl, o8, ix⟩
            obtain ⟨sp8, sl8, sc8, rfl⟩ := o8.slice'
            refine hK.out _ _ ?_ ix (fun h => absurd h (by simp))
            exact ⟨_, _, _, rfl, (o8.mono (Nat.le_trans e7_.size HP.out.gr.size))⟩
          · refine RStep.yes 8 true rfl rfl (by decide +kernel) rfl rfl (fun ac wk hp K hK => ?_)
            have t2_ : ac.tmps[2]?.getD undef = .pointer (some ⟨w.heap.size, 0, none⟩) := hp.slot 2 rfl rfl
            have HP := Lib.hid hp
            clear hp
            go_simp
            refine hK.out _ _ ?_ (Ext.refl _) (fun h => absurd h (by simp))
            exact rfl
          · refine RStep.yes 8 true rfl rfl (by decide +kernel) rfl rfl (fun ac wk hp K hK => ?_)
            have u14e := hp.get 14 (by decide +kernel) rfl
            have t51_ : ac.tmps[51]?.getD undef = .pointer (some ⟨w.heap.size, 1, none⟩) := slot_is' u14e
            have c0_ := hp.cell 1 rfl
            have HP := Lib.hid hp
            clear hp
            go_simp
            refine hK.out _ _ ?_ (Ext.refl _) (fun h => absurd h (by simp))
            exact rfl
          · refine RStep.yes 8 true rfl rfl (by decide +kernel) rfl rfl (fun ac wk hp K hK => ?_)
            have t5_ : ac.tmps[5]?.getD undef = .pointer (some ⟨w4.heap.size, 0, none⟩) := hp.slot 5 rfl rfl
            have HP := Lib.hid hp
            clear hp
            go_simp
            refine hK.out _ _ ?_ (Ext.refl _) (fun h => absurd h (by simp))
            exact rfl
          · refine RStep.yes 8 true rfl rfl (by decide +kernel) rfl rfl (fun ac wk hp K hK => ?_)
            have u16e := hp.get 16 (by decide +kernel) rfl
            have t53_ : ac.tmps[53]?.getD undef = .pointer (some ⟨w4.heap.size, 2, none⟩) := slot_is' u16e
            have c0_ := hp.cell 4 rfl
            have HP := Lib.hid hp
            clear hp
            go_simp
            refine hK.out _ _ ?_ (Ext.refl _) (fun h => absurd h (by simp))
            exact rfl
          · refine RStep.yes 8 true rfl rfl (by decide +kernel) rfl rfl (fun ac wk hp K hK => ?_)
            have u15e := hp.get 15 (by decide +kernel) rfl
            have t52_ : ac.tmps[52]?.getD undef = .slice p0 A0.length q0 := slot_is' u15e
            have u17e := hp.get 17 (by decide +kernel) rfl
            have t54_ : ac.tmps[54]?.getD undef = .slice tp3 tl3 tc3 := slot_is' u17e
            have HP := Lib.hid hp
            clear hp
            go_simp
            refine (nmul_n ⟨_, (h0.gr ((y1.gr.trans (x2.gr.trans (x3.gr.trans (x4.gr.trans (y5.gr.trans (x6.gr.trans x7.gr)))))).trans HP.out.gr)), rfl, HLA0.out⟩ (Limbs.inN (k := 6) (e3.gr ((y5.gr.trans (x6.gr.trans x7.gr)).trans HP.out.gr)).den HLQ.out.2) (by decide)).mono ?_
            rintro e wk' ⟨sv9, rfl, o9, ix⟩
            obtain ⟨sp9, sl9, sc9, rfl⟩ := o9.slice'
            refine hK.out _ _ ?_ ix (fun h => absurd h (by simp))
            exact ⟨_, _, _, rfl, (o9.mono (Nat.le_trans e7_.size HP.out.gr.size))⟩
          · refine RStep.yes 8 true rfl rfl (by decide +kernel) rfl rfl (fun ac wk hp K hK => ?_)
            obtain ⟨u13p, u13n, u13c, u13e, u13o⟩ := hp.get 13 (by decide +kernel) rfl
            have t50_ : ac.tmps[50]?.getD undef = .slice u13p u13n u13c := slot_is' u13e
            obtain ⟨u18p, u18n, u18c, u18e, u18o⟩ := hp.get 18 (by decide +kernel) rfl
            have t55_ : ac.tmps[55]?.getD undef = .slice u18p u18n u18c := slot_is' u18e
            have HP := Lib.hid hp
            clear hp
            go_simp
            refine (ncmp_n (Limbs.inN (k := (6 + 6)) u13o.limbs (lt_mul HLQ.out.1 (InN.lt j0))) (Limbs.inN (k := (6 + 6)) u18o.limbs (lt_mul (lenN_raw h0 HLA0.out) HLQ.out.2)) (by decide) (by decide) 0 (cmpN_eq HCR.out)).mono ?_
            rintro e wk' ⟨rfl, ix⟩
            refine hK.out _ _ ?_ ix (fun h => absurd h (by simp))
            exact rfl
          · refine RStep.yes 8 true rfl rfl (by decide +kernel) rfl rfl (fun ac wk hp K hK => ?_)
            have u19e := hp.get 19 (by decide +kernel) rfl
            have t56_ : ac.tmps[56]?.getD undef = .int .i64 0 := slot_is' u19e
            have HP := Lib.hid hp
            clear hp
            go_simp
            refine hK.out _ _ ?_ (Ext.refl _) (fun h => absurd h (by simp))
            exact rfl
          · refine RStep.op rfl rfl (fun ac wk hp K hK => ?_)
            have u8e := hp.get 8 (by decide +kernel) rfl
            have t45_ : ac.tmps[45]?.getD undef = .bool true := slot_is' u8e
            have u20e := hp.get 20 (by decide +kernel) rfl
            have t57_ : ac.tmps[57]?.getD undef = .bool true := slot_is' u20e
            have HP := Lib.hid hp
            clear hp
            go_simp
            refine hK.out _ _ ?_ (Ext.refl _) (fun h => absurd h (by simp))
            exact rfl
          · refine RStep.op rfl rfl (fun ac wk hp K hK => ?_)
            have u21e := hp.get 21 (by decide +kernel) rfl
            have t58_ : ac.tmps[58]?.getD undef = .bool true := slot_is' u21e
            have HP := Lib.hid hp
            clear hp
            go_simp
            refine hK.out _ _ ?_ (Ext.refl _) (fun h => absurd h (by simp))
            exact rfl
          · refine RStep.yes 22 true rfl rfl (by decide +kernel) rfl rfl (fun ac wk hp K hK => ?_)
            have t5_ : ac.tmps[5]?.getD undef = .pointer (some ⟨w4.heap.size, 0, none⟩) := hp.slot 5 rfl rfl
            have HP := Lib.hid hp
            clear hp
            go_simp
            refine hK.out _ _ ?_ (Ext.refl _) (fun h => absurd h (by simp))
            exact rfl
          · refine RStep.yes 22 true rfl rfl (by decide +kernel) rfl rfl (fun ac wk hp K hK => ?_)
            have u23e := hp.get 23 (by decide +kernel) rfl
            have t60_ : ac.tmps[60]?.getD undef = .pointer (some ⟨w4.heap.size, 0, none⟩) := slot_is' u23e
            have HP := Lib.hid hp
            clear hp
            go_simp
            refine hK.out _ _ ?_ (Ext.refl _) (fun h => absurd h (by simp))
            exact rfl
          · refine RStep.yes 22 true rfl rfl (by decide +kernel) rfl rfl (fun ac wk hp K hK => ?_)
            have u24e := hp.get 24 (by decide +kernel) rfl
            have t61_ : ac.tmps[61]?.getD undef = .pointer (some ⟨w4.heap.size, 0, none⟩) := slot_is' u24e
            have c0_ := hp.cell 2 rfl
            have HP := Lib.hid hp
            clear hp
            go_simp
            refine hK.out _ _ ?_ (Ext.refl _) (fun h => absurd h (by simp))
            exact rfl
          · refine RStep.yes 22 true rfl rfl (by decide +kernel) rfl rfl (fun ac wk hp K hK => ?_)
            have t2_ : ac.tmps[2]?.getD undef = .pointer (some ⟨w.heap.size, 0, none⟩) := hp.slot 2 rfl rfl
            have HP := Lib.hid hp
            clear hp
            go_simp
            refine hK.out _ _ ?_ (Ext.refl _) (fun h => absurd h (by simp))
            exact rfl
          · refine RStep.yes 22 true rfl rfl (by decide +kernel) rfl rfl (fun ac wk hp K hK => ?_)
            have u26e := hp.get 26 (by decide +kernel) rfl
            have t63_ : ac.tmps[63]?.getD undef = .pointer (some ⟨w.heap.size, 0, none⟩) := slot_is' u26e
            have c0_ := hp.cell 0 rfl
            have HP := Lib.hid hp
            clear hp
            go_simp
            refine hK.out _ _ ?_ (Ext.refl _) (fun h => absurd h (by simp))
            exact rfl
          · refine RStep.yes 22 true rfl rfl (by decide +kernel) rfl rfl (fun ac wk hp K hK => ?_)
            have u27e := hp.get 27 (by decide +kernel) rfl
            have t64_ : ac.tmps[64]?.getD undef = .bool true := slot_is' u27e
            have HP := Lib.hid hp
            clear hp
            go_simp
            refine hK.out _ _ ?_ (Ext.refl _) (fun h => absurd h (by simp))
            exact rfl
          · refine RStep.yes 28 true rfl rfl (by decide +kernel) rfl rfl (fun ac wk hp K hK => ?_)
            have t2_ : ac.tmps[2]?.getD undef = .pointer (some ⟨w.heap.size, 0, none⟩) := hp.slot 2 rfl rfl
            have HP := Lib.hid hp
            clear hp
            go_simp
            refine hK.out _ _ ?_ (Ext.refl _) (fun h => absurd h (by simp))
            exact rfl
          · refine RStep.yes 28 true rfl rfl (by decide +kernel) rfl rfl (fun ac wk hp K hK => ?_)
            have u29e := hp.get 29 (by decide +kernel) rfl
            have t66_ : ac.tmps[66]?.getD undef = .pointer (some ⟨w.heap.size, 1, none⟩) := slot_is' u29e
            have c0_ := hp.cell 1 rfl
            have HP := Lib.hid hp
            clear hp
            go_simp
            refine hK.out _ _ ?_ (Ext.refl _) (fun h => absurd h (by simp))
            exact rfl
          · refine RStep.yes 28 true rfl rfl (by decide +kernel) rfl rfl (fun ac wk hp K hK => ?_)
            have u30e := hp.get 30 (by decide +kernel) rfl
            have t67_ : ac.tmps[67]?.getD undef = .slice p0 A0.length q0 := slot_is' u30e
            have HP := Lib.hid hp
            clear hp
            go_simp
            refine (nzero_n ⟨_, (h0.gr ((y1.gr.trans (x2.gr.trans (x3.gr.trans (x4.gr.trans (y5.gr.trans (x6.gr.trans x7.gr)))))).trans HP.out.gr)), rfl, HLA0.out⟩ (by decide) true HA0.out).mono ?_
            rintro e wk' ⟨rfl, ix⟩
            refine hK.out _ _ ?_ ix (fun h => absurd h (by simp))
            exact rfl
          · refine RStep.yes 28 true rfl rfl (by decide +kernel) rfl rfl (fun ac wk hp K hK => ?_)
            have u31e := hp.get 31 (by decide +kernel) rfl
            have t68_ : ac.tmps[68]?.getD undef = .bool true := slot_is' u31e
            have HP := Lib.hid hp
            clear hp
            go_simp
            refine hK.out _ _ ?_ (Ext.refl _) (fun h => absurd h (by simp))
            exact rfl
          · refine RStep.yes 22 true rfl rfl (by decide +kernel) rfl rfl (fun ac wk hp K hK => ?_)
            have u28e := hp.get 28 (by decide +kernel) rfl
            have t65_ : ac.tmps[65]?.getD undef = .bool true := slot_is' u28e
            have u32e := hp.get 32 (by decide +kernel) rfl
            have t69_ : ac.tmps[69]?.getD undef = .bool false := slot_is' u32e
            have HP := Lib.hid hp
            clear hp
            go_simp
            refine hK.out _ _ ?_ (Ext.refl _) (fun h => absurd h (by simp))
            exact rfl
          · refine RStep.yes 22 true rfl rfl (by decide +kernel) rfl rfl (fun ac wk hp K hK => ?_)
            have u25e := hp.get 25 (by decide +kernel) rfl
            have t62_ : ac.tmps[62]?.getD undef = .bool false := slot_is' u25e
            have u33e := hp.get 33 (by decide +kernel) rfl
            have t70_ : ac.tmps[70]?.getD undef = .bool false := slot_is' u33e
            have HP := Lib.hid hp
            clear hp
            go_simp
            refine hK.out _ _ ?_ (Ext.refl _) (fun h => absurd h (by simp))
            exact rfl
          · refine RStep.op rfl rfl (fun ac wk hp K hK => ?_)
            have u22e := hp.get 22 (by decide +kernel) rfl
            have t59_ : ac.tmps[59]?.getD undef = .bool true := slot_is' u22e
            have u34e := hp.get 34 (by decide +kernel) rfl
            have t71_ : ac.tmps[71]?.getD undef = .bool true := slot_is' u34e
            have HP := Lib.hid hp
            clear hp
            go_simp
            refine hK.out _ _ ?_ (Ext.refl _) (fun h => absurd h (by simp))
            exact rfl
          · refine RStep.op rfl rfl (fun ac wk hp K hK => ?_)
            have u35e := hp.get 35 (by decide +kernel) rfl
            have t72_ : ac.tmps[72]?.getD undef = .bool true := slot_is' u35e
            have HP := Lib.hid hp
            clear hp
            go_simp
            refine hK.out _ _ ?_ (Ext.refl _) (fun h => absurd h (by simp))
            exact rfl
          · refine RStep.yes 36 true rfl rfl (by decide +kernel) rfl rfl (fun ac wk hp K hK => ?_)
            have t5_ : ac.tmps[5]?.getD undef = .pointer (some ⟨w4.heap.size, 0, none⟩) := hp.slot 5 rfl rfl
            have HP := Lib.hid hp
            clear hp
            go_simp
            refine hK.out _ _ ?_ (Ext.refl _) (fun h => absurd h (by simp))
            exact rfl
          · refine RStep.yes 36 true rfl rfl (by decide +kernel) rfl rfl (fun ac wk hp K hK => ?_)
            have u37e := hp.get 37 (by decide +kernel) rfl
            have t74_ : ac.tmps[74]?.getD undef = .pointer (some ⟨w4.heap.size, 2, none⟩) := slot_is' u37e
            have c0_ := hp.cell 4 rfl
            have HP := Lib.hid hp
            clear hp
            go_simp
            refine hK.out _ _ ?_ (Ext.refl _) (fun h => absurd h (by simp))
            exact rfl
          · refine RStep.yes 36 true rfl rfl (by decide +kernel) rfl rfl (fun ac wk hp K hK => ?_)
            have u38e := hp.get 38 (by decide +kernel) rfl
            have t75_ : ac.tmps[75]?.getD undef = .slice tp3 tl3 tc3 := slot_is' u38e
            have HP := Lib.hid hp
            clear hp
            go_simp
            refine (nzero_n (Limbs.inN (k := 6) (e3.gr ((y5.gr.trans (x6.gr.trans x7.gr)).trans HP.out.gr)).den HLQ.out.2) (by decide) false (decide_eq_false q.den_nz)).mono ?_
            rintro e wk' ⟨rfl, ix⟩
            refine hK.out _ _ ?_ ix (fun h => absurd h (by simp))
            exact rfl
          · refine RStep.yes 36 true rfl rfl (by decide +kernel) rfl rfl (fun ac wk hp K hK => ?_)
            have u39e := hp.get 39 (by decide +kernel) rfl
            have t76_ : ac.tmps[76]?.getD undef = .bool false := slot_is' u39e
            have HP := Lib.hid hp
            clear hp
            go_simp
            refine hK.out _ _ ?_ (Ext.refl _) (fun h => absurd h (by simp))
            exact rfl
          · refine RStep.op rfl rfl (fun ac wk hp K hK => ?_)
            have u36e := hp.get 36 (by decide +kernel) rfl
            have t73_ : ac.tmps[73]?.getD undef = .bool true := slot_is' u36e
            have u40e := hp.get 40 (by decide +kernel) rfl
            have t77_ : ac.tmps[77]?.getD undef = .bool true := slot_is' u40e
            have HP := Lib.hid hp
            clear hp
            go_simp
            refine hK.out _ _ ?_ (Ext.refl _) (fun h => absurd h (by simp))
            exact rfl
          · refine RStep.op rfl rfl (fun ac wk hp K hK => ?_)
            have u41e := hp.get 41 (by decide +kernel) rfl
            have t78_ : ac.tmps[78]?.getD undef = .bool true := slot_is' u41e
            have HP := Lib.hid hp
            clear hp
            go_simp
            refine hK.out _ _ ?_ (Ext.refl _) (fun h => absurd h (by simp))
            exact rfl
        case he =>
          intro ac v8 hM
          obtain ⟨y1_0b, y1_0p, y1_0n, y1_0c, y1_0q, y1_0k, y1_0d, y1_0m, y1_0l, y1_0e, y1_0i, y1_0o⟩ := hM.post 0 rfl rfl
          have y1_1e := hM.post 1 rfl rfl
          have y1_2e := hM.post 2 rfl rfl
          obtain ⟨y1_3p, y1_3n, y1_3c, y1_3e, y1_3o⟩ := hM.post 3 rfl rfl
          obtain ⟨y1_4p, y1_4n, y1_4c, y1_4e, y1_4i⟩ := hM.post 4 rfl rfl
          have y1_5e := hM.post 5 rfl rfl
          have y1_6e := hM.post 6 rfl rfl
          have y1_7e := hM.post 7 rfl rfl
          have y1_8e := hM.post 8 rfl rfl
          have y1_9e := hM.post 9 rfl rfl
          have y1_10e := hM.post 10 rfl rfl
          have y1_11e := hM.post 11 rfl rfl
          have y1_12e := hM.post 12 rfl rfl
          obtain ⟨y1_13p, y1_13n, y1_13c, y1_13e, y1_13o⟩ := hM.post 13 rfl rfl
          have y1_14e := hM.post 14 rfl rfl
          have y1_15e := hM.post 15 rfl rfl
          have y1_16e := hM.post 16 rfl rfl
          have y1_17e := hM.post 17 rfl rfl
          obtain ⟨y1_18p, y1_18n, y1_18c, y1_18e, y1_18o⟩ := hM.post 18 rfl rfl
          have y1_19e := hM.post 19 rfl rfl
          have y1_20e := hM.post 20 rfl rfl
          have y1_21e := hM.post 21 rfl rfl
          have y1_22e := hM.post 22 rfl rfl
          have y1_23e := hM.post 23 rfl rfl
          have y1_24e := hM.post 24 rfl rfl
          have y1_25e := hM.post 25 rfl rfl
          have y1_26e := hM.post 26 rfl rfl
          have y1_27e := hM.post 27 rfl rfl
          have y1_28e := hM.post 28 rfl rfl
          have y1_29e := hM.post 29 rfl rfl
          have y1_30e := hM.post 30 rfl rfl
          have y1_31e := hM.post 31 rfl rfl
          have y1_32e := hM.post 32 rfl rfl
          have y1_33e := hM.post 33 rfl rfl
          have y1_34e := hM.post 34 rfl rfl
          have y1_35e := hM.post 35 rfl rfl
          have y1_36e := hM.post 36 rfl rfl
          have y1_37e := hM.post 37 rfl rfl
          have y1_38e := hM.post 38 rfl rfl
          have y1_39e := hM.post 39 rfl rfl
          have y1_40e := hM.post 40 rfl rfl
          have y1_41e := hM.post 41 rfl rfl
          have y1_42e := hM.post 42 rfl rfl
          have b0_0 : Hid (At (w.heap.size) 0 (.bool true) v8) := Lib.hid (hM.keep.at 0 rfl)
          have b0_1 : Hid (At (w.heap.size) 1 (.slice p0 A0.length q0) v8) := Lib.hid (hM.keep.at 1 rfl)
          have b2_0 : Hid (At (w4.heap.size) 0 (.bool false) v8) := Lib.hid (hM.keep.at 2 rfl)
          have b2_1 : Hid (At (w4.heap.size) 1 (.slice sp3 sl3 sc3) v8) := Lib.hid (hM.keep.at 3 rfl)
          have b2_2 : Hid (At (w4.heap.size) 2 (.slice tp3 tl3 tc3) v8) := Lib.hid (hM.keep.at 4 rfl)
          have gv8 : Gr w7 v8 := hM.gr
          have e8_ : Ext w v8 := Ext.below e7_ hM.blw
          have z0_ : sl ac 37 = .agg #[.bool y1_0b, .slice y1_0p y1_0n y1_0c, .slice y1_0q y1_0k y1_0d] := y1_0e
          have z1_ : sl ac 38 = .bool true := y1_1e
          have z2_ : sl ac 39 = .bool true := y1_2e
          have z3_ : sl ac 40 = .slice y1_3p y1_3n y1_3c := y1_3e
          have z4_ : sl ac 41 = .slice y1_4p y1_4n y1_4c := y1_4e
          have z5_ : sl ac 42 = .int .i64 0 := y1_5e
          have z6_ : sl ac 43 = .bool true := y1_6e
          have z7_ : sl ac 44 = .bool true := y1_7e
          have z8_ : sl ac 45 = .bool true := y1_8e
          have z9_ : sl ac 46 = .pointer (some ⟨w4.heap.size, 0, none⟩) := y1_9e
          have z10_ : sl ac 47 = .pointer (some ⟨w4.heap.size, 1, none⟩) := y1_10e
          have z11_ : sl ac 48 = .slice sp3 sl3 sc3 := y1_11e
          have z12_ : sl ac 49 = .slice p0' B0.length q0' := y1_12e
          have z13_ : sl ac 50 = .slice y1_13p y1_13n y1_13c := y1_13e
          have z14_ : sl ac 51 = .pointer (some ⟨w.heap.size, 1, none⟩) := y1_14e
          have z15_ : sl ac 52 = .slice p0 A0.length q0 := y1_15e
          have z16_ : sl ac 53 = .pointer (some ⟨w4.heap.size, 2, none⟩) := y1_16e
          have z17_ : sl ac 54 = .slice tp3 tl3 tc3 := y1_17e
          have z18_ : sl ac 55 = .slice y1_18p y1_18n y1_18c := y1_18e
          have z19_ : sl ac 56 = .int .i64 0 := y1_19e
          have z20_ : sl ac 57 = .bool true := y1_20e
          have z21_ : sl ac 58 = .bool true := y1_21e
          have z22_ : sl ac 59 = .bool true := y1_22e
          have z23_ : sl ac 60 = .pointer (some ⟨w4.heap.size, 0, none⟩) := y1_23e
          have z24_ : sl ac 61 = .pointer (some ⟨w4.heap.size, 0, none⟩) := y1_24e
          have z25_ : sl ac 62 = .bool false := y1_25e
          have z26_ : sl ac 63 = .pointer (some ⟨w.heap.size, 0, none⟩) := y1_26e
          have z27_ : sl ac 64 = .bool true := y1_27e
          have z28_ : sl ac 65 = .bool true := y1_28e
          have z29_ : sl ac 66 = .pointer (some ⟨w.heap.size, 1, none⟩) := y1_29e
          have z30_ : sl ac 67 = .slice p0 A0.length q0 := y1_30e
          have z31_ : sl ac 68 = .bool true := y1_31e
          have z32_ : sl ac 69 = .bool false := y1_32e
          have z33_ : sl ac 70 = .bool false := y1_33e
          have z34_ : sl ac 71 = .bool true := y1_34e
          have z35_ : sl ac 72 = .bool true := y1_35e
          have z36_ : sl ac 73 = .bool true := y1_36e
          have z37_ : sl ac 74 = .pointer (some ⟨w4.heap.size, 2, none⟩) := y1_37e
          have z38_ : sl ac 75 = .slice tp3 tl3 tc3 := y1_38e
          have z39_ : sl ac 76 = .bool false := y1_39e
          have z40_ : sl ac 77 = .bool true := y1_40e
          have z41_ : sl ac 78 = .bool true := y1_41e
          have z42_ : sl ac 4 = .bool true := y1_42e
          rw [hM.ag.lay]
          simp only [lay, List.foldl_cons, List.foldl_nil, List.setIfInBounds_toArray, List.set_cons_zero, List.set_cons_succ, z0_, z1_, z2_, z3_, z4_, z5_, z6_, z7_, z8_, z9_, z10_, z11_, z12_, z13_, z14_, z15_, z16_, z17_, z18_, z19_, z20_, z21_, z22_, z23_, z24_, z25_, z26_, z27_, z28_, z29_, z30_, z31_, z32_, z33_, z34_, z35_, z36_, z37_, z38_, z39_, z40_, z41_, z42_]
          clear hM hkeep1 hob1 hne1 z0_ z1_ z2_ z3_ z4_ z5_ z6_ z7_ z8_ z9_ z10_ z11_ z12_ z13_ z14_ z15_ z16_ z17_ z18_ z19_ z20_ z21_ z22_ z23_ z24_ z25_ z26_ z27_ z28_ z29_ z30_ z31_ z32_ z33_ z34_ z35_ z36_ z37_ z38_ z39_ z40_ z41_ z42_ y1_0e y1_1e y1_2e y1_3e y1_4e y1_5e y1_6e y1_7e y1_8e y1_9e y1_10e y1_11e y1_12e y1_13e y1_14e y1_15e y1_16e y1_17e y1_18e y1_19e y1_20e y1_21e y1_22e y1_23e y1_24e y1_25e y1_26e y1_27e y1_28e y1_29e y1_30e y1_31e y1_32e y1_33e y1_34e y1_35e y1_36e y1_37e y1_38e y1_39e y1_40e y1_41e y1_42e
          go_wp2_with fail
          go_ret
          exact ⟨rfl, e8_⟩
      · have HA0 : Hid (decide (val A0 = 0) = false) := decide_eq_false ha
        have HF : Hid (decide (q.num < 0) = true) := by
          show _ = _
          rw [decide_eq_true_eq, hsg]; unfold iv; simp; omega
        clear hb hq hsg ha
        go_enter Tryz.func5, Tryz.ntmps5
        go_wp2_with fail
        obtain ⟨v1, hv1⟩ : ∃ W, W = ((w.alloc (.cells #[.bool true, .slice p0 A0.length q0] 25)).alloc (.cells #[.bool true, .slice p0 A0.length q0, .slice p0' B0.length q0'] 27)) := ⟨_, rfl⟩
        have y1 : Ext w v1 := by rw [hv1]; exact (((Ext.refl _).alloc _).alloc _)
        have b0_0 : Hid (At (w.heap.size) 0 (.bool true) v1) := by rw [hv1]; exact At.ext (At.n0 (by rfl)) ((Ext.refl _).alloc _)
        have b0_1 : Hid (At (w.heap.size) 1 (.slice p0 A0.length q0) v1) := by rw [hv1]; exact At.ext (At.n0 (by rfl)) ((Ext.refl _).alloc _)
        have k0 : Hid (Bx 2 (w.heap.size) v1) := by rw [hv1]; exact Bx.gr (Bx.n0 2 ⟨rfl, by decide⟩ (by decide) noI_s2) (Ext.gr ((Ext.refl _).alloc _))
        have u0 : Hid (w.heap.size < v1.heap.size) := b0_0.out.2
        have b1_0 : Hid (At (w.heap.size + 1) 0 (.bool true) v1) := by rw [hv1]; exact At.ext (At.n1 (by rfl)) (Ext.refl _)
        have b1_1 : Hid (At (w.heap.size + 1) 1 (.slice p0 A0.length q0) v1) := by rw [hv1]; exact At.ext (At.n1 (by rfl)) (Ext.refl _)
        have b1_2 : Hid (At (w.heap.size + 1) 2 (.slice p0' B0.length q0') v1) := by rw [hv1]; exact At.ext (At.n1 (by rfl)) (Ext.refl _)
        have k1 : Hid (Bx 3 (w.heap.size + 1) v1) := by rw [hv1]; exact Bx.gr (Bx.n1 3 ⟨rfl, by decide⟩ (by decide) noI_s3) (Ext.gr (Ext.refl _))
        have u1 : Hid (w.heap.size + 1 < v1.heap.size) := b1_0.out.2
        have e1_ : Ext w v1 := y1
        rw [← hv1]
        clear hv1
        refine (long_calls (Ls := [(true, A0, B0)]) (sl3_1 (b1_0.out) (b1_1.out) (b1_2.out) (⟨rfl, (h0.ext y1), (g0.ext y1)⟩)) false HLB.out).mono ?_
        rintro e w2 ⟨rfl, x2⟩
        have e2_ : Ext w w2 := Ext.trans e1_ x2
        go_wp2_with fail
        refine (awake06_calls _).mono ?_
        rintro e w3 ⟨rfl, x3⟩
        have e3_ : Ext w w3 := Ext.trans e2_ x3
        have g0_0 := (b0_0.out.ext (x2.trans x3)).1
        have g0_1 := (b0_1.out.ext (x2.trans x3)).1
        have f0 : w.heap.size < w3.heap.size := (b0_0.out.ext (x2.trans x3)).2
        go_wp2_with fail
        refine (rmake_is (q := q) ⟨_, (h0.ext (y1.trans (x2.trans x3))), rfl, HLA0.out⟩ (j0.ext (y1.trans (x2.trans x3))) HB1.out (by decide) (by decide) HQ.out).mono ?_
        rintro e w4 ⟨sb3, sv3, su3, sm3, sd3, rfl, e3, o3, x4⟩
        have e4_ : Ext w w4 := Ext.trans e3_ x4
        have hsb : sb3 = true := e3.1.symm.trans HF.out
        subst hsb
        obtain ⟨sp3, sl3, sc3, tp3, tl3, tc3, rfl, rfl⟩ := e3.slice
        clear g0_0 g0_1 f0
        go_wp2_with fail
        obtain ⟨v5, hv5⟩ : ∃ W, W = (w4.alloc (.cells #[.bool true, .slice sp3 sl3 sc3, .slice tp3 tl3 tc3] 27)) := ⟨_, rfl⟩
        have y5 : Ext w4 v5 := by rw [hv5]; exact ((Ext.refl _).alloc _)
        have b2_0 : Hid (At (w4.heap.size) 0 (.bool true) v5) := by rw [hv5]; exact At.ext (At.n0 (by rfl)) (Ext.refl _)
        have b2_1 : Hid (At (w4.heap.size) 1 (.slice sp3 sl3 sc3) v5) := by rw [hv5]; exact At.ext (At.n0 (by rfl)) (Ext.refl _)
        have b2_2 : Hid (At (w4.heap.size) 2 (.slice tp3 tl3 tc3) v5) := by rw [hv5]; exact At.ext (At.n0 (by rfl)) (Ext.refl _)
        have k2 : Hid (Bx 3 (w4.heap.size) v5) := by rw [hv5]; exact Bx.gr (Bx.n0 3 ⟨rfl, by decide⟩ (by decide) noI_s3) (Ext.gr (Ext.refl _))
        have u2 : Hid (w4.heap.size < v5.heap.size) := b2_0.out.2
        have e5_ : Ext w v5 := Ext.trans e4_ y5
        rw [← hv5]
        clear hv5
        refine (nzero_n (j0.ext (y1.trans (x2.trans (x3.trans (x4.trans y5))))) (by decide) false HZB1.out).mono ?_
        rintro e w6 ⟨rfl, x6⟩
        have e6_ : Ext w w6 := Ext.trans e5_ x6
        have g2_1 := (b2_1.out.ext x6).1
        have g2_2 := (b2_2.out.ext x6).1
        have f2 : w4.heap.size < w6.heap.size := (b2_0.out.ext x6).2
        go_wp2_with fail
        refine (gcd_n (Limbs.inN (k := 6) (e3.ext (y5.trans x6)).mag HLQ.out.1) (Limbs.inN (k := 6) (e3.ext (y5.trans x6)).den HLQ.out.2) (by decide) (by decide)).mono ?_
        rintro e w7 ⟨sv5, rfl, o5, x7⟩
        have e7_ : Ext w w7 := Ext.trans e6_ x7
        obtain ⟨sp5, sl5, sc5, rfl⟩ := o5.slice'
        clear g2_1 g2_2 f2
        go_wp2_with fail
        have hkeep1 : AllAt' ([(w.heap.size, 0, .bool true), (w.heap.size, 1, .slice p0 A0.length q0), (w4.heap.size, 0, .bool true), (w4.heap.size, 1, .slice sp3 sl3 sc3), (w4.heap.size, 2, .slice tp3 tl3 tc3)] : List (Nat × Nat × Value)) w7 := AllAt'.cons (b0_0.out.ext (x2.trans (x3.trans (x4.trans (y5.trans (x6.trans x7)))))) (AllAt'.cons (b0_1.out.ext (x2.trans (x3.trans (x4.trans (y5.trans (x6.trans x7)))))) (AllAt'.cons (b2_0.out.ext (x6.trans x7)) (AllAt'.cons (b2_1.out.ext (x6.trans x7)) (AllAt'.cons (b2_2.out.ext (x6.trans x7)) (AllAt'.nil _)))))
        have hob1 : ObOk w.heap.size w7 (([(w.heap.size, 0, .bool true), (w.heap.size, 1, .slice p0 A0.length q0), (w4.heap.size, 0, .bool true), (w4.heap.size, 1, .slice sp3 sl3 sc3), (w4.heap.size, 2, .slice tp3 tl3 tc3)] : List (Nat × Nat × Value)).map (·.1)) ([] : List (Nat × List (Nat × Value))) := trivial
        have hne1 : AllNe (([] : List (Nat × List (Nat × Value))).map (·.1)) := trivial
        (try simp only [List.append_eq, List.cons_append, List.nil_append])
        refine wp_region_gen ⟨[37, 38, 39, 40, 41, 42, 43, 44, 45, 46, 47, 48, 49, 50, 51, 52, 53, 54, 55, 56, 57, 58, 59, 60, 61, 62, 63, 64, 65, 66, 67, 68, 69, 70, 71, 72, 73, 74, 75, 76, 77, 78, 4], fun i => false, fun i => ([none, none, none, none, none, none, none, none, none, none, none, none, none, none, none, none, none, none, none, none, none, none, none, none, none, none, none, none, none, none, none, none, none, none, none, none, none, none, none, none, none, none, none] : List (Option (BoxRef × Nat))).getD i none, fun i => ([Sg.ratO w.heap.size q, Sg.val (.bool true), Sg.val (.bool true), Sg.natO w.heap.size (Nat.gcd (q).num.natAbs (q).den), Sg.nat 1, Sg.val (.int .i64 0), Sg.val (.bool true), Sg.val (.bool true), Sg.val (.bool true), Sg.val (.pointer (some ⟨w4.heap.size, 0, none⟩)), Sg.val (.pointer (some ⟨w4.heap.size, 1, none⟩)), Sg.val (.slice sp3 sl3 sc3), Sg.val (.slice p0' B0.length q0'), Sg.natO w.heap.size ((q).num.natAbs * (val B0)), Sg.val (.pointer (some ⟨w.heap.size, 1, none⟩)), Sg.val (.slice p0 A0.length q0), Sg.val (.pointer (some ⟨w4.heap.size, 2, none⟩)), Sg.val (.slice tp3 tl3 tc3), Sg.natO w.heap.size ((val A0) * (q).den), Sg.val (.int .i64 0), Sg.val (.bool true), Sg.val (.bool true), Sg.val (.bool true), Sg.val (.pointer (some ⟨w4.heap.size, 0, none⟩)), Sg.val (.pointer (some ⟨w4.heap.size, 0, none⟩)), Sg.val (.bool true), Sg.val (.pointer (some ⟨w.heap.size, 0, none⟩)), Sg.val (.bool true), Sg.val (.bool true), Sg.val (.pointer (some ⟨w.heap.size, 1, none⟩)), Sg.val (.slice p0 A0.length q0), Sg.val (.bool false), Sg.val (.bool true), Sg.val (.bool true), Sg.val (.bool true), Sg.val (.bool true), Sg.val (.bool true), Sg.val (.pointer (some ⟨w4.heap.size, 2, none⟩)), Sg.val (.slice tp3 tl3 tc3), Sg.val (.bool false), Sg.val (.bool true), Sg.val (.bool true), Sg.val (.bool true)] : List Sg).getD i Sg.any, [(w.heap.size, 0, .bool true), (w.heap.size, 1, .slice p0 A0.length q0), (w4.heap.size, 0, .bool true), (w4.heap.size, 1, .slice sp3 sl3 sc3), (w4.heap.size, 2, .slice tp3 tl3 tc3)], []⟩ w.heap.size (by kernel_rfl) (by kernel_rfl) e7_.size ?hfr hkeep1 hob1 hne1 ?hs ?he
        case hfr =>
          intro i v wk hi hst hv
          exact absurd hi (by simp)
        case hs =>
          refine ⟨?_, ?_, ?_, ?_, ?_, ?_, ?_, ?_, ?_, ?_, ?_, ?_, ?_, ?_, ?_, ?_, ?_, ?_, ?_, ?_, ?_, ?_, ?_, ?_, ?_, ?_, ?_, ?_, ?_, ?_, ?_, ?_, ?_, ?_, ?_, ?_, ?_, ?_, ?_, ?_, ?_, ?_, ?_, trivial⟩
          · refine RStep.op rfl rfl (fun ac wk hp K hK => ?_)
            have t5_ : ac.tmps[5]?.getD undef = .pointer (some ⟨w4.heap.size, 0, none⟩) := hp.slot 5 rfl rfl
            have c0_ := hp.cell 2 rfl
            have c1_ := hp.cell 3 rfl
            have c2_ := hp.cell 4 rfl
            have HP := Lib.hid hp
            clear hp
            go_simp
            refine hK.out _ _ ?_ (Ext.refl _) (fun h => absurd h (by simp))
            exact ⟨_, _, _, _, _, _, _, _, _, rfl, (e3.gr ((y5.gr.trans (x6.gr.trans x7.gr)).trans HP.out.gr)), ((o3.gr ((y5.gr.trans (x6.gr.trans x7.gr)).trans HP.out.gr)).mono e3_.size)⟩
          · refine RStep.op rfl rfl (fun ac wk hp K hK => ?_)
            obtain ⟨u0b, u0p, u0n, u0c, u0q, u0k, u0d, u0m, u0l, u0e, u0i, u0o⟩ := hp.get 0 (by decide +kernel) rfl
            have t37_ : ac.tmps[37]?.getD undef = .agg #[.bool u0b, .slice u0p u0n u0c, .slice u0q u0k u0d] := slot_is' u0e
            have HP := Lib.hid hp
            clear hp
            go_simp
            refine (rmay_is u0i HLQ.out (by decide)).mono ?_
            rintro e wk' ⟨rfl, ix⟩
            refine hK.out _ _ ?_ ix (fun h => absurd h (by simp))
            exact rfl
          · refine RStep.op rfl rfl (fun ac wk hp K hK => ?_)
            have u1e := hp.get 1 (by decide +kernel) rfl
            have t38_ : ac.tmps[38]?.getD undef = .bool true := slot_is' u1e
            have HP := Lib.hid hp
            clear hp
            go_simp
            refine hK.out _ _ ?_ (Ext.refl _) (fun h => absurd h (by simp))
            exact rfl
          · refine RStep.yes 2 true rfl rfl (by decide +kernel) rfl rfl (fun ac wk hp K hK => ?_)
            have t7_ : ac.tmps[7]?.getD undef = .slice sp5 sl5 sc5 := hp.slot 7 rfl rfl
            have HP := Lib.hid hp
            clear hp
            go_simp
            refine hK.out _ _ ?_ (Ext.refl _) (fun h => absurd h (by simp))
            exact ⟨_, _, _, rfl, ((o5.gr HP.out.gr).mono e6_.size)⟩
          · refine RStep.yes 2 true rfl rfl (by decide +kernel) rfl rfl (fun ac wk hp K hK => ?_)
            have HP := Lib.hid hp
            clear hp
            go_simp
            exact hK.out _ _ ⟨_, _, _, rfl, lit_dig (lit_n0 [1] (by decide) rfl 1 rfl (by decide)) (by decide) (by decide)⟩ ((Ext.refl _).alloc _) (fun h => absurd h (by simp))
          · refine RStep.yes 2 true rfl rfl (by decide +kernel) rfl rfl (fun ac wk hp K hK => ?_)
            obtain ⟨u3p, u3n, u3c, u3e, u3o⟩ := hp.get 3 (by decide +kernel) rfl
            have t40_ : ac.tmps[40]?.getD undef = .slice u3p u3n u3c := slot_is' u3e
            obtain ⟨u4p, u4n, u4c, u4e, u4i⟩ := hp.get 4 (by decide +kernel) rfl
            have t41_ : ac.tmps[41]?.getD undef = .slice u4p u4n u4c := slot_is' u4e
            have HP := Lib.hid hp
            clear hp
            go_simp
            refine (ncmp_n (Limbs.inN (k := 6) u3o.limbs (gcd_lt HLQ.out.2 q.den_nz)) (Limbs.inN (k := 1) u4i (by rw [Nat.pow_one]; exact small_Bs (n := 1) (by decide))) (by decide) (by decide) 0 (by rw [q.reduced]; rfl)).mono ?_
            rintro e wk' ⟨rfl, ix⟩
            refine hK.out _ _ ?_ ix (fun h => absurd h (by simp))
            exact rfl
          · refine RStep.yes 2 true rfl rfl (by decide +kernel) rfl rfl (fun ac wk hp K hK => ?_)
            have u5e := hp.get 5 (by decide +kernel) rfl
            have t42_ : ac.tmps[42]?.getD undef = .int .i64 0 := slot_is' u5e
            have HP := Lib.hid hp
            clear hp
            go_simp
            refine hK.out _ _ ?_ (Ext.refl _) (fun h => absurd h (by simp))
            exact rfl
          · refine RStep.op rfl rfl (fun ac wk hp K hK => ?_)
            have u2e := hp.get 2 (by decide +kernel) rfl
            have t39_ : ac.tmps[39]?.getD undef = .bool true := slot_is' u2e
            have u6e := hp.get 6 (by decide +kernel) rfl
            have t43_ : ac.tmps[43]?.getD undef = .bool true := slot_is' u6e
            have HP := Lib.hid hp
            clear hp
            go_simp
            refine hK.out _ _ ?_ (Ext.refl _) (fun h => absurd h (by simp))
            exact rfl
          · refine RStep.op rfl rfl (fun ac wk hp K hK => ?_)
            have u7e := hp.get 7 (by decide +kernel) rfl
            have t44_ : ac.tmps[44]?.getD undef = .bool true := slot_is' u7e
            have HP := Lib.hid hp
            clear hp
            go_simp
            refine hK.out _ _ ?_ (Ext.refl _) (fun h => absurd h (by simp))
            exact rfl
          · refine RStep.yes 8 true rfl rfl (by decide +kernel) rfl rfl (fun ac wk hp K hK => ?_)
            have t5_ : ac.tmps[5]?.getD undef = .pointer (some ⟨w4.heap.size, 0, none⟩) := hp.slot 5 rfl rfl
            have HP := Lib.hid hp
            clear hp
            go_simp
            refine hK.out _ _ ?_ (Ext.refl _) (fun h => absurd h (by simp))
            exact rfl
          · refine RStep.yes 8 true rfl rfl (by decide +kernel) rfl rfl (fun ac wk hp K hK => ?_)
            have u9e := hp.get 9 (by decide +kernel) rfl
            have t46_ : ac.tmps[46]?.getD undef = .pointer (some ⟨w4.heap.size, 0, none⟩) := slot_is' u9e
            have HP := Lib.hid hp
            clear hp
            go_simp
            refine hK.out _ _ ?_ (Ext.refl _) (fun h => absurd h (by simp))
            exact rfl
          · refine RStep.yes 8 true rfl rfl (by decide +kernel) rfl rfl (fun ac wk hp K hK => ?_)
            have u10e := hp.get 10 (by decide +kernel) rfl
            have t47_ : ac.tmps[47]?.getD undef = .pointer (some ⟨w4.heap.size, 1, none⟩) := slot_is' u10e
            have c0_ := hp.cell 3 rfl
            have HP := Lib.hid hp
            clear hp
            go_simp
            refine hK.out _ _ ?_ (Ext.refl _) (fun h => absurd h (by simp))
            exact rfl
          · refine RStep.yes 8 true rfl rfl (by decide +kernel) rfl rfl (fun ac wk hp K hK => ?_)
            have t1_ : ac.tmps[1]?.getD undef = .slice p0' B0.length q0' := hp.slot 1 rfl rfl
            have HP := Lib.hid hp
            clear hp
            go_simp
            refine hK.out _ _ ?_ (Ext.refl _) (fun h => absurd h (by simp))
            exact rfl
          · refine RStep.yes 8 true rfl rfl (by decide +kernel) rfl rfl (fun ac wk hp K hK => ?_)
            have u11e := hp.get 11 (by decide +kernel) rfl
            have t48_ : ac.tmps[48]?.getD undef = .slice sp3 sl3 sc3 := slot_is' u11e
            have u12e := hp.get 12 (by decide +kernel) rfl
            have t49_ : ac.tmps[49]?.getD undef = .slice p0' B0.length q0' := slot_is' u12e
            have HP := Lib.hid hp
            clear hp
            go_simp
            refine (nmul_n (Limbs.inN (k := 6) (e3.gr ((y5.gr.trans (x6.gr.trans x7.gr)).trans HP.out.gr)).mag HLQ.out.1) (j0.gr ((y1.gr.trans (x2.gr.trans (x3.gr.trans (x4.gr.trans (y5.gr.trans (x6.gr.trans x7.gr)))))).trans HP.out.gr)) (by decide)).mono ?_
            rintro e wk' ⟨sv8, rfl, o8, ix⟩
            obtain ⟨sp8, sl8, sc8, rfl⟩ := o8.slice'
            refine hK.out _ _ ?_ ix (fun h => absurd h (by simp))
            exact ⟨_, _, _, rfl, (o8.mono (Nat.le_trans e7_.size HP.out.gr.size))⟩
          · refine RStep.yes 8 true rfl rfl (by decide +kernel) rfl rfl (fun ac wk hp K hK => ?_)
            have t2_ : ac.tmps[2]?.getD undef = .pointer (some ⟨w.heap.size, 0, none⟩) := hp.slot 2 rfl rfl
            have HP := Lib.hid hp
            clear hp
            go_simp
            refine hK.out _ _ ?_ (Ext.refl _) (fun h => absurd h (by simp))
            exact rfl
          · refine RStep.yes 8 true rfl rfl (by decide +kernel) rfl rfl (fun ac wk hp K hK => ?_)
            have u14e := hp.get 14 (by decide +kernel) rfl
            have t51_ : ac.tmps[51]?.getD undef = .pointer (some ⟨w.heap.size, 1, none⟩) := slot_is' u14e
            have c0_ := hp.cell 1 rfl
            have HP := Lib.hid hp
            clear hp
            go_simp
            refine hK.out _ _ ?_ (Ext.refl _) (fun h => absurd h (by simp))
            exact rfl
          · refine RStep.yes 8 true rfl rfl (by decide +kernel) rfl rfl (fun ac wk hp K hK => ?_)
            have t5_ : ac.tmps[5]?.getD undef = .pointer (some ⟨w4.heap.size, 0, none⟩) := hp.slot 5 rfl rfl
            have HP := Lib.hid hp
            clear hp
            go_simp
            refine hK.out _ _ ?_ (Ext.refl _) (fun h => absurd h (by simp))
            exact rfl
          · refine RStep.yes 8 true rfl rfl (by decide +kernel) rfl rfl (fun ac wk hp K hK => ?_)
            have u16e := hp.get 16 (by decide +kernel) rfl
            have t53_ : ac.tmps[53]?.getD undef = .pointer (some ⟨w4.heap.size, 2, none⟩) := slot_is' u16e
            have c0_ := hp.cell 4 rfl
            have HP := Lib.hid hp
            clear hp
            go_simp
            refine hK.out _ _ ?_ (Ext.refl _) (fun h => absurd h (by simp))
            exact rfl
          · refine RStep.yes 8 true rfl rfl (by decide +kernel) rfl rfl (fun ac wk hp K hK => ?_)
            have u15e := hp.get 15 (by decide +kernel) rfl
            have t52_ : ac.tmps[52]?.getD undef = .slice p0 A0.length q0 := slot_is' u15e
            have u17e := hp.get 17 (by decide +kernel) rfl
            have t54_ : ac.tmps[54]?.getD undef = .slice tp3 tl3 tc3 := slot_is' u17e
            have HP := Lib.hid hp
            clear hp
            go_simp
            refine (nmul_n ⟨_, (h0.gr ((y1.gr.trans (x2.gr.trans (x3.gr.trans (x4.gr.trans (y5.gr.trans (x6.gr.trans x7.gr)))))).trans HP.out.gr)), rfl, HLA0.out⟩ (Limbs.inN (k := 6) (e3.gr ((y5.gr.trans (x6.gr.trans x7.gr)).trans HP.out.gr)).den HLQ.out.2) (by decide)).mono ?_
            rintro e wk' ⟨sv9, rfl, o9, ix⟩
            obtain ⟨sp9, sl9, sc9, rfl⟩ := o9.slice'
            refine hK.out _ _ ?_ ix (fun h => absurd h (by simp))
            exact ⟨_, _, _, rfl, (o9.mono (Nat.le_trans e7_.size HP.out.gr.size))⟩
          · refine RStep.yes 8 true rfl rfl (by decide +kernel) rfl rfl (fun ac wk hp K hK => ?_)
            obtain ⟨u13p, u13n, u13c, u13e, u13o⟩ := hp.get 13 (by decide +kernel) rfl
            have t50_ : ac.tmps[50]?.getD undef = .slice u13p u13n u13c := slot_is' u13e
            obtain ⟨u18p, u18n, u18c, u18e, u18o⟩ := hp.get 18 (by decide +kernel) rfl
            have t55_ : ac.tmps[55]?.getD undef = .slice u18p u18n u18c := slot_is' u18e
            have HP := Lib.hid hp
            clear hp
            go_simp
            refine (ncmp_n (Limbs.inN (k := (6 + 6)) u13o.limbs (lt_mul HLQ.out.1 (InN.lt j0))) (Limbs.inN (k := (6 + 6)) u18o.limbs (lt_mul (lenN_raw h0 HLA0.out) HLQ.out.2)) (by decide) (by decide) 0 (cmpN_eq HCR.out)).mono ?_
            rintro e wk' ⟨rfl, ix⟩
            refine hK.out _ _ ?_ ix (fun h => absurd h (by simp))
            exact rfl
          · refine RStep.yes 8 true rfl rfl (by decide +kernel) rfl rfl (fun ac wk hp K hK => ?_)
            have u19e := hp.get 19 (by decide +kernel) rfl
            have t56_ : ac.tmps[56]?.getD undef = .int .i64 0 := slot_is' u19e
            have HP := Lib.hid hp
            clear hp
            go_simp
            refine hK.out _ _ ?_ (Ext.refl _) (fun h => absurd h (by simp))
            exact rfl
          · refine RStep.op rfl rfl (fun ac wk hp K hK => ?_)
            have u8e := hp.get 8 (by decide +kernel) rfl
            have t45_ : ac.tmps[45]?.getD undef = .bool true := slot_is' u8e
            have u20e := hp.get 20 (by decide +kernel) rfl
            have t57_ : ac.tmps[57]?.getD undef = .bool true := slot_is' u20e
            have HP := Lib.hid hp
            clear hp
            go_simp
            refine hK.out _ _ ?_ (Ext.refl _) (fun h => absurd h (by simp))
            exact rfl
          · refine RStep.op rfl rfl (fun ac wk hp K hK => ?_)
            have u21e := hp.get 21 (by decide +kernel) rfl
            have t58_ : ac.tmps[58]?.getD undef = .bool true := slot_is' u21e
            have HP := Lib.hid hp
            clear hp
            go_simp
            refine hK.out _ _ ?_ (Ext.refl _) (fun h => absurd h (by simp))
            exact rfl
          · refine RStep.yes 22 true rfl rfl (by decide +kernel) rfl rfl (fun ac wk hp K hK => ?_)
            have t5_ : ac.tmps[5]?.getD undef = .pointer (some ⟨w4.heap.size, 0, none⟩) := hp.slot 5 rfl rfl
            have HP := Lib.hid hp
            clear hp
            go_simp
            refine hK.out _ _ ?_ (Ext.refl _) (fun h => absurd h (by simp))
            exact rfl
          · refine RStep.yes 22 true rfl rfl (by decide +kernel) rfl rfl (fun ac wk hp K hK => ?_)
            have u23e := hp.get 23 (by decide +kernel) rfl
            have t60_ : ac.tmps[60]?.getD undef = .pointer (some ⟨w4.heap.size, 0, none⟩) := slot_is' u23e
            have HP := Lib.hid hp
            clear hp
            go_simp
            refine hK.out _ _ ?_ (Ext.refl _) (fun h => absurd h (by simp))
            exact rfl
          · refine RStep.yes 22 true rfl rfl (by decide +kernel) rfl rfl (fun ac wk hp K hK => ?_)
            have u24e := hp.get 24 (by decide +kernel) rfl
            have t61_ : ac.tmps[61]?.getD undef = .pointer (some ⟨w4.heap.size, 0, none⟩) := slot_is' u24e
            have c0_ := hp.cell 2 rfl
            have HP := Lib.hid hp
            clear hp
            go_simp
            refine hK.out _ _ ?_ (Ext.refl _) (fun h => absurd h (by simp))
            exact rfl
          · refine RStep.yes 22 true rfl rfl (by decide +kernel) rfl rfl (fun ac wk hp K hK => ?_)
            have t2_ : ac.tmps[2]?.getD undef = .pointer (some ⟨w.heap.size, 0, none⟩) := hp.slot 2 rfl rfl
            have HP := Lib.hid hp
            clear hp
            go_simp
            refine hK.out _ _ ?_ (Ext.refl _) (fun h => absurd h (by simp))
            exact rfl
          · refine RStep.yes 22 true rfl rfl (by decide +kernel) rfl rfl (fun ac wk hp K hK => ?_)
            have u26e := hp.get 26 (by decide +kernel) rfl
            have t63_ : ac.tmps[63]?.getD undef = .pointer (some ⟨w.heap.size, 0, none⟩) := slot_is' u26e
            have c0_ := hp.cell 0 rfl
            have HP := Lib.hid hp
            clear hp
            go_simp
            refine hK.out _ _ ?_ (Ext.refl _) (fun h => absurd h (by simp))
            exact rfl
          · refine RStep.yes 22 true rfl rfl (by decide +kernel) rfl rfl (fun ac wk hp K hK => ?_)
            have u27e := hp.get 27 (by decide +kernel) rfl
            have t64_ : ac.tmps[64]?.getD undef = .bool true := slot_is' u27e
            have HP := Lib.hid hp
            clear hp
            go_simp
            refine hK.out _ _ ?_ (Ext.refl _) (fun h => absurd h (by simp))
            exact rfl
          · refine RStep.yes 28 true rfl rfl (by decide +kernel) rfl rfl (fun ac wk hp K hK => ?_)
            have t2_ : ac.tmps[2]?.getD undef = .pointer (some ⟨w.heap.size, 0, none⟩) := hp.slot 2 rfl rfl
            have HP := Lib.hid hp
            clear hp
            go_simp
            refine hK.out _ _ ?_ (Ext.refl _) (fun h => absurd h (by simp))
            exact rfl
          · refine RStep.yes 28 true rfl rfl (by decide +kernel) rfl rfl (fun ac wk hp K hK => ?_)
            have u29e := hp.get 29 (by decide +kernel) rfl
            have t66_ : ac.tmps[66]?.getD undef = .pointer (some ⟨w.heap.size, 1, none⟩) := slot_is' u29e
            have c0_ := hp.cell 1 rfl
            have HP := Lib.hid hp
            clear hp
            go_simp
            refine hK.out _ _ ?_ (Ext.refl _) (fun h => absurd h (by simp))
            exact rfl
          · refine RStep.yes 28 true rfl rfl (by decide +kernel) rfl rfl (fun ac wk hp K hK => ?_)
            have u30e := hp.get 30 (by decide +kernel) rfl
            have t67_ : ac.tmps[67]?.getD undef = .slice p0 A0.length q0 := slot_is' u30e
            have HP := Lib.hid hp
            clear hp
            go_simp
            refine (nzero_n ⟨_, (h0.gr ((y1.gr.trans (x2.gr.trans (x3.gr.trans (x4.gr.trans (y5.gr.trans (x6.gr.trans x7.gr)))))).trans HP.out.gr)), rfl, HLA0.out⟩ (by decide) false HA0.out).mono ?_
            rintro e wk' ⟨rfl, ix⟩
            refine hK.out _ _ ?_ ix (fun h => absurd h (by simp))
            exact rfl
          · refine RStep.yes 28 true rfl rfl (by decide +kernel) rfl rfl (fun ac wk hp K hK => ?_)
            have u31e := hp.get 31 (by decide +kernel) rfl
            have t68_ : ac.tmps[68]?.getD undef = .bool false := slot_is' u31e
            have HP := Lib.hid hp
            clear hp
            go_simp
            refine hK.out _ _ ?_ (Ext.refl _) (fun h => absurd h (by simp))
            exact rfl
          · refine RStep.yes 22 true rfl rfl (by decide +kernel) rfl rfl (fun ac wk hp K hK => ?_)
            have u28e := hp.get 28 (by decide +kernel) rfl
            have t65_ : ac.tmps[65]?.getD undef = .bool true := slot_is' u28e
            have u32e := hp.get 32 (by decide +kernel) rfl
            have t69_ : ac.tmps[69]?.getD undef = .bool true := slot_is' u32e
            have HP := Lib.hid hp
            clear hp
            go_simp
            refine hK.out _ _ ?_ (Ext.refl _) (fun h => absurd h (by simp))
            exact rfl
          · refine RStep.yes 22 true rfl rfl (by decide +kernel) rfl rfl (fun ac wk hp K hK => ?_)
            have u25e := hp.get 25 (by decide +kernel) rfl
            have t62_ : ac.tmps[62]?.getD undef = .bool true := slot_is' u25e
            have u33e := hp.get 33 (by decide +kernel) rfl
            have t70_ : ac.tmps[70]?.getD undef = .bool true := slot_is' u33e
            have HP := Lib.hid hp
            clear hp
            go_simp
            refine hK.out _ _ ?_ (Ext.refl _) (fun h => absurd h (by simp))
            exact rfl
          · refine RStep.op rfl rfl (fun ac wk hp K hK => ?_)
            have u22e := hp.get 22 (by decide +kernel) rfl
            have t59_ : ac.tmps[59]?.getD undef = .bool true := slot_is' u22e
            have u34e := hp.get 34 (by decide +kernel) rfl
            have t71_ : ac.tmps[71]?.getD undef = .bool true := slot_is' u34e
            have HP := Lib.hid hp
            clear hp
            go_simp
            refine hK.out _ _ ?_ (Ext.refl _) (fun h => absurd h (by simp))
            exact rfl
          · refine RStep.op rfl rfl (fun ac wk hp K hK => ?_)
            have u35e := hp.get 35 (by decide +kernel) rfl
            have t72_ : ac.tmps[72]?.getD undef = .bool true := slot_is' u35e
            have HP := Lib.hid hp
            clear hp
            go_simp
            refine hK.out _ _ ?_ (Ext.refl _) (fun h => absurd h (by simp))
            exact rfl
          · refine RStep.yes 36 true rfl rfl (by decide +kernel) rfl rfl (fun ac wk hp K hK => ?_)
            have t5_ : ac.tmps[5]?.getD undef = .pointer (some ⟨w4.heap.size, 0, none⟩) := hp.slot 5 rfl rfl
            have HP := Lib.hid hp
            clear hp
            go_simp
            refine hK.out _ _ ?_ (Ext.refl _) (fun h => absurd h (by simp))
            exact rfl
          · refine RStep.yes 36 true rfl rfl (by decide +kernel) rfl rfl (fun ac wk hp K hK => ?_)
            have u37e := hp.get 37 (by decide +kernel) rfl
            have t74_ : ac.tmps[74]?.getD undef = .pointer (some ⟨w4.heap.size, 2, none⟩) := slot_is' u37e
            have c0_ := hp.cell 4 rfl
            have HP := Lib.hid hp
            clear hp
            go_simp
            refine hK.out _ _ ?_ (Ext.refl _) (fun h => absurd h (by simp))
            exact rfl
          · refine RStep.yes 36 true rfl rfl (by decide +kernel) rfl rfl (fun ac wk hp K hK => ?_)
            have u38e := hp.get 38 (by decide +kernel) rfl
            have t75_ : ac.tmps[75]?.getD undef = .slice tp3 tl3 tc3 := slot_is' u38e
            have HP := Lib.hid hp
            clear hp
            go_simp
            refine (nzero_n (Limbs.inN (k := 6) (e3.gr ((y5.gr.trans (x6.gr.trans x7.gr)).trans HP.out.gr)).den HLQ.out.2) (by decide) false (decide_eq_false q.den_nz)).mono ?_
            rintro e wk' ⟨rfl, ix⟩
            refine hK.out _ _ ?_ ix (fun h => absurd h (by simp))
            exact rfl
          · refine RStep.yes 36 true rfl rfl (by decide +kernel) rfl rfl (fun ac wk hp K hK => ?_)
            have u39e := hp.get 39 (by decide +kernel) rfl
            have t76_ : ac.tmps[76]?.getD undef = .bool false := slot_is' u39e
            have HP := Lib.hid hp
            clear hp
            go_simp
            refine hK.out _ _ ?_ (Ext.refl _) (fun h => absurd h (by simp))
            exact rfl
          · refine RStep.op rfl rfl (fun ac wk hp K hK => ?_)
            have u36e := hp.get 36 (by decide +kernel) rfl
            have t73_ : ac.tmps[73]?.getD undef = .bool true := slot_is' u36e
            have u40e := hp.get 40 (by decide +kernel) rfl
            have t77_ : ac.tmps[77]?.getD undef = .bool true := slot_is' u40e
            have HP := Lib.hid hp
            clear hp
            go_simp
            refine hK.out _ _ ?_ (Ext.refl _) (fun h => absurd h (by simp))
            exact rfl
          · refine RStep.op rfl rfl (fun ac wk hp K hK => ?_)
            have u41e := hp.get 41 (by decide +kernel) rfl
            have t78_ : ac.tmps[78]?.getD undef = .bool true := slot_is' u41e
            have HP := Lib.hid hp
            clear hp
            go_simp
            refine hK.out _ _ ?_ (Ext.refl _) (fun h => absurd h (by simp))
            exact rfl
        case he =>
          intro ac v8 hM
          obtain ⟨y1_0b, y1_0p, y1_0n, y1_0c, y1_0q, y1_0k, y1_0d, y1_0m, y1_0l, y1_0e, y1_0i, y1_0o⟩ := hM.post 0 rfl rfl
          have y1_1e := hM.post 1 rfl rfl
          have y1_2e := hM.post 2 rfl rfl
          obtain ⟨y1_3p, y1_3n, y1_3c, y1_3e, y1_3o⟩ := hM.post 3 rfl rfl
          obtain ⟨y1_4p, y1_4n, y1_4c, y1_4e, y1_4i⟩ := hM.post 4 rfl rfl
          have y1_5e := hM.post 5 rfl rfl
          have y1_6e := hM.post 6 rfl rfl
          have y1_7e := hM.post 7 rfl rfl
          have y1_8e := hM.post 8 rfl rfl
          have y1_9e := hM.post 9 rfl rfl
          have y1_10e := hM.post 10 rfl rfl
          have y1_11e := hM.post 11 rfl rfl
          have y1_12e := hM.post 12 rfl rfl
          obtain ⟨y1_13p, y1_13n, y1_13c, y1_13e, y1_13o⟩ := hM.post 13 rfl rfl
          have y1_14e := hM.post 14 rfl rfl
          have y1_15e := hM.post 15 rfl rfl
          have y1_16e := hM.post 16 rfl rfl
          have y1_17e := hM.post 17 rfl rfl
          obtain ⟨y1_18p, y1_18n, y1_18c, y1_18e, y1_18o⟩ := hM.post 18 rfl rfl
          have y1_19e := hM.post 19 rfl rfl
          have y1_20e := hM.post 20 rfl rfl
          have y1_21e := hM.post 21 rfl rfl
          have y1_22e := hM.post 22 rfl rfl
          have y1_23e := hM.post 23 rfl rfl
          have y1_24e := hM.post 24 rfl rfl
          have y1_25e := hM.post 25 rfl rfl
          have y1_26e := hM.post 26 rfl rfl
          have y1_27e := hM.post 27 rfl rfl
          have y1_28e := hM.post 28 rfl rfl
          have y1_29e := hM.post 29 rfl rfl
          have y1_30e := hM.post 30 rfl rfl
          have y1_31e := hM.post 31 rfl rfl
          have y1_32e := hM.post 32 rfl rfl
          have y1_33e := hM.post 33 rfl rfl
          have y1_34e := hM.post 34 rfl rfl
          have y1_35e := hM.post 35 rfl rfl
          have y1_36e := hM.post 36 rfl rfl
          have y1_37e := hM.post 37 rfl rfl
          have y1_38e := hM.post 38 rfl rfl
          have y1_39e := hM.post 39 rfl rfl
          have y1_40e := hM.post 40 rfl rfl
          have y1_41e := hM.post 41 rfl rfl
          have y1_42e := hM.post 42 rfl rfl
          have b0_0 : Hid (At (w.heap.size) 0 (.bool true) v8) := Lib.hid (hM.keep.at 0 rfl)
          have b0_1 : Hid (At (w.heap.size) 1 (.slice p0 A0.length q0) v8) := Lib.hid (hM.keep.at 1 rfl)
          have b2_0 : Hid (At (w4.heap.size) 0 (.bool true) v8) := Lib.hid (hM.keep.at 2 rfl)
          have b2_1 : Hid (At (w4.heap.size) 1 (.slice sp3 sl3 sc3) v8) := Lib.hid (hM.keep.at 3 rfl)
          have b2_2 : Hid (At (w4.heap.size) 2 (.slice tp3 tl3 tc3) v8) := Lib.hid (hM.keep.at 4 rfl)
          have gv8 : Gr w7 v8 := hM.gr
          have e8_ : Ext w v8 := Ext.below e7_ hM.blw
          have z0_ : sl ac 37 = .agg #[.bool y1_0b, .slice y1_0p y1_0n y1_0c, .slice y1_0q y1_0k y1_0d] := y1_0e
          have z1_ : sl ac 38 = .bool true := y1_1e
          have z2_ : sl ac 39 = .bool true := y1_2e
          have z3_ : sl ac 40 = .slice y1_3p y1_3n y1_3c := y1_3e
          have z4_ : sl ac 41 = .slice y1_4p y1_4n y1_4c := y1_4e
          have z5_ : sl ac 42 = .int .i64 0 := y1_5e
          have z6_ : sl ac 43 = .bool true := y1_6e
          have z7_ : sl ac 44 = .bool true := y1_7e
          have z8_ : sl ac 45 = .bool true := y1_8e
          have z9_ : sl ac 46 = .pointer (some ⟨w4.heap.size, 0, none⟩) := y1_9e
          have z10_ : sl ac 47 = .pointer (some ⟨w4.heap.size, 1, none⟩) := y1_10e
          have z11_ : sl ac 48 = .slice sp3 sl3 sc3 := y1_11e
          have z12_ : sl ac 49 = .slice p0' B0.length q0' := y1_12e
          have z13_ : sl ac 50 = .slice y1_13p y1_13n y1_13c := y1_13e
          have z14_ : sl ac 51 = .pointer (some ⟨w.heap.size, 1, none⟩) := y1_14e
          have z15_ : sl ac 52 = .slice p0 A0.length q0 := y1_15e
          have z16_ : sl ac 53 = .pointer (some ⟨w4.heap.size, 2, none⟩) := y1_16e
          have z17_ : sl ac 54 = .slice tp3 tl3 tc3 := y1_17e
          have z18_ : sl ac 55 = .slice y1_18p y1_18n y1_18c := y1_18e
          have z19_ : sl ac 56 = .int .i64 0 := y1_19e
          have z20_ : sl ac 57 = .bool true := y1_20e
          have z21_ : sl ac 58 = .bool true := y1_21e
          have z22_ : sl ac 59 = .bool true := y1_22e
          have z23_ : sl ac 60 = .pointer (some ⟨w4.heap.size, 0, none⟩) := y1_23e
          have z24_ : sl ac 61 = .pointer (some ⟨w4.heap.size, 0, none⟩) := y1_24e
          have z25_ : sl ac 62 = .bool true := y1_25e
          have z26_ : sl ac 63 = .pointer (some ⟨w.heap.size, 0, none⟩) := y1_26e
          have z27_ : sl ac 64 = .bool true := y1_27e
          have z28_ : sl ac 65 = .bool true := y1_28e
          have z29_ : sl ac 66 = .pointer (some ⟨w.heap.size, 1, none⟩) := y1_29e
          have z30_ : sl ac 67 = .slice p0 A0.length q0 := y1_30e
          have z31_ : sl ac 68 = .bool false := y1_31e
          have z32_ : sl ac 69 = .bool true := y1_32e
          have z33_ : sl ac 70 = .bool true := y1_33e
          have z34_ : sl ac 71 = .bool true := y1_34e
          have z35_ : sl ac 72 = .bool true := y1_35e
          have z36_ : sl ac 73 = .bool true := y1_36e
          have z37_ : sl ac 74 = .pointer (some ⟨w4.heap.size, 2, none⟩) := y1_37e
          have z38_ : sl ac 75 = .slice tp3 tl3 tc3 := y1_38e
          have z39_ : sl ac 76 = .bool false := y1_39e
          have z40_ : sl ac 77 = .bool true := y1_40e
          have z41_ : sl ac 78 = .bool true := y1_41e
          have z42_ : sl ac 4 = .bool true := y1_42e
          rw [hM.ag.lay]
          simp only [lay, List.foldl_cons, List.foldl_nil, List.setIfInBounds_toArray, List.set_cons_zero, List.set_cons_succ, z0_, z1_, z2_, z3_, z4_, z5_, z6_, z7_, z8_, z9_, z10_, z11_, z12_, z13_, z14_, z15_, z16_, z17_, z18_, z19_, z20_, z21_, z22_, z23_, z24_, z25_, z26_, z27_, z28_, z29_, z30_, z31_, z32_, z33_, z34_, z35_, z36_, z37_, z38_, z39_, z40_, z41_, z42_]
          clear hM hkeep1 hob1 hne1 z0_ z1_ z2_ z3_ z4_ z5_ z6_ z7_ z8_ z9_ z10_ z11_ z12_ z13_ z14_ z15_ z16_ z17_ z18_ z19_ z20_ z21_ z22_ z23_ z24_ z25_ z26_ z27_ z28_ z29_ z30_ z31_ z32_ z33_ z34_ z35_ z36_ z37_ z38_ z39_ z40_ z41_ z42_ y1_0e y1_1e y1_2e y1_3e y1_4e y1_5e y1_6e y1_7e y1_8e y1_9e y1_10e y1_11e y1_12e y1_13e y1_14e y1_15e y1_16e y1_17e y1_18e y1_19e y1_20e y1_21e y1_22e y1_23e y1_24e y1_25e y1_26e y1_27e y1_28e y1_29e y1_30e y1_31e y1_32e y1_33e y1_34e y1_35e y1_36e y1_37e y1_38e y1_39e y1_40e y1_41e y1_42e
          go_wp2_with fail
          go_ret
          exact ⟨rfl, e8_⟩

end Go.Proofs.YtjjpmjhaodpgcaaGreatDoor
