/- FreqTimes answers true at all weights. -/
import Derived.Test.YtkfioaoooodmnaaDoorInts2
namespace Go.Proofs.YtkfioaoooodmnaaDoor
open Go Go.RowKit

set_option maxHeartbeats 8000000 in
set_option maxRecDepth 100000 in
theorem freqTimes_no {w : World} {v : Value} {W : List Int} (hW : Ints w v W) (b : Nat) (hE : errW W ≠ 0) :
    Calls Tryd.prog 3 #[v, .int .u8 (b : Int)] w (Yes w) := by
  obtain ⟨pw, cw, rfl⟩ := hW.slice
  have HW := Lib.hid hW
  obtain ⟨n, hn⟩ : ∃ n, errW W = n := ⟨_, rfl⟩
  have t1 : ((n : Int) != 0) = true := by rw [bne_iff_ne]; omega
  have N0 : Hid (n ≠ 0) := by show n ≠ 0; omega
  have HE := Lib.hid hn
  clear hn hE hW
  go_enter Tryd.func3, Tryd.ntmps3
  go_wp2_with fail
  refine (fnew_no HW.out n HE.out N0.out).mono ?_
  rintro e w1 ⟨rfl, x1⟩
  have e1_ : Ext w w1 := Ext.trans (Ext.refl w) x1
  go_wp2_with fail
  refine (awake10_calls _).mono ?_
  rintro e w2 ⟨rfl, x2⟩
  have e2_ : Ext w w2 := Ext.trans e1_ x2
  go_wp2_with fail
  go_ret
  exact ⟨rfl, e2_⟩

set_option maxHeartbeats 8000000 in
set_option maxRecDepth 100000 in
theorem freqTimes_zero {w : World} {v : Value} {W : List Int} (hW : Ints w v W) (hE : errW W = 0) :
    Calls Tryd.prog 3 #[v, .int .u8 0] w (Yes w) := by
  obtain ⟨pw, cw, rfl⟩ := hW.slice
  have HW := Lib.hid hW
  have HE := Lib.hid hE
  clear hE hW
  go_enter Tryd.func3, Tryd.ntmps3
  go_wp2_with fail
  refine (fnew_ok HW.out HE.out).mono ?_
  rintro e w1 ⟨ts1, tp1, tc1, rfl, tl1, tt1, x1⟩
  have e1_ : Ext w w1 := Ext.trans (Ext.refl w) x1
  have b0_0 : Hid (At (ts1) 0 (.slice tp1 (W : List Int).length tc1) w1) := tt1.c
  have k0 := Lib.hid tt1.bx
  have up1 : Hid (OwnZ 2 0 w1 _ (ups (W) (W : List Int).length)) := ⟨tt1.up, by decide⟩
  have l0 := Lib.hid tl1
  have u0 := Lib.hid tt1.bx.lt
  clear tl1 tt1
  go_wp2_with fail
  refine (awake10_calls _).mono ?_
  rintro e w2 ⟨rfl, x2⟩
  have e2_ : Ext w w2 := Ext.trans e1_ x2
  go_wp2_with fail
  go_ret
  exact ⟨rfl, e2_⟩

/-- the first weights so many times as great, the others as they are -/
def timesTo (W : List Int) (b : Int) (i : Nat) : List Int := (W.take i).map (· * b) ++ W.drop i
theorem timesTo_length (W : List Int) (b : Int) (i : Nat) : (timesTo W b i).length = W.length := by simp [timesTo]; omega
theorem timesTo_all (W : List Int) (b : Int) : timesTo W b W.length = W.map (· * b) := by simp [timesTo]
theorem timesTo_zero (W : List Int) (b : Int) : timesTo W b 0 = W := by simp [timesTo]
theorem timesTo_get {W : List Int} {b : Int} {i : Nat} (h : i < W.length) : (timesTo W b i).getD i 0 = W.getD i 0 := by
  unfold timesTo
  rw [getD_app (by simp; omega)]
  simp [Nat.min_eq_left (Nat.le_of_lt h), List.getD]
theorem timesTo_set {W : List Int} {b : Int} {i : Nat} (h : i < W.length) : (timesTo W b i).set i (W.getD i 0 * b) = timesTo W b (i + 1) := by
  unfold timesTo
  rw [List.set_append_right _ _ (by simp; omega)]
  have e : i - ((W.take i).map (· * b)).length = 0 := by simp; omega
  rw [e, List.drop_eq_getElem_cons h, List.set_cons_zero, List.take_add_one, List.map_append, List.append_assoc, getD_lt h]
  simp [h]
theorem errW_times {W : List Int} {b : Nat} (h : errW W = 0) (hb : 1 ≤ b) : errW (W.map (· * (b : Int))) = 0 ∨ errW (W.map (· * (b : Int))) = 1 := by
  obtain ⟨h1, h2, h3, h4⟩ := errW_ok h
  by_cases ho : okW (W.map (· * (b : Int)))
  · refine .inl (errW_of (by simpa using h1) (by simpa using h2) ho ?_)
    rw [List.length_map, psum_times]
    have : (1 : Int) * 1 ≤ psum W W.length * (b : Int) := Int.mul_le_mul h4 (by omega) (by decide) (by omega)
    omega
  · refine .inr ?_
    unfold errW
    rw [List.length_map, if_neg (by omega), if_neg (by omega), if_pos ho]
theorem shareQ_times {W : List Int} {b : Nat} (hb : 1 ≤ b) (i : Nat) : shareQ W i = shareQ (W.map (· * (b : Int))) i := by
  unfold shareQ
  rw [List.length_map, psum_times]
  have e : (W.map (· * (b : Int))).getD i 0 = W.getD i 0 * (b : Int) := by
    rcases Nat.lt_or_ge i W.length with hk | hk
    · simp [List.getD, hk]
    · simp [List.getD, hk]
  rw [e, Rat.divInt_mul_right (by omega)]

set_option maxHeartbeats 8000000 in
set_option maxRecDepth 100000 in
theorem freqTimes_main {w0 : World} {v : Value} {W : List Int} (hW : Ints w0 v W) (b : Nat) (hb1 : 1 ≤ b) (hb2 : b < 256) (hE : errW W = 0) :
    Calls Tryd.prog 3 #[v, .int .u8 (b : Int)] w0 (Yes w0) := by
  obtain ⟨pw, cw, rfl⟩ := hW.slice
  have HW := Lib.hid hW
  obtain ⟨M, hM, m1, m2⟩ := psum_nat hE
  have h7 : (M : Int) ≤ 67108864 := by omega
  have HM := Lib.hid hM
  have M1 := Lib.hid m1
  have MB : Hid (M < Bs) := by show M < Bs; rw [Bs_def]; omega
  have HE := Lib.hid hE
  obtain ⟨k1, k2, k3, k4⟩ := errW_ok hE
  obtain ⟨n, hn⟩ : ∃ n, W.length = n := ⟨_, rfl⟩
  have HN := Lib.hid hn
  have HB := Lib.hid hb1
  have HK := Lib.hid k3
  have t1 : ((b : Int) == 0) = false := by rw [beq_eq_false_iff_ne]; omega
  have t2 : (b : Int) ≤ 255 := by omega
  have t3 : (n : Int) ≤ 64 := by omega
  have N1 : Hid (1 ≤ n) := by show 1 ≤ n; omega
  have HLN : Hid (0 + W.length ≤ 100000) := by show _ ≤ 100000; omega
  clear hE k1 k2 k3 k4 hM m1 m2 hW hb1 hb2 hn
  go_enter Tryd.func3, Tryd.ntmps3
  go_wp2_with fail
  refine (fnew_ok HW.out HE.out).mono ?_
  rintro e w1 ⟨ts, tp, tc, rfl, tl, tt, x1⟩
  have T1 := Lib.hid tt
  have X1 := Lib.hid x1
  clear tt x1 tl
  go_wp2_with fail
  refine (awake10_calls _).mono ?_
  rintro e w2 ⟨rfl, x2⟩
  have T2 := Lib.hid (T1.out.ext x2)
  have X2 := Lib.hid (X1.out.trans x2)
  clear x2
  have HI2 := Lib.hid ((HW.out.ext X2.out).ext ((Ext.refl w2).alloc (.cells #[] 2)))
  go_wp2_with (at_builtin; refine append_ints rfl _ _ 22 2 Tryd.underlying22 info_i64 rfl w2.heap.size _ 0 [] rfl (World.ownsRow_made w2 #[] 0 (Nat.le_refl _) (Nat.zero_le _) rfl) (by simp) _ W rfl HI2.out HLN.out ?_; intro v' w3 hown' hgrow; obtain ⟨g, gc, rfl, hg, hrow⟩ := RowG.of (L := W) (by simpa using hown') (by rw [HN.out]; exact N1.out); have HG := Lib.hid hg; have R3 := Lib.hid hrow; have X3 : Hid (Ext w2 w3) := ((Ext.refl w2).alloc _).grown hgrow (fun k hk => by cases hk; exact Nat.le_refl _); clear hown' hgrow hg hrow)
  rw [HN.out]
  go_loopw [8] (fun v8 wr => ∃ i : Nat, v8 = .int .i64 (i : Int) ∧ i ≤ n ∧ RowG 2 g gc (timesTo W b i) wr ∧ Ext w2 wr) (fun v8 _ => n - (intOf v8).toNat)
  case atStart => exact ⟨0, rfl, Nat.zero_le _, by rw [timesTo_zero]; exact R3.out, X3.out⟩
  case round =>
    obtain ⟨i, rfl, hi, hr, hx⟩ := hrel
    have R := Lib.hid hr
    have X := Lib.hid hx
    clear hr hx
    by_cases hin : i < n
    · obtain ⟨x, hx⟩ : ∃ x, W.getD i 0 = x := ⟨_, rfl⟩
      have HX := Lib.hid hx
      have LT : Hid (i < W.length) := by show i < _; rw [HN.out]; exact hin
      have hr := HK.out.get i
      rw [hx] at hr
      have hc := R.out.cell (j := i) (by rw [timesTo_length]; exact LT.out)
      rw [timesTo_get LT.out, hx] at hc
      have hf := R.out.free i
      obtain ⟨y, hy⟩ : ∃ y, x * (b : Int) = y := ⟨_, rfl⟩
      have hy0 : 0 ≤ y := by rw [← hy]; exact Int.mul_nonneg hr.1 (by omega)
      have hy1 : y ≤ 1048576 * 255 := by rw [← hy]; exact Int.mul_le_mul hr.2 t2 (by omega) (by decide)
      have hw : IntKind.i64.wrap (x * (b : Int)) = y := by rw [hy, IntWalk.i64_in _ (by omega)]
      have HY := Lib.hid hy
      have hii : (i : Int) ≤ 64 := by omega
      clear hr hy hy0 hy1 hx
      go_wp2_with fail
      refine ⟨⟨i + 1, by go_num, by omega, ?_, X.out.setCell HG.out _⟩, by simp [intOf]; omega⟩
      have e : (timesTo W b i).set i y = timesTo W b (i + 1) := by rw [← HY.out, ← HX.out]; exact timesTo_set LT.out
      rw [← e]; exact R.out.set i y
    · obtain rfl : i = n := by omega
      obtain ⟨Y, hY⟩ : ∃ Y, W.map (· * (b : Int)) = Y := ⟨_, rfl⟩
      have R4 : Hid (RowG 2 g gc Y wr) := by have := R.out; rw [← HN.out, timesTo_all, hY] at this; exact this
      have LY : Hid (Y.length = i) := by show _ = _; rw [← hY, List.length_map, HN.out]
      have HI4 : Hid (Ints wr (.slice (some ⟨g, 0, none⟩) i gc) Y) := by have := R4.out.ownI.ints; rwa [LY.out] at this
      have HT := errW_times HE.out HB.out
      rw [hY] at HT
      have HSH : Hid (∀ j, shareQ W j = shareQ Y j) := fun j => by rw [← hY]; exact shareQ_times HB.out j
      have HSM : Hid (psum Y Y.length = ((M * b : Nat) : Int)) := by show _ = _; rw [← hY, List.length_map, psum_times, HM.out]; simp
      have HYD := Lib.hid hY
      clear hY
      rcases HT with HT | HT
      case inr =>
        have HE2 := Lib.hid HT
        clear HT
        go_wp2_with fail
        refine (fnew_no HI4.out 1 HE2.out (by decide)).mono ?_
        rintro e w5 ⟨rfl, x5⟩
        have X5 := Lib.hid x5
        clear x5
        go_wp2_with fail
        go_ret
        exact ⟨rfl, (X2.out.trans X.out).trans X5.out⟩
      have HE2 := Lib.hid HT
      clear HT
      go_wp2_with fail
      refine (fnew_ok HI4.out HE2.out).mono ?_
      rintro e w5 ⟨us, up, uc, rfl, ul, ut, x5⟩
      have U5 := Lib.hid ut
      have X5 := Lib.hid ((X2.out.trans X.out).trans x5)
      have T5 := Lib.hid (T2.out.ext (X.out.trans x5))
      clear ut x5 ul
      go_wp2_with fail
      go_loopw [11] (fun v11 wr => ∃ j : Nat, v11 = .int .i64 (j : Int) ∧ j ≤ i ∧ Ext w5 wr) (fun v11 _ => i - (intOf v11).toNat)
      case atStart => exact ⟨0, rfl, Nat.zero_le _, Ext.refl _⟩
      case round =>
        rename World => w
        obtain ⟨j, rfl, hj, hx⟩ := hrel
        have XX := Lib.hid hx
        clear hx
        by_cases hji : j < i
        · have HJ1 : Hid (j < W.length) := by show j < _; rw [HN.out]; exact hji
          have HJ2 : Hid (j < Y.length) := by show j < _; rw [LY.out]; exact hji
          have b100_0 := Lib.hid (T5.out.ext XX.out).c
          have k100 := Lib.hid (T5.out.ext XX.out).bx
          have up100 : Hid (OwnZ 2 0 w _ (ups (W) (W : List Int).length)) := ⟨(T5.out.ext XX.out).up, by decide⟩
          have u100 := Lib.hid (T5.out.ext XX.out).bx.lt
          have b101_0 := Lib.hid (U5.out.ext XX.out).c
          have k101 := Lib.hid (U5.out.ext XX.out).bx
          have up101 : Hid (OwnZ 2 0 w _ (ups (Y) (Y : List Int).length)) := ⟨(U5.out.ext XX.out).up, by decide⟩
          have u101 := Lib.hid (U5.out.ext XX.out).bx.lt
          go_wp2_with fail
          refine (fshare_is ⟨b100_0.out, k100.out, up100.out.1⟩ HE.out j HJ1.out).mono ?_
          rintro e w1 ⟨sb1, sv1, su1, sm1, sd1, rfl, e1, o1, x1⟩
          have e1_ : Ext w w1 := Ext.trans (Ext.refl w) x1
          obtain ⟨sp1, sl1, sc1, tp1, tl1, tc1, rfl, rfl⟩ := e1.slice
          go_wp2_with fail
          obtain ⟨v2, hv2⟩ : ∃ W, W = (w1.alloc (.cells #[.bool sb1, .slice sp1 sl1 sc1, .slice tp1 tl1 tc1] 33)) := ⟨_, rfl⟩
          have y2 : Ext w1 v2 := by rw [hv2]; exact ((Ext.refl _).alloc _)
          have b0_0 : Hid (At (w1.heap.size) 0 (.bool sb1) v2) := by rw [hv2]; exact At.ext (At.n0 (by rfl)) (Ext.refl _)
          have b0_1 : Hid (At (w1.heap.size) 1 (.slice sp1 sl1 sc1) v2) := by rw [hv2]; exact At.ext (At.n0 (by rfl)) (Ext.refl _)
          have b0_2 : Hid (At (w1.heap.size) 2 (.slice tp1 tl1 tc1) v2) := by rw [hv2]; exact At.ext (At.n0 (by rfl)) (Ext.refl _)
          have k0 : Hid (Bx 3 (w1.heap.size) v2) := by rw [hv2]; exact Bx.gr (Bx.n0 3 ⟨rfl, by decide⟩ (by decide) noI_s3) (Ext.gr (Ext.refl _))
          have u0 : Hid (w1.heap.size < v2.heap.size) := b0_0.out.2
          have e2_ : Ext w v2 := Ext.trans e1_ y2
          rw [← hv2]
          clear hv2
          refine (fshare_is ⟨(b101_0.out.ext (x1.trans y2)), (k101.out.gr (x1.gr.trans y2.gr)), (up101.out.ext (x1.trans y2)).1⟩ HE2.out j HJ2.out).mono ?_
          rintro e w3 ⟨sb2, sv2, su2, sm2, sd2, rfl, e2, o2, x3⟩
          have e3_ : Ext w w3 := Ext.trans e2_ x3
          obtain ⟨sp2, sl2, sc2, tp2, tl2, tc2, rfl, rfl⟩ := e2.slice
          have g0_0 := (b0_0.out.ext x3).1
          have g0_1 := (b0_1.out.ext x3).1
          have g0_2 := (b0_2.out.ext x3).1
          have f0 : w1.heap.size < w3.heap.size := (b0_0.out.ext x3).2
          go_wp2_with fail
          obtain ⟨v4, hv4⟩ : ∃ W, W = (w3.alloc (.cells #[.bool sb2, .slice sp2 sl2 sc2, .slice tp2 tl2 tc2] 33)) := ⟨_, rfl⟩
          have y4 : Ext w3 v4 := by rw [hv4]; exact ((Ext.refl _).alloc _)
          have b1_0 : Hid (At (w3.heap.size) 0 (.bool sb2) v4) := by rw [hv4]; exact At.ext (At.n0 (by rfl)) (Ext.refl _)
          have b1_1 : Hid (At (w3.heap.size) 1 (.slice sp2 sl2 sc2) v4) := by rw [hv4]; exact At.ext (At.n0 (by rfl)) (Ext.refl _)
          have b1_2 : Hid (At (w3.heap.size) 2 (.slice tp2 tl2 tc2) v4) := by rw [hv4]; exact At.ext (At.n0 (by rfl)) (Ext.refl _)
          have k1 : Hid (Bx 3 (w3.heap.size) v4) := by rw [hv4]; exact Bx.gr (Bx.n0 3 ⟨rfl, by decide⟩ (by decide) noI_s3) (Ext.gr (Ext.refl _))
          have u1 : Hid (w3.heap.size < v4.heap.size) := b1_0.out.2
          have e4_ : Ext w v4 := Ext.trans e3_ y4
          rw [← hv4]
          clear hv4
          refine (is_is (e1.ext (y2.trans (x3.trans y4))) (e2.ext y4) true (decide_eq_true (show ((shareQ W j) : Rat) = (shareQ Y j) from HSH.out j))).mono ?_
          rintro e w5 ⟨rfl, x5⟩
          have e5_ : Ext w w5 := Ext.trans e4_ x5
          clear g0_0 g0_1 g0_2 f0
          go_wp2_with fail
          exact ⟨⟨j + 1, by go_num, by omega, XX.out.trans e5_⟩, by simp [intOf]; omega⟩
        · obtain rfl : j = i := by omega
          have b100_0 := Lib.hid (T5.out.ext XX.out).c
          have k100 := Lib.hid (T5.out.ext XX.out).bx
          have up100 : Hid (OwnZ 2 0 w _ (ups (W) (W : List Int).length)) := ⟨(T5.out.ext XX.out).up, by decide⟩
          have u100 := Lib.hid (T5.out.ext XX.out).bx.lt
          have b101_0 := Lib.hid (U5.out.ext XX.out).c
          have k101 := Lib.hid (U5.out.ext XX.out).bx
          have up101 : Hid (OwnZ 2 0 w _ (ups (Y) (Y : List Int).length)) := ⟨(U5.out.ext XX.out).up, by decide⟩
          have u101 := Lib.hid (U5.out.ext XX.out).bx.lt
          obtain ⟨N, hN⟩ : ∃ N : Nat, M * b = N := ⟨_, rfl⟩
          have HSM2 : Hid (psum Y Y.length = (N : Int)) := by have := HSM.out; rwa [hN] at this
          have hw : IntKind.i64.wrap ((M : Int) * (b : Int)) = (N : Int) := by
            have h1 : (M : Int) * (b : Int) = (N : Int) := by rw [← hN]; simp
            have h2 : (M : Int) * (b : Int) ≤ 67108864 * 255 := Int.mul_le_mul h7 t2 (by omega) (by decide)
            rw [h1] at h2 ⊢
            exact IntWalk.i64_in _ (by omega)
          clear hN
          go_wp2_with fail
          refine (fsum_ext ⟨b101_0.out, k101.out, up101.out.1⟩ (errW_ok HE2.out).1 (errW_ok HE2.out).2.1 _ HSM2.out).mono ?_
          rintro e w1 ⟨rfl, x1⟩
          have e1_ : Ext w w1 := Ext.trans (Ext.refl w) x1
          go_wp2_with fail
          refine (fsum_ext ⟨(b100_0.out.ext x1), (k100.out.gr x1.gr), (up100.out.ext x1).1⟩ (errW_ok HE.out).1 (errW_ok HE.out).2.1 _ HM.out).mono ?_
          rintro e w2 ⟨rfl, x2⟩
          have e2_ : Ext w w2 := Ext.trans e1_ x2
          go_wp2_with fail
          go_ret
          exact ⟨rfl, (X5.out.trans XX.out).trans e2_⟩

theorem freqTimes_calls {w : World} {v : Value} {W : List Int} (hW : Ints w v W) (b : Nat) (hb : b < 256) :
    Calls Tryd.prog 3 #[v, .int .u8 (b : Int)] w (Yes w) := by
  by_cases hE : errW W = 0
  · rcases Nat.eq_zero_or_pos b with h0 | h0
    · subst h0; exact freqTimes_zero hW hE
    · exact freqTimes_main hW b h0 hb hE
  · exact freqTimes_no hW b hE
end Go.Proofs.YtkfioaoooodmnaaDoor
