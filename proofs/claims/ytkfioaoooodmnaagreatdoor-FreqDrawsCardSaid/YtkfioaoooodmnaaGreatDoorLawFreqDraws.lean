/- FreqDraws answers true at all weights, strings, numbers. -/
import Derived.Test.YtkfioaoooodmnaaGreatDoorRefFreq
namespace Go.Proofs.YtkfioaoooodmnaaGreatDoor
open Go Go.RowKit

set_option maxHeartbeats 800000 in
set_option maxRecDepth 100000 in
theorem freqDraws_out {w : World} {v : Value} {W : List Int} (hW : Ints w v W) (s : ByteArray) (hs : s.size ≤ maxLen) (b : Nat) (h : 200 < W.length ∨ 2000 < s.size) :
    Calls Tryz.prog 4 #[v, .string s, .int .u8 (b : Int)] w (Yes w) := by
  obtain ⟨a, cap, rfl, h1, h2, -⟩ := hW.open
  unfold maxLen at h2 hs
  obtain ⟨d, hd⟩ : ∃ d, W.length = d := ⟨_, rfl⟩
  rw [hd] at h h1 ⊢
  have t1 : (d : Int) ≤ 9223372036854775807 := by omega
  clear hW hd h1 h2
  by_cases h2 : 200 < d
  · have t3 : (201 : Int) ≤ d := by omega
    clear h h2
    go_enter Tryz.func4, Tryz.ntmps4
    go_wp2_with fail
    refine (awake10_calls _).mono ?_
    rintro e w1 ⟨rfl, x1⟩
    go_wp2_with fail
    go_ret
    exact ⟨rfl, x1⟩
  · have t3 : (d : Int) ≤ 200 := by omega
    have t4 : (2001 : Int) ≤ s.size := by omega
    clear h h2
    go_enter Tryz.func4, Tryz.ntmps4
    go_wp2_with fail
    refine (awake10_calls _).mono ?_
    rintro e w1 ⟨rfl, x1⟩
    go_wp2_with fail
    go_ret
    exact ⟨rfl, x1⟩

set_option maxHeartbeats 800000 in
set_option maxRecDepth 100000 in
theorem freqDraws_err {w : World} {v : Value} {W : List Int} (hW : Ints w v W) (s : ByteArray) (hs : s.size ≤ maxLen) (b : Nat) (h1 : W.length ≤ 200) (h2 : s.size ≤ 2000) (c : Nat) (hc : errW W = c) (h0 : c ≠ 0) :
    Calls Tryz.prog 4 #[v, .string s, .int .u8 (b : Int)] w (Yes w) := by
  obtain ⟨pw, cw, rfl⟩ := hW.slice
  obtain ⟨n, hn⟩ : ∃ n, W.length = n := ⟨_, rfl⟩
  have HW := Lib.hid hW
  have HC := Lib.hid hc
  have C0 := Lib.hid h0
  have HS := Lib.hid hs
  rw [hn] at HW h1 ⊢
  have t1 : (n : Int) ≤ 200 := by omega
  have t2 : (s.size : Int) ≤ 2000 := by omega
  have t3 : ((c : Int) != 0) = true := by rw [bne_iff_ne]; omega
  clear hW hn hc h0 hs h1 h2
  cases hk : okS s.data.toList with
  | true =>
    have HK := Lib.hid hk
    clear hk
    go_enter Tryz.func4, Tryz.ntmps4
    go_wp2_with fail
    refine (fnew_no HW.out c HC.out C0.out).mono ?_
    rintro e w1 ⟨rfl, x1⟩
    have X1 := Lib.hid x1
    clear x1
    go_wp2_with fail
    refine (cnew_ok s _ HS.out HK.out).mono ?_
    rintro e w2 ⟨c1, rfl, -, -, x2⟩
    have X2 := Lib.hid (X1.out.trans x2)
    clear x2
    go_wp2_with fail
    refine (rnew_ok s _ HS.out HK.out).mono ?_
    rintro e w3 ⟨c2, rfl, -, -, x3⟩
    have X3 := Lib.hid (X2.out.trans x3)
    clear x3
    go_wp2_with fail
    refine (awake10_calls _).mono ?_
    rintro e w4 ⟨rfl, x4⟩
    go_wp2_with fail
    go_ret
    exact ⟨rfl, X3.out.trans x4⟩
  | false =>
    have HK := Lib.hid hk
    clear hk
    go_enter Tryz.func4, Tryz.ntmps4
    go_wp2_with fail
    refine (fnew_no HW.out c HC.out C0.out).mono ?_
    rintro e w1 ⟨rfl, x1⟩
    have X1 := Lib.hid x1
    clear x1
    go_wp2_with fail
    refine (cnew_bad s _ HS.out HK.out).mono ?_
    rintro e w2 ⟨rfl, x2⟩
    have X2 := Lib.hid (X1.out.trans x2)
    clear x2
    go_wp2_with fail
    refine (rnew_bad s _ HS.out HK.out).mono ?_
    rintro e w3 ⟨rfl, x3⟩
    have X3 := Lib.hid (X2.out.trans x3)
    clear x3
    go_wp2_with fail
    refine (awake10_calls _).mono ?_
    rintro e w4 ⟨rfl, x4⟩
    go_wp2_with fail
    go_ret
    exact ⟨rfl, X3.out.trans x4⟩

set_option maxHeartbeats 800000 in
set_option maxRecDepth 100000 in
theorem freqDraws_form {w : World} {v : Value} {W : List Int} (hW : Ints w v W) (s : ByteArray) (hs : s.size ≤ maxLen) (b : Nat) (h2 : s.size ≤ 2000) (hE : errW W = 0) (hk : okS s.data.toList = false) :
    Calls Tryz.prog 4 #[v, .string s, .int .u8 (b : Int)] w (Yes w) := by
  obtain ⟨pw, cw, rfl⟩ := hW.slice
  have h1 := (errW_ok hE).2.1
  obtain ⟨n, hn⟩ : ∃ n, W.length = n := ⟨_, rfl⟩
  have HW := Lib.hid hW
  have HE := Lib.hid hE
  have HS := Lib.hid hs
  have HK := Lib.hid hk
  rw [hn] at HW h1 ⊢
  have t1 : (n : Int) ≤ 64 := by omega
  have t2 : (s.size : Int) ≤ 2000 := by omega
  clear hW hn hE hs h1 h2 hk
  go_enter Tryz.func4, Tryz.ntmps4
  go_wp2_with fail
  refine (fnew_ok HW.out HE.out).mono ?_
  rintro e w1 ⟨t, p, cap, rfl, -, -, x1⟩
  have X1 := Lib.hid x1
  clear x1
  go_wp2_with fail
  refine (cnew_bad s _ HS.out HK.out).mono ?_
  rintro e w2 ⟨rfl, x2⟩
  have X2 := Lib.hid (X1.out.trans x2)
  clear x2
  go_wp2_with fail
  refine (rnew_bad s _ HS.out HK.out).mono ?_
  rintro e w3 ⟨rfl, x3⟩
  have X3 := Lib.hid (X2.out.trans x3)
  clear x3
  go_wp2_with fail
  refine (awake10_calls _).mono ?_
  rintro e w4 ⟨rfl, x4⟩
  go_wp2_with fail
  go_ret
  exact ⟨rfl, X3.out.trans x4⟩

set_option maxHeartbeats 1600000 in
set_option maxRecDepth 100000 in
theorem freqDraws_main {w : World} {v : Value} {W : List Int} (hW : Ints w v W) (s : ByteArray) (hs : s.size ≤ maxLen) (b : Nat) (hb : b < 256) (hE : errW W = 0) (hk : okS s.data.toList = true) :
    Calls Tryz.prog 4 #[v, .string s, .int .u8 (b : Int)] w (Yes w) := by
  obtain ⟨pw, cw, rfl⟩ := hW.slice
  have h1 := (errW_ok hE).2.1
  obtain ⟨M, hM, m1, m2⟩ := psum_nat hE
  obtain ⟨n, hn⟩ : ∃ n, W.length = n := ⟨_, rfl⟩
  have HW := Lib.hid hW
  have HE := Lib.hid hE
  have HS := Lib.hid hs
  have HK := Lib.hid hk
  have HM := Lib.hid hM
  rw [hn] at HW h1 ⊢
  have t1 : (n : Int) ≤ 64 := by omega
  have t2 : (s.size : Int) ≤ 1024 := by have := (okS_len hk).1; omega
  have t4 : (b : Int) ≤ 255 := by omega
  obtain ⟨q, hq⟩ : ∃ q, b % 20 = q := ⟨_, rfl⟩
  have hq2 : (b : Int) % 20 = (q : Int) := by omega
  have hq3 : (q : Int) ≤ 19 := by omega
  clear hW hn hE hs h1 hk hM m1 m2 hq hb
  go_enter Tryz.func4, Tryz.ntmps4
  go_wp2_with fail
  refine (fnew_ok HW.out HE.out).mono ?_
  rintro e w1 ⟨t, p, cap, rfl, lt_, tt, x1⟩
  have T1 := Lib.hid tt
  have X1 := Lib.hid x1
  clear x1 lt_ tt
  go_wp2_with fail
  refine (cnew_ok s _ HS.out HK.out).mono ?_
  rintro e w2 ⟨c1, rfl, l1, cc1, x2⟩
  have C1 := Lib.hid cc1
  have L1 : Hid (w.heap.size ≤ c1) := Nat.le_trans X1.out.size l1
  have N1 : Hid (t < c1) := Nat.lt_of_lt_of_le T1.out.c.2 l1
  have T2 := Lib.hid (T1.out.ext x2)
  have X2 := Lib.hid (X1.out.trans x2)
  clear cc1 l1 x2 T1 X1
  go_wp2_with fail
  refine (rnew_ok s _ HS.out HK.out).mono ?_
  rintro e w3 ⟨c2, rfl, l2, cc2, x3⟩
  have CA := Lib.hid (C1.out.ext x3)
  have CB := Lib.hid cc2
  have NE : Hid (c1 < c2) := Nat.lt_of_lt_of_le C1.out.lt l2
  have L2 : Hid (w.heap.size ≤ c2) := Nat.le_trans X2.out.size l2
  have T3 := Lib.hid (T2.out.ext x3)
  have X3 := Lib.hid (X2.out.trans x3)
  clear cc2 l2 x3 T2 X2 C1
  go_wp2_with fail
  go_loopw [13] (fun v13 wr => ∃ (i a : Nat) (ov : Bool), v13 = .int .i64 (i : Int) ∧ i ≤ q ∧ a ≤ s.size ∧ Cur s c1 a ov wr ∧ Cur s c2 a ov wr ∧ Tab W t p cap wr ∧ Ext w wr) (fun v13 _ => q - (intOf v13).toNat)
  case atStart => exact ⟨0, 0, false, rfl, Nat.zero_le _, Nat.zero_le _, CA.out, CB.out, T3.out, X3.out⟩
  case round =>
    clear CA CB X3 T3
    rename World => w3
    obtain ⟨i, a, ov, rfl, hi, ha, ca, cb, tt, hx⟩ := hrel
    have CA := Lib.hid ca
    have CB := Lib.hid cb
    have X3 := Lib.hid hx
    have T3 := Lib.hid tt
    have HA := Lib.hid ha
    clear ca cb hx ha tt
    by_cases hiq : i < q
    · have LT := Lib.hid hiq
      obtain ⟨k, y, a', ov', ha', hd1, hd2⟩ := draw_both HE.out HK.out a HA.out ov
      have HA' := Lib.hid ha'
      have HD1 := Lib.hid hd1
      have HD2 := Lib.hid hd2
      clear ha' hd1 hd2 hi
      go_wp2_with fail
      refine (HD1.out _ _ _ _ _ T3.out CA.out (by have := N1.out; omega)).mono ?_
      rintro e w4 ⟨rfl, m4, c4⟩
      have G4 : Gr w3 w4 := CA.out.mvgr m4 c4
      have hne : c2 ≠ c1 := by have := NE.out; omega
      have CB4 := Lib.hid (CB.out.other m4 hne G4)
      have CA4 := Lib.hid c4
      have T4 := Lib.hid (T3.out.mv m4 (by have := N1.out; omega) G4)
      have X4 := Lib.hid (m4.ext X3.out L1.out)
      clear m4 c4 G4 hne CA CB X3 T3
      go_wp2_with fail
      refine (HD2.out _ _ _ (HW.out.ext X4.out) CB4.out (fun W' m => HW.out.ext (m.ext X4.out L2.out))).mono ?_
      rintro e w5 ⟨rfl, m5, c5⟩
      have G5 : Gr w4 w5 := CB4.out.mvgr m5 c5
      have hne : c1 ≠ c2 := by have := NE.out; omega
      have CA5 := Lib.hid (CA4.out.other m5 hne G5)
      have CB5 := Lib.hid c5
      have T5 := Lib.hid (T4.out.mv m5 (by have := N1.out; have := NE.out; omega) G5)
      have X5 := Lib.hid (m5.ext X4.out L2.out)
      clear m5 c5 G5 hne CA4 CB4 T4 X4
      have cb1 := CB5.out.c1.1
      have cb2 := CB5.out.c2.1
      go_wp2_with fail
      have Y0 : Ext w5 w5.drew := (Ext.refl w5).drew
      have z0 := Y0
      (try simp only [List.append_eq, List.cons_append, List.nil_append])
      go_region_held3 (fun W => W.cell? ⟨c2, 1, none⟩ = some (.int .i64 (a' : Int)) ∧ W.cell? ⟨c2, 2, none⟩ = some (.bool ov')) (go_keep)
        (first
          | (have pre := z1; go_at_call 29; refine (cover_calls (CA5.out.ext Y1)).mono ?_; rintro e a2 ⟨rfl, z2⟩; have Y2 := Y1.trans z2; have g1 := (CB5.out.ext Y2).c1.1; have g2 := (CB5.out.ext Y2).c2.1)
          | (have pre := z0; go_at_call 28; refine (cat_calls (CA5.out.ext Y0)).mono ?_; rintro e a1 ⟨rfl, z1⟩; have Y1 := Y0.trans z1; have g1 := (CB5.out.ext Y1).c1.1; have g2 := (CB5.out.ext Y1).c2.1))
      have HY2 := Lib.hid Y2
      clear Y0 Y1 Y2 z0 z1 z2 cb1 cb2
      have CA6 := Lib.hid (CA5.out.ext HY2.out)
      have CB6 := Lib.hid (CB5.out.ext HY2.out)
      have T6 := Lib.hid (T5.out.ext HY2.out)
      have X6 := Lib.hid (X5.out.trans HY2.out)
      clear CA5 CB5 T5 X5 HY2
      go_wp2_with fail
      exact ⟨⟨i + 1, a', ov', by go_num, LT.out, HA'.out, CA6.out, CB6.out, T6.out, X6.out⟩, by simp [intOf]; have := LT.out; omega⟩
    · obtain rfl : q = i := by omega
      clear hi hiq
      go_wp2_with fail
      refine (fcost_is T3.out HE.out M HM.out).mono ?_
      intro e w4 h4
      obtain ⟨b1, p1, n1, k1, p2, n2, k2, d1, d2, rfl, i4, x4⟩ := retR_f h4
      have I4 := Lib.hid i4
      have X4 := Lib.hid (X3.out.trans x4)
      clear h4 i4 x4
      go_wp2_with fail
      refine (rfcost10_is (HW.out.ext X4.out) HE.out M HM.out).mono ?_
      intro e w5 h5
      obtain ⟨b2, p3, n3, k3, p4, n4, k4, d3, d4, rfl, i5, x5⟩ := retR_f h5
      have I4 := Lib.hid (I4.out.ext x5)
      have I5 := Lib.hid i5
      have X5 := Lib.hid (X4.out.trans x5)
      clear h5 i5 x5
      go_wp2_with fail
      refine (is_is I4.out I5.out true (by simp)).mono ?_
      rintro e w6 ⟨rfl, x6⟩
      have X6 := Lib.hid (X5.out.trans x6)
      clear x6
      go_wp2_with fail
      refine (awake10_calls _).mono ?_
      rintro e w7 ⟨rfl, x7⟩
      go_wp2_with fail
      go_ret
      exact ⟨rfl, X6.out.trans x7⟩

theorem freqDraws_calls {w : World} {v : Value} {W : List Int} (hW : Ints w v W) (s : ByteArray) (hs : s.size ≤ maxLen) (b : Nat) (hb : b < 256) :
    Calls Tryz.prog 4 #[v, .string s, .int .u8 (b : Int)] w (Yes w) := by
  by_cases h : 200 < W.length ∨ 2000 < s.size
  · exact freqDraws_out hW s hs b h
  by_cases hE : errW W = 0
  · cases hk : okS s.data.toList with
    | true => exact freqDraws_main hW s hs b hb hE hk
    | false => exact freqDraws_form hW s hs b (by omega) hE hk
  · exact freqDraws_err hW s hs b (by omega) (by omega) _ rfl hE
end Go.Proofs.YtkfioaoooodmnaaGreatDoor
