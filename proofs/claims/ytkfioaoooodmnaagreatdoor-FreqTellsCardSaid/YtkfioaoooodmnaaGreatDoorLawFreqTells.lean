/- FreqTells answers true at all weights, numbers, places. -/
import Derived.Test.YtkfioaoooodmnaaGreatDoorRefFreq
namespace Go.Proofs.YtkfioaoooodmnaaGreatDoor
open Go Go.RowKit

set_option maxHeartbeats 2000000 in
set_option maxRecDepth 100000 in
theorem fnew_fresh {w : World} {v : Value} {W : List Int} (hW : Ints w v W) (hE : errW W = 0) :
    Calls Tryz.prog 14 #[v] w fun e w' => ∃ s p cap, e = .returned (.tuple #[.pointer (some ⟨s, 0, none⟩), .int .i64 0]) ∧ w.heap.size ≤ s ∧ Tab W s p cap w' ∧ OwnI 2 w.heap.size w' (.slice p W.length cap) (ups W W.length) ∧ Ext w w' := by
  obtain ⟨a, cap, rfl, h1, h2, h3⟩ := hW.open
  unfold maxLen at h2
  obtain ⟨c1, c2, c3, c4⟩ := errW_ok hE
  have H3 := Lib.hid h3
  have OKW := Lib.hid c3
  have HL1 := Lib.hid c1
  have t1 : ((W.length : Int) == 0) = false := by rw [beq_eq_false_iff_ne]; omega
  have t2 : (W.length : Int) ≤ 64 := by omega
  have t3 : (psum W W.length == 0) = false := by rw [beq_eq_false_iff_ne]; omega
  clear h3 hW c1 c2 c3 c4 hE
  go_enter Tryz.func14, Tryz.ntmps14
  go_wp2_with fail
  go_loopw [5, 20] (fun v5 v20 wr => ∃ (k : Nat) (u : Value), v20 = .int .i64 (k : Int) ∧ k ≤ W.length ∧ v5 = .int .i64 (psum W k) ∧ NewMem W w k u wr) (fun _ v20 _ => W.length - (intOf v20).toNat)
  case atStart =>
    refine ⟨0, .slice none 0 0, rfl, Nat.zero_le _, by rw [psum_zero], ⟨At.n0 (by rfl), Bx.n0 1 ⟨rfl, by decide⟩ (by decide) noI_1, World.ownsRow_nil .., (Ext.refl _).alloc _, by omega⟩⟩
  case round =>
    obtain ⟨k, u, rfl, hk, rfl, hM⟩ := hrel
    have HM := Lib.hid hM
    have HK := Lib.hid hk
    clear hM
    by_cases hkn : k < W.length
    · obtain ⟨b, o, rfl, hb, hc⟩ := H3.out k hkn
      obtain ⟨x, hx⟩ : ∃ x, W.getD k 0 = x := ⟨_, rfl⟩
      have hcx := hc k hkn
      have hcell : wr.cell? ⟨b, o + k, none⟩ = some (.int .i64 x) := by rw [Below.cell HM.out.row.ext (p := ⟨b, o + k, none⟩) hb, hcx, hx]
      have HX := Lib.hid hx
      have HLT := Lib.hid hkn
      clear hc hcx hx
      have hxx := OKW.out.get k
      rw [HX.out] at hxx
      obtain ⟨hx1, hx2⟩ := hxx
      obtain ⟨y, hy⟩ : ∃ y, psum W (k + 1) = y := ⟨_, rfl⟩
      have hs := psum_succ W k
      rw [HX.out, hy] at hs
      have hp0 : 0 ≤ psum W k := psum_nonneg OKW.out k
      have hp1 : psum W k ≤ 67108864 := by
        have h := psum_le OKW.out k
        omega
      have hw1 : IntKind.i64.wrap (psum W k + x) = y := by rw [IntWalk.i64_in _ (by omega)]; omega
      obtain ⟨c, hc⟩ : ∃ c, psum W k = c := ⟨_, rfl⟩
      obtain ⟨p, cap', rfl⟩ := HM.out.shape
      have hcs := HM.out.c.1
      have hbx := HM.out.bx.free 0
      have hsz := HM.out.c.2
      have HY := Lib.hid hy
      have HLN : Hid (k + [y].length ≤ 100000) := by show _ ≤ 100000; simp; omega
      have HS2 : Hid (w.heap.size + 1 ≤ (wr.alloc (.cells #[.int .i64 y] 2)).heap.size) := by show _ ≤ _; simp; omega
      have HEX := Lib.hid ((Ext.refl wr).alloc (.cells #[.int .i64 y] 2))
      have HRW := Lib.hid (ownsRow_ext' HM.out.row.own HEX.out)
      have HRW2 : Hid ((wr.alloc (.cells #[.int .i64 y] 2)).ownsRow (w.heap.size + 1) 2 1 (.slice p k cap') k ((ups W k).map zv)) := by have h := HRW.out; rw [ups_length] at h; exact h
      clear hs hp0 hp1 hy HRW
      rw [hc] at hw1 ⊢
      clear hc
      go_wp2_with (at_builtin; refine append_ints rfl _ _ 22 2 Tryz.underlying22 info_i64 rfl (w.heap.size + 1) _ k _ rfl HRW2.out HS2.out _ [y] rfl (ints_lit wr [y] _ rfl 1 rfl (by simp)) HLN.out ?_; intro v' w' hown' hgrow; obtain ⟨va, vc, rfl⟩ := row_sliceI hown'; have HN := Lib.hid (HM.out.next HEX.out hown' (by rw [HY.out]; rfl) hgrow); have hc2 := ((HM.out.c.ext HEX.out).grown hgrow (fun b hb => (HM.out.row.own.lt b hb).1)).1; have hf2 := ((HM.out.bx.gr HEX.out.gr).grown hgrow (fun b hb => (HM.out.row.own.lt b hb).1)).free 0; clear hown' hgrow)
      exact ⟨⟨k + 1, _, by go_num, HLT.out, by rw [HY.out], HN.out⟩, by simp [intOf]; have := HLT.out; omega⟩
    · obtain rfl : k = W.length := by omega
      obtain ⟨p, cap', rfl⟩ := HM.out.shape
      go_wp2_with fail
      go_ret2
      exact ⟨_, _, _, rfl, Nat.le_refl _, HM.out.tab, HM.out.row.ownI.mono (Nat.le_succ _), HM.out.row.ext⟩

theorem OwnI.mv10 {ty : TypeId} {B t : Nat} {w w' : World} {v : Value} {L : List Int} (h : OwnI ty B w v L) (m : Mv t w w') (hB : t < B) : OwnI ty B w' v L := by
  rcases h with ⟨h1, h2⟩ | ⟨a, e1, e2, e3, h4⟩
  · refine .inl ⟨h1, ?_⟩
    rcases h2 with h2 | ⟨g, cap, cur, e, hg, hh, rest⟩
    · exact .inl h2
    · exact .inr ⟨g, cap, cur, e, hg, by rw [m.oth g (Array.getElem?_eq_some_iff.1 hh).1 (by omega)]; exact hh, rest⟩
  · exact .inr ⟨a, e1, e2, e3, fun p hp => ⟨(h4 p hp).1, Nat.lt_of_lt_of_le (h4 p hp).2 m.size⟩⟩
theorem Tab.row {W : List Int} {s g B : Nat} {p : Option Addr} {cap : Nat} {w w' : World} (h : Tab W s p cap w) (u : OwnI 2 B w (.slice p W.length cap) (ups W W.length)) (m : Mv g w w') (hs : g < s) (hB : g < B) : Tab W s p cap w' :=
  ⟨m.at (by omega) h.c, by have k := h.bx; unfold Bx at k ⊢; rw [m.oth _ h.c.2 (by omega)]; exact k, (u.mv10 m hB).mono (Nat.zero_le _)⟩

set_option maxHeartbeats 2000000 in
set_option maxRecDepth 100000 in
theorem freqTells_out {w : World} {v : Value} {W : List Int} (hW : Ints w v W) (r i : Int) (h : 200 < W.length) :
    Calls Tryz.prog 3 #[v, .int .i64 r, .int .i64 i] w (Yes w) := by
  obtain ⟨a, cap, rfl, h1, h2, -⟩ := hW.open
  unfold maxLen at h2
  obtain ⟨d, hd⟩ : ∃ d, W.length = d := ⟨_, rfl⟩
  rw [hd] at h h1 ⊢
  have t1 : (d : Int) ≤ 9223372036854775807 := by omega
  have t3 : (201 : Int) ≤ d := by omega
  clear hW hd h1 h2 h
  go_enter Tryz.func3, Tryz.ntmps3
  go_wp2_with fail
  refine (awake10_calls _).mono ?_
  rintro e w1 ⟨rfl, x1⟩
  go_wp2_with fail
  go_ret
  exact ⟨rfl, x1⟩

set_option maxHeartbeats 4000000 in
set_option maxRecDepth 100000 in
theorem freqTells_no {w : World} {v : Value} {W : List Int} (hW : Ints w v W) (r i : Int) (h : W.length ≤ 200) (c : Nat) (hc : errW W = c) (h0 : c ≠ 0) :
    Calls Tryz.prog 3 #[v, .int .i64 r, .int .i64 i] w (Yes w) := by
  obtain ⟨pw, cw, rfl⟩ := hW.slice
  obtain ⟨n, hn⟩ : ∃ n, W.length = n := ⟨_, rfl⟩
  have HN := Lib.hid hn
  have HW := Lib.hid hW
  have HC := Lib.hid hc
  have C0 := Lib.hid h0
  rw [hn] at HW h ⊢
  have t1 : (n : Int) ≤ 200 := by omega
  have t2 : ((c : Int) != (c : Int)) = false := by simp
  have t3 : ((c : Int) != 0) = true := by rw [bne_iff_ne]; omega
  have HLN : Hid (0 + W.length ≤ 100000) := by show _ ≤ 100000; omega
  have HI2 : Hid (Ints (w.alloc (.cells #[] 2)) (.slice pw n cw) W) := HW.out.ext ((Ext.refl w).alloc _)
  clear hW hn h hc h0
  go_enter Tryz.func3, Tryz.ntmps3
  go_wp2_with (at_builtin; refine append_ints rfl _ _ 22 2 Tryz.underlying22 info_i64 rfl w.heap.size _ 0 [] rfl (World.ownsRow_made w #[] 0 (Nat.le_refl _) (Nat.zero_le _) rfl) (by simp) _ W rfl HI2.out HLN.out ?_; intro v3 w3 hown' hgrow; (simp only [Nat.zero_add, List.nil_append] at hown'); obtain ⟨va3, vc3, rfl⟩ := row_sliceI hown'; have HOWN3 := Lib.hid hown'; have HGROW3 := Lib.hid hgrow; clear hown' hgrow)
  have X3 : Hid (Ext w w3) := ((Ext.refl w).alloc (.cells #[] 2)).grown HGROW3.out (fun b hb => by injection hb with hb; subst hb; exact Nat.le_refl _)
  have I3 : Hid (Ints w3 (.slice va3 W.length vc3) W) := Own.sl (.inl HOWN3.out)
  clear HOWN3 HGROW3 HI2
  refine (fnew_no I3.out c HC.out C0.out).mono ?_
  rintro e w4 ⟨rfl, x4⟩
  have X4 := Lib.hid (X3.out.trans x4)
  clear x4 X3 I3
  go_wp2_with fail
  refine (rmay10_calls (HW.out.ext X4.out) c HC.out).mono ?_
  rintro e w5 ⟨rfl, x5⟩
  have X5 := Lib.hid (X4.out.trans x5)
  clear x5 X4
  go_wp2_with fail
  refine (awake10_calls _).mono ?_
  rintro e w6 ⟨rfl, x6⟩
  go_wp2_with fail
  go_ret
  exact ⟨rfl, X5.out.trans x6⟩

set_option maxHeartbeats 800000 in
set_option maxRecDepth 100000 in
theorem freqTells_main {w : World} {v : Value} {W : List Int} (hW : Ints w v W) (r i : Int) (hE : errW W = 0) :
    Calls Tryz.prog 3 #[v, .int .i64 r, .int .i64 i] w (Yes w) := by
  obtain ⟨pw, cw, rfl⟩ := hW.slice
  obtain ⟨k1, k2, k3, k4⟩ := errW_ok hE
  obtain ⟨a, c, hP1, hP2⟩ := pick_both hE r
  obtain ⟨⟨xb, xn, xd⟩, cc, hS1, hS2⟩ := share_both hE i
  obtain ⟨M, hM, m1, m2⟩ := psum_nat hE
  obtain ⟨n, hn⟩ : ∃ n, W.length = n := ⟨_, rfl⟩
  have HP1 := Lib.hid hP1
  have HP2 := Lib.hid hP2
  have HS1 := Lib.hid hS1
  have HS2 := Lib.hid hS2
  have HN := Lib.hid hn
  have HW := Lib.hid hW
  have HE := Lib.hid hE
  have HM := Lib.hid hM
  have K1 := Lib.hid k1
  have K2 := Lib.hid k2
  have K3 := Lib.hid k3
  rw [hn] at HW ⊢
  have t1 : (n : Int) ≤ 64 := by omega
  have HLN : Hid (0 + W.length ≤ 100000) := by show _ ≤ 100000; omega
  have HI2 : Hid (Ints (w.alloc (.cells #[] 2)) (.slice pw n cw) W) := HW.out.ext ((Ext.refl w).alloc _)
  clear hW hn hE hP1 hP2 hS1 hS2 hM m1 m2 k1 k2 k3 k4
  go_enter Tryz.func3, Tryz.ntmps3
  go_wp2_with (at_builtin; refine append_ints rfl _ _ 22 2 Tryz.underlying22 info_i64 rfl w.heap.size _ 0 [] rfl (World.ownsRow_made w #[] 0 (Nat.le_refl _) (Nat.zero_le _) rfl) (by simp) _ W rfl HI2.out HLN.out ?_; intro v3 w3 hown' hgrow; (simp only [Nat.zero_add, List.nil_append] at hown'); obtain ⟨va3, vc3, rfl⟩ := row_sliceI hown'; have HOWN3 := Lib.hid hown'; have HGROW3 := Lib.hid hgrow; clear hown' hgrow)
  have X3 : Hid (Ext w w3) := ((Ext.refl w).alloc (.cells #[] 2)).grown HGROW3.out (fun b hb => by injection hb with hb; subst hb; exact Nat.le_refl _)
  have I3 : Hid (Ints w3 (.slice va3 W.length vc3) W) := Own.sl (.inl HOWN3.out)
  obtain ⟨g, gc, eg, hg, hrow⟩ := RowG.of HOWN3.out K1.out
  obtain ⟨e1, e2⟩ : va3 = some ⟨g, 0, none⟩ ∧ vc3 = gc := by injection eg with a b c; exact ⟨a, c⟩
  subst e1 e2
  have R3 := Lib.hid hrow
  have GB := Lib.hid hg
  have GL := Lib.hid hrow.lt
  clear HOWN3 HGROW3 HI2 eg hg hrow
  rw [HN.out] at I3 ⊢
  refine (fnew_fresh I3.out HE.out).mono ?_
  rintro e w4 ⟨s, p, cap, rfl, ls, tt, up, x4⟩
  have T4 := Lib.hid tt
  have U4 := Lib.hid up
  have GS : Hid (g < s) := Nat.lt_of_lt_of_le GL.out ls
  have R4 := Lib.hid (R3.out.ext x4)
  have X4 := Lib.hid (X3.out.trans x4)
  clear ls tt up x4 X3 I3 R3
  go_wp2_with fail
  refine (rmay10_calls (HW.out.ext X4.out) 0 HE.out).mono ?_
  rintro e w5 ⟨rfl, x5⟩
  have T5 := Lib.hid (T4.out.ext x5)
  have U5 := Lib.hid (U4.out.ext x5)
  have R5 := Lib.hid (R4.out.ext x5)
  have X5 := Lib.hid (X4.out.trans x5)
  clear x5 X4 T4 U4 R4
  go_wp2_with fail
  go_loopw [10] (fun v10 wr => ∃ (k : Nat) (L : List Int), v10 = .int .i64 (k : Int) ∧ k ≤ n ∧ L.length = n ∧ RowG 2 g vc3 L wr ∧ Mv g w5 wr) (fun v10 _ => n - (intOf v10).toNat)
  case atStart => exact ⟨0, W, rfl, Nat.zero_le _, HN.out, R5.out, Mv.refl _ _⟩
  case round =>
    clear R5
    rename World => w6
    obtain ⟨k, L, rfl, hk, hL, hr, hm⟩ := hrel
    have R := Lib.hid hr
    have MV := Lib.hid hm
    have LL := Lib.hid hL
    clear hr hm hL
    by_cases hkn : k < n
    · have hc := R.out.cell (j := k) (by rw [LL.out]; exact hkn)
      have hf := R.out.free k
      have LT := Lib.hid hkn
      clear hk
      go_wp2_with fail
      exact ⟨⟨k + 1, L.set k (-7), by go_num, LT.out, by rw [List.length_set]; exact LL.out, R.out.set k _, MV.out.trans (Mv.set g k _ _)⟩, by simp [intOf]; have := LT.out; omega⟩
    · obtain rfl : n = k := by omega
      have T6 := Lib.hid (T5.out.row U5.out MV.out GS.out GL.out)
      have X6 := Lib.hid (MV.out.ext X5.out GB.out)
      clear T5 U5 X5 R MV LL hk hkn
      go_wp2_with fail
      refine (HP1.out _ _ _ _ T6.out).mono ?_
      rintro e w7 ⟨rfl, x7⟩
      have X7 := Lib.hid x7
      clear x7
      go_wp2_with fail
      refine (HP2.out _ _ (HW.out.ext (X6.out.trans X7.out))).mono ?_
      rintro e w8 ⟨rfl, x8⟩
      have X8 := Lib.hid (X7.out.trans x8)
      clear x8 X7
      go_wp2_with fail
      refine (HS1.out _ _ _ _ (T6.out.ext X8.out)).mono ?_
      rintro e w9 ⟨q1, q2, q3, q4, q5, q6, rfl, l1, l2, x9⟩
      have Y9 : Ext w9 (w9.alloc (.cells #[.bool xb, .slice q1 q2 q3, .slice q4 q5 q6] 37)) := (Ext.refl _).alloc _
      have L1 := Lib.hid (l1.limbs.ext Y9)
      have L2 := Lib.hid (l2.limbs.ext Y9)
      have X9 := Lib.hid (X8.out.trans (x9.trans Y9))
      obtain ⟨b1, hb1⟩ : ∃ s, w9.heap.size = s := ⟨_, rfl⟩
      have C0 : Hid (At b1 0 (.bool xb) (w9.alloc (.cells #[.bool xb, .slice q1 q2 q3, .slice q4 q5 q6] 37))) := by rw [← hb1]; exact At.n0 (by rfl)
      have C1 : Hid (At b1 1 (.slice q1 q2 q3) (w9.alloc (.cells #[.bool xb, .slice q1 q2 q3, .slice q4 q5 q6] 37))) := by rw [← hb1]; exact At.n0 (by rfl)
      have C2 : Hid (At b1 2 (.slice q4 q5 q6) (w9.alloc (.cells #[.bool xb, .slice q1 q2 q3, .slice q4 q5 q6] 37))) := by rw [← hb1]; exact At.n0 (by rfl)
      clear l1 l2 x9 X8 Y9
      go_wp2_with fail
      (try rw [hb1])
      obtain ⟨wa, hwa⟩ : ∃ W', W' = w9.alloc (.cells #[.bool xb, .slice q1 q2 q3, .slice q4 q5 q6] 37) := ⟨_, rfl⟩
      rw [← hwa] at L1 L2 X9 C0 C1 C2 ⊢
      clear hwa hb1
      refine (HS2.out _ _ (HW.out.ext (X6.out.trans X9.out))).mono ?_
      rintro e wb ⟨r1, r2, r3, r4, r5, r6, rfl, l1, l2, xb_⟩
      have Yb : Ext wb (wb.alloc (.cells #[.bool xb, .slice r1 r2 r3, .slice r4 r5 r6] 37)) := (Ext.refl _).alloc _
      have M1 := Lib.hid (l1.limbs.ext Yb)
      have M2 := Lib.hid (l2.limbs.ext Yb)
      have L1 := Lib.hid (L1.out.ext (xb_.trans Yb))
      have L2 := Lib.hid (L2.out.ext (xb_.trans Yb))
      have C0 := Lib.hid (C0.out.ext (xb_.trans Yb))
      have C1 := Lib.hid (C1.out.ext (xb_.trans Yb))
      have C2 := Lib.hid (C2.out.ext (xb_.trans Yb))
      have XB := Lib.hid (X9.out.trans (xb_.trans Yb))
      obtain ⟨b2, hb2⟩ : ∃ s, wb.heap.size = s := ⟨_, rfl⟩
      have D0 : Hid (At b2 0 (.bool xb) (wb.alloc (.cells #[.bool xb, .slice r1 r2 r3, .slice r4 r5 r6] 37))) := by rw [← hb2]; exact At.n0 (by rfl)
      have D1 : Hid (At b2 1 (.slice r1 r2 r3) (wb.alloc (.cells #[.bool xb, .slice r1 r2 r3, .slice r4 r5 r6] 37))) := by rw [← hb2]; exact At.n0 (by rfl)
      have D2 : Hid (At b2 2 (.slice r4 r5 r6) (wb.alloc (.cells #[.bool xb, .slice r1 r2 r3, .slice r4 r5 r6] 37))) := by rw [← hb2]; exact At.n0 (by rfl)
      have g0 := D0.out.1
      have g1 := D1.out.1
      have g2 := D2.out.1
      have g3 := C0.out.1
      have g4 := C1.out.1
      have g5 := C2.out.1
      clear l1 l2 xb_ X9 Yb
      go_wp2_with fail
      (try rw [hb2] at g0 g1 g2)
      (try rw [hb2])
      obtain ⟨wc, hwc⟩ : ∃ W', W' = wb.alloc (.cells #[.bool xb, .slice r1 r2 r3, .slice r4 r5 r6] 37) := ⟨_, rfl⟩
      rw [← hwc] at L1 L2 M1 M2 XB C0 C1 C2 D0 D1 D2 ⊢
      clear hwc hb2 g0 g1 g2 g3 g4 g5
      refine (is_raw L1.out L2.out M1.out M2.out xb xb true (by simp)).mono ?_
      rintro e wd ⟨rfl, xd_⟩
      have XD := Lib.hid (XB.out.trans xd_)
      clear xd_ XB L1 L2 M1 M2 C0 C1 C2 D0 D1 D2
      go_wp2_with fail
      refine (flen_ext (T6.out.ext XD.out) _ HN.out).mono ?_
      rintro e we ⟨rfl, xe⟩
      have XE := Lib.hid (XD.out.trans xe)
      clear xe XD
      go_wp2_with fail
      refine (fsum_ext (T6.out.ext XE.out) K1.out K2.out _ HM.out).mono ?_
      rintro e wf ⟨rfl, xf⟩
      have XF := Lib.hid (XE.out.trans xf)
      clear xf XE
      go_wp2_with fail
      refine (rsum10_calls (HW.out.ext (X6.out.trans XF.out)) K2.out K3.out _ HM.out).mono ?_
      rintro e wg ⟨rfl, xg⟩
      have XG := Lib.hid (XF.out.trans xg)
      clear xg XF
      go_wp2_with fail
      refine (awake10_calls _).mono ?_
      rintro e wh ⟨rfl, xh⟩
      have XH := Lib.hid (X6.out.trans (XG.out.trans xh))
      clear xh XG
      go_wp2_with fail
      go_ret
      exact ⟨rfl, XH.out⟩

theorem freqTells_calls {w : World} {v : Value} {W : List Int} (hW : Ints w v W) (r : Int) (_hr : -9223372036854775808 ≤ r ∧ r ≤ 9223372036854775807) (i : Int) (_hi : -9223372036854775808 ≤ i ∧ i ≤ 9223372036854775807) :
    Calls Tryz.prog 3 #[v, .int .i64 r, .int .i64 i] w (Yes w) := by
  by_cases h : 200 < W.length
  · exact freqTells_out hW r i h
  by_cases hE : errW W = 0
  · exact freqTells_main hW r i hE
  · exact freqTells_no hW r i (by omega) _ rfl hE
end Go.Proofs.YtkfioaoooodmnaaGreatDoor
