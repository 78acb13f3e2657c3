/- WholeBack answers true at all whole numbers, texts and numbers. -/
import Derived.Test.YtomhfipgabpfiaaDoorLawTxt
namespace Go.Proofs.YtomhfipgabpfiaaDoor
open Go Go.RowKit


set_option maxHeartbeats 8000000 in
set_option maxRecDepth 100000 in
theorem wholeBack_calls {w : World} {v0 v1 : Value} {A0 A1 : List Nat} (h0 : Limbs w v0 A0) (h1 : Limbs w v1 A1) (n0 n1 : Bool) (s : ByteArray) (hs : s.size ≤ maxLen) (n : Int) (hn1 : -9223372036854775808 ≤ n) (hn2 : n ≤ 9223372036854775807) :
    Calls Tryd.prog 8 #[.agg #[.bool n0, v0], .agg #[.bool n1, v1], .string s, .int .i64 n] w (Yes w) := by
  obtain ⟨p0, q0, rfl, -, -, -⟩ := h0.open
  obtain ⟨p1, q1, rfl, -, -, -⟩ := h1.open
  unfold maxLen at hs
  have hsm : (s.size : Int) ≤ 9223372036854775807 := by omega
  clear hs
  obtain ⟨lb, hlb⟩ : ∃ b, (decide (10 < A0.length) || decide (10 < A1.length)) = b := ⟨_, rfl⟩
  cases lb with
  | true =>
    have HLB := Lib.hid hlb
    clear hlb
    go_enter Tryd.func8, Tryd.ntmps8
    go_wp2_with fail
    refine (ilong2_calls (h0.ext (((Ext.refl _).alloc _).alloc _)) (h1.ext (((Ext.refl _).alloc _).alloc _)) n0 n1 true HLB.out (by simp)).mono ?_
    rintro e w1_ ⟨rfl, rfl⟩
    go_wp2_with fail
    refine (lawake_calls _).mono ?_
    rintro e w1 ⟨rfl, x1⟩
    have y1 := Ext.trans ((((Ext.refl _).alloc _).alloc _).alloc _) x1
    have b0_0 : Hid (At (w.heap.size) 0 (.bool n0) w1) := At.ext (At.n0 (by rfl)) ((((Ext.refl _).alloc _).alloc _).trans x1)
    have b0_1 : Hid (At (w.heap.size) 1 (.slice p0 A0.length q0) w1) := At.ext (At.n0 (by rfl)) ((((Ext.refl _).alloc _).alloc _).trans x1)
    have b1_0 : Hid (At (w.heap.size + 1) 0 (.bool n1) w1) := At.ext (At.n1 (by rfl)) (((Ext.refl _).alloc _).trans x1)
    have b1_1 : Hid (At (w.heap.size + 1) 1 (.slice p1 A1.length q1) w1) := At.ext (At.n1 (by rfl)) (((Ext.refl _).alloc _).trans x1)
    go_wp2_with fail
    go_ret
    exact ⟨rfl, y1⟩
  | false =>
    have HLB := Lib.hid hlb
    simp at hlb
    have i0 : InI w n0 (.slice p0 A0.length q0) 10 (iv n0 A0) := ⟨A0, h0, rfl, by omega⟩
    obtain ⟨z0, hz0⟩ : ∃ z, iv n0 A0 = z := ⟨_, rfl⟩
    rw [hz0] at i0
    have i1 : InI w n1 (.slice p1 A1.length q1) 10 (iv n1 A1) := ⟨A1, h1, rfl, by omega⟩
    obtain ⟨z1, hz1⟩ : ∃ z, iv n1 A1 = z := ⟨_, rfl⟩
    rw [hz1] at i1
    clear hlb
    clear hz0 hz1
    by_cases h300 : 300 < s.size
    · have hsz : (301 : Int) ≤ s.size := by omega
      clear h300
      go_enter Tryd.func8, Tryd.ntmps8
      go_wp2_with fail
      refine (ilong2_calls (h0.ext (((Ext.refl _).alloc _).alloc _)) (h1.ext (((Ext.refl _).alloc _).alloc _)) n0 n1 false HLB.out (by simp)).mono ?_
      rintro e w1_ ⟨rfl, rfl⟩
      go_wp2_with fail
      refine (lawake_calls _).mono ?_
      rintro e w1 ⟨rfl, x1⟩
      have y1 := Ext.trans ((((Ext.refl _).alloc _).alloc _).alloc _) x1
      have b0_0 : Hid (At (w.heap.size) 0 (.bool n0) w1) := At.ext (At.n0 (by rfl)) ((((Ext.refl _).alloc _).alloc _).trans x1)
      have b0_1 : Hid (At (w.heap.size) 1 (.slice p0 A0.length q0) w1) := At.ext (At.n0 (by rfl)) ((((Ext.refl _).alloc _).alloc _).trans x1)
      have b1_0 : Hid (At (w.heap.size + 1) 0 (.bool n1) w1) := At.ext (At.n1 (by rfl)) (((Ext.refl _).alloc _).trans x1)
      have b1_1 : Hid (At (w.heap.size + 1) 1 (.slice p1 A1.length q1) w1) := At.ext (At.n1 (by rfl)) (((Ext.refl _).alloc _).trans x1)
      go_wp2_with fail
      go_ret
      exact ⟨rfl, y1⟩
    · have hsz : (s.size : Int) ≤ 300 := by omega
      have HSZ : Hid (s.size ≤ 300) := by show _ ≤ _; omega
      clear h300
      obtain ⟨t, ht⟩ := str_of (showI z0)
      obtain ⟨u, hu⟩ := str_of (showI z1)
      have hb := show_back i0.len (by decide) (by decide)
      have htz : t.size ≤ 500 := by rw [Lib.size_eq t, ht]; have := showI_len i0.len (by decide); omega
      obtain ⟨c, hc⟩ : ∃ c, cmpI z0 z1 = c := ⟨_, rfl⟩
      obtain ⟨q, hq1⟩ : ∃ q, (t.toList == u.toList) = q := ⟨_, rfl⟩
      have hq2 : (c == 0) = q := by
        rw [← hq1, Lib.toList_data, Lib.toList_data, ht, hu, Bool.eq_iff_iff, beq_iff_eq, beq_iff_eq, ← hc, cmpI_zero]
        exact ⟨fun e => by rw [e], showI_inj i0.len i1.len (by decide) (by decide)⟩
      obtain ⟨f, hf⟩ : ∃ f, fitsI z0 = f := ⟨_, rfl⟩
      obtain ⟨m, hm⟩ : ∃ m, smallI z0 = m := ⟨_, rfl⟩
      have hfn : fitsI n = true := by unfold fitsI; simp; omega
      have hsn : smallI n = n := by unfold smallI; rw [hfn]; rfl
      have HN1 := Lib.hid hn1
      have HN2 := Lib.hid hn2
      have HFN := Lib.hid hfn
      have HSN := Lib.hid hsn
      have HT := Lib.hid ht
      have HU := Lib.hid hu
      have HC := Lib.hid hc
      have HF := Lib.hid hf
      have HM := Lib.hid hm
      have HTZ := Lib.hid htz
      have HB1 : Hid (((errI t.data.toList : Nat) : Int) = 0) := by show _ = _; rw [ht, hb.1]; rfl
      have HB2 : Hid (readI t.data.toList = z0) := by show _ = _; rw [ht, hb.2]
      have HL0 : Hid ((showL z0.natAbs).length ≤ 4294967296) := by show _ ≤ _; have := i0.len.show (by decide); omega
      have HL1 : Hid ((showL z1.natAbs).length ≤ 4294967296) := by show _ ≤ _; have := i1.len.show (by decide); omega
      clear hb htz hc hf hm hfn hsn ht hu hn1 hn2
      go_enter Tryd.func8, Tryd.ntmps8
      go_wp2_with fail
      refine (ilong2_calls (h0.ext (((Ext.refl _).alloc _).alloc _)) (h1.ext (((Ext.refl _).alloc _).alloc _)) n0 n1 false HLB.out (by simp)).mono ?_
      rintro e w1_ ⟨rfl, rfl⟩
      go_wp2_with fail
      refine (lawake_calls _).mono ?_
      rintro e w1 ⟨rfl, x1⟩
      have y1 := Ext.trans ((((Ext.refl _).alloc _).alloc _).alloc _) x1
      have b0_0 : Hid (At (w.heap.size) 0 (.bool n0) w1) := At.ext (At.n0 (by rfl)) ((((Ext.refl _).alloc _).alloc _).trans x1)
      have b0_1 : Hid (At (w.heap.size) 1 (.slice p0 A0.length q0) w1) := At.ext (At.n0 (by rfl)) ((((Ext.refl _).alloc _).alloc _).trans x1)
      have b1_0 : Hid (At (w.heap.size + 1) 0 (.bool n1) w1) := At.ext (At.n1 (by rfl)) (((Ext.refl _).alloc _).trans x1)
      have b1_1 : Hid (At (w.heap.size + 1) 1 (.slice p1 A1.length q1) w1) := At.ext (At.n1 (by rfl)) (((Ext.refl _).alloc _).trans x1)
      have g0_0 := (b0_0.out.ext (Ext.refl _)).1
      have g0_1 := (b0_1.out.ext (Ext.refl _)).1
      go_wp2_with fail
      refine (show_is (i0.ext y1) (by decide) t HT.out HL0.out).mono ?_
      rintro e w2 ⟨rfl, x2⟩
      clear g0_0 g0_1
      go_wp2_with fail
      refine (read_is t _ HTZ.out 0 z0 HB1.out HB2.out).mono ?_
      rintro e w3 ⟨sb4, sv4, sm4, rfl, e4, x3⟩
      obtain ⟨sp4, sl4, sc4, rfl⟩ := e4.slice
      go_wp2_with fail
      refine (of_is _ n HN1.out HN2.out).mono ?_
      rintro e w4 ⟨sb5, sv5, sm5, rfl, e5, x4⟩
      have y4 := Ext.trans ((Ext.refl _).alloc _) x4
      have b3_0 : Hid (At (w3.heap.size) 0 (.bool sb4) w4) := At.ext (At.n0 (by rfl)) x4
      have q3_0 : Hid (Fr (w3.heap.size) 0 w4) := Fr.ext Fr.n0 x4
      have b3_1 : Hid (At (w3.heap.size) 1 (.slice sp4 sl4 sc4) w4) := At.ext (At.n0 (by rfl)) x4
      have q3_1 : Hid (Fr (w3.heap.size) 1 w4) := Fr.ext Fr.n0 x4
      obtain ⟨sp5, sl5, sc5, rfl⟩ := e5.slice
      go_wp2_with fail
      refine (small_is ((e5.ext (Ext.refl _)).inI (k := 1) (LenI.small (by have := HN1.out; have := HN2.out; omega))) (by decide) n HSN.out true HFN.out).mono ?_
      rintro e w5 ⟨rfl, x5⟩
      go_wp2_with fail
      have X1_0 := (Ext.refl w5).drew
      have z1_0 := X1_0
      have g3_0 := (b3_0.out.ext (x5.trans X1_0)).1
      have g3_1 := (b3_1.out.ext (x5.trans X1_0)).1
      have g0_0 := (b0_0.out.ext (x2.trans (x3.trans (y4.trans (x5.trans X1_0))))).1
      have g0_1 := (b0_1.out.ext (x2.trans (x3.trans (y4.trans (x5.trans X1_0))))).1
      have g1_0 := (b1_0.out.ext (x2.trans (x3.trans (y4.trans (x5.trans X1_0))))).1
      have g1_1 := (b1_1.out.ext (x2.trans (x3.trans (y4.trans (x5.trans X1_0))))).1
      (try simp only [List.append_eq, List.cons_append, List.nil_append])
      go_region_held3 (fun W => W.cell? ⟨w3.heap.size, 0, none⟩ = some (.bool sb4) ∧ W.cell? ⟨w3.heap.size, 1, none⟩ = some (.slice sp4 sl4 sc4) ∧ W.cell? ⟨w.heap.size, 0, none⟩ = some (.bool n0) ∧ W.cell? ⟨w.heap.size, 1, none⟩ = some (.slice p0 A0.length q0) ∧ W.cell? ⟨w.heap.size + 1, 0, none⟩ = some (.bool n1) ∧ W.cell? ⟨w.heap.size + 1, 1, none⟩ = some (.slice p1 A1.length q1)) (go_keep)
        (first
          | (have pre := z1_4; go_at_call 31; refine (cmp_is (i0.ext (y1.trans (x2.trans (x3.trans (y4.trans (x5.trans X1_4)))))) (i1.ext (y1.trans (x2.trans (x3.trans (y4.trans (x5.trans X1_4)))))) (by decide) (by decide) c HC.out).mono ?_; rintro e a1_5 ⟨rfl, z1_5⟩; have X1_5 := Ext.trans X1_4 z1_5; clear g3_0 g3_1 g0_0 g0_1 g1_0 g1_1; have g3_0 := (b3_0.out.ext (x5.trans X1_5)).1; have g3_1 := (b3_1.out.ext (x5.trans X1_5)).1; have g0_0 := (b0_0.out.ext (x2.trans (x3.trans (y4.trans (x5.trans X1_5))))).1; have g0_1 := (b0_1.out.ext (x2.trans (x3.trans (y4.trans (x5.trans X1_5))))).1; have g1_0 := (b1_0.out.ext (x2.trans (x3.trans (y4.trans (x5.trans X1_5))))).1; have g1_1 := (b1_1.out.ext (x2.trans (x3.trans (y4.trans (x5.trans X1_5))))).1)
          | (have pre := z1_3; go_at_call 15; refine (show_is (i1.ext (y1.trans (x2.trans (x3.trans (y4.trans (x5.trans X1_3)))))) (by decide) u HU.out HL1.out).mono ?_; rintro e a1_4 ⟨rfl, z1_4⟩; have X1_4 := Ext.trans X1_3 z1_4; clear g3_0 g3_1 g0_0 g0_1 g1_0 g1_1; have g3_0 := (b3_0.out.ext (x5.trans X1_4)).1; have g3_1 := (b3_1.out.ext (x5.trans X1_4)).1; have g0_0 := (b0_0.out.ext (x2.trans (x3.trans (y4.trans (x5.trans X1_4))))).1; have g0_1 := (b0_1.out.ext (x2.trans (x3.trans (y4.trans (x5.trans X1_4))))).1; have g1_0 := (b1_0.out.ext (x2.trans (x3.trans (y4.trans (x5.trans X1_4))))).1; have g1_1 := (b1_1.out.ext (x2.trans (x3.trans (y4.trans (x5.trans X1_4))))).1)
          | (have pre := z1_2; go_at_call 15; refine (show_is (i0.ext (y1.trans (x2.trans (x3.trans (y4.trans (x5.trans X1_2)))))) (by decide) t HT.out HL0.out).mono ?_; rintro e a1_3 ⟨rfl, z1_3⟩; have X1_3 := Ext.trans X1_2 z1_3; clear g3_0 g3_1 g0_0 g0_1 g1_0 g1_1; have g3_0 := (b3_0.out.ext (x5.trans X1_3)).1; have g3_1 := (b3_1.out.ext (x5.trans X1_3)).1; have g0_0 := (b0_0.out.ext (x2.trans (x3.trans (y4.trans (x5.trans X1_3))))).1; have g0_1 := (b0_1.out.ext (x2.trans (x3.trans (y4.trans (x5.trans X1_3))))).1; have g1_0 := (b1_0.out.ext (x2.trans (x3.trans (y4.trans (x5.trans X1_3))))).1; have g1_1 := (b1_1.out.ext (x2.trans (x3.trans (y4.trans (x5.trans X1_3))))).1)
          | (have pre := z1_1; go_at_call 24; refine (same_is (e4.ext (y4.trans (x5.trans X1_1))) (e7.ext (Ext.refl _)) true (decide_eq_true (show (z0 : Int) = z0 from rfl))).mono ?_; rintro e a1_2 ⟨rfl, z1_2⟩; have X1_2 := Ext.trans X1_1 z1_2; clear g3_0 g3_1 g0_0 g0_1 g1_0 g1_1; have g3_0 := (b3_0.out.ext (x5.trans X1_2)).1; have g3_1 := (b3_1.out.ext (x5.trans X1_2)).1; have g0_0 := (b0_0.out.ext (x2.trans (x3.trans (y4.trans (x5.trans X1_2))))).1; have g0_1 := (b0_1.out.ext (x2.trans (x3.trans (y4.trans (x5.trans X1_2))))).1; have g1_0 := (b1_0.out.ext (x2.trans (x3.trans (y4.trans (x5.trans X1_2))))).1; have g1_1 := (b1_1.out.ext (x2.trans (x3.trans (y4.trans (x5.trans X1_2))))).1)
          | (have pre := z1_0; go_at_call 20; refine (make_is (i0.ext (y1.trans (x2.trans (x3.trans (y4.trans (x5.trans X1_0)))))) (by decide)).mono ?_; rintro e a1_1 ⟨sb7, sv7, sm7, rfl, e7, z1_1⟩; have X1_1 := Ext.trans X1_0 z1_1; obtain ⟨sp7, sl7, sc7, rfl⟩ := e7.slice; clear g3_0 g3_1 g0_0 g0_1 g1_0 g1_1; have g3_0 := (b3_0.out.ext (x5.trans X1_1)).1; have g3_1 := (b3_1.out.ext (x5.trans X1_1)).1; have g0_0 := (b0_0.out.ext (x2.trans (x3.trans (y4.trans (x5.trans X1_1))))).1; have g0_1 := (b0_1.out.ext (x2.trans (x3.trans (y4.trans (x5.trans X1_1))))).1; have g1_0 := (b1_0.out.ext (x2.trans (x3.trans (y4.trans (x5.trans X1_1))))).1; have g1_1 := (b1_1.out.ext (x2.trans (x3.trans (y4.trans (x5.trans X1_1))))).1))
      clear g3_0 g3_1 g0_0 g0_1 g1_0 g1_1
      have g0_0 := (b0_0.out.ext (x2.trans (x3.trans (y4.trans (x5.trans X1_5))))).1
      have g0_1 := (b0_1.out.ext (x2.trans (x3.trans (y4.trans (x5.trans X1_5))))).1
      go_wp2_with fail
      refine (small_is (i0.ext (y1.trans (x2.trans (x3.trans (y4.trans (x5.trans X1_5)))))) (by decide) m HM.out f HF.out).mono ?_
      rintro e w11 ⟨rfl, x11⟩
      cases f with
      | false =>
        have HF0 := HF
        go_wp2_with fail
        clear g0_0 g0_1
        go_wp2_with (go_quiet (fail))
        obtain ⟨k, hk⟩ : ∃ k, ((errI s.data.toList : Nat) : Int) = k := ⟨_, rfl⟩
        have HK := Lib.hid hk
        clear hk
        go_wp2_with fail
        refine (iread_calls s _ (by have := HSZ.out; omega)).mono ?_
        rw [HK.out]
        rintro e w13 ⟨zv, rfl, hzv, x13⟩
        obtain ⟨za, zc, rfl, -, -, -⟩ := hzv.limbs.open
        have g3_0 := (b3_0.out.ext (x5.trans (X1_5.trans (x11.trans (((Ext.refl _).drewN _).trans x13))))).1
        have p3_0 := (q3_0.out.ext (x5.trans (X1_5.trans (x11.trans (((Ext.refl _).drewN _).trans x13))))).1
        have g3_1 := (b3_1.out.ext (x5.trans (X1_5.trans (x11.trans (((Ext.refl _).drewN _).trans x13))))).1
        have p3_1 := (q3_1.out.ext (x5.trans (X1_5.trans (x11.trans (((Ext.refl _).drewN _).trans x13))))).1
        by_cases hk0 : k = 0
        · subst hk0
          have HK0 : Hid (errI s.data.toList = 0) := by show _ = _; have := HK.out; omega
          have hbs := back_show HK0.out
          have hrl := readI_lt (l := s.data.toList) (n := 300) (by rw [← Lib.size_eq]; exact HSZ.out) (by decide)
          obtain ⟨z, hz⟩ : ∃ z, readI s.data.toList = z := ⟨_, rfl⟩
          rw [hz] at hbs hrl hzv ⊢
          obtain ⟨zb, hzb⟩ : ∃ b, decide (z < 0) = b := ⟨_, rfl⟩
          obtain ⟨zm, hzm⟩ : ∃ m, z.natAbs = m := ⟨_, rfl⟩
          rw [hzb]
          rw [hzm] at hzv ⊢
          have HBS := Lib.hid hbs
          have HRL := Lib.hid hrl
          have HZB := Lib.hid hzb
          have HZM := Lib.hid hzm
          clear hbs hrl hz hzb hzm
          have HSZ2 : Hid ((showL z.natAbs).length ≤ 4294967296) := by show _ ≤ _; have := HRL.out.show (by decide); omega
          obtain ⟨v1, hv1⟩ : ∃ W, W = ((w13.setCell ⟨w3.heap.size, 0, none⟩ (.bool zb)).setCell ⟨w3.heap.size, 1, none⟩ (.slice za (dig zm).length zc)) := ⟨_, rfl⟩
          have hblk : w3.heap.size < w11.heap.size := (b3_0.out.ext (x5.trans (X1_5.trans x11))).2
          have iz : IsI v1 zb (.slice za (dig zm).length zc) zm z := by rw [hv1]; exact ⟨HZB.out, HZM.out, (hzv.set2 hblk _ _).limbs⟩
          have Y : Ext w v1 := by rw [hv1]; exact ext_box2 (y1.trans (x2.trans (x3.trans (y4.trans (x5.trans (X1_5.trans (x11.trans (((Ext.refl _).drewN _).trans x13)))))))) (by have := (y1.trans (x2.trans x3)).size; omega) _ _
          have m0 : v1.cell? ⟨w3.heap.size, 0, none⟩ = some (.bool zb) := by rw [hv1]; simp [go_sem, g3_0]
          have m1 : v1.cell? ⟨w3.heap.size, 1, none⟩ = some (.slice za (dig zm).length zc) := by rw [hv1]; simp [go_sem, g3_1]
          have HV := Lib.hid hv1
          clear hv1
          have kn : w3.heap.size < v1.heap.size := by have := World.block_lt_of_cell? v1 _ m0; exact this
          go_wp2_with fail
          rw [← HV.out]
          clear g3_0 g3_1 p3_0 p3_1 HV
          refine (show_is (iz.inI (k := 300) HRL.out) (by decide) s HBS.out.symm HSZ2.out).mono ?_
          rintro e v2 ⟨rfl, s2⟩
          have m2 := cell_ext s2 m0 kn
          have m3 := cell_ext s2 m1 kn
          go_wp2_with fail
          refine (may_is (iz.ext s2)).mono ?_
          rintro e v3 ⟨rfl, s3⟩
          go_wp2_with fail
          go_ret
          exact ⟨rfl, Y.trans (s2.trans s3)⟩
        · go_wp2_with fail
          go_ret
          exact ⟨rfl, ext_box2 (y1.trans (x2.trans (x3.trans (y4.trans (x5.trans (X1_5.trans (x11.trans (((Ext.refl _).drewN _).trans x13)))))))) (by have := (y1.trans (x2.trans x3)).size; omega) _ _⟩
      | true =>
        have HMZ : Hid (m = z0) := by show _ = _; rw [← HM.out]; unfold smallI; rw [HF.out]; rfl
        have hfr := HF.out
        unfold fitsI at hfr
        have hmz := HMZ.out
        have HM1 : Hid (-9223372036854775808 ≤ m) := by show _ ≤ _; simp at hfr; omega
        have HM2 : Hid (m ≤ 9223372036854775807) := by show _ ≤ _; simp at hfr; omega
        clear hfr hmz
        go_wp2_with fail
        have X2_0 := (Ext.refl w11).drew
        have z2_0 := X2_0
        clear g0_0 g0_1
        have g0_0 := (b0_0.out.ext (x2.trans (x3.trans (y4.trans (x5.trans (X1_1.trans (z1_2.trans (z1_3.trans (z1_4.trans (z1_5.trans (x11.trans X2_0))))))))))).1
        have g0_1 := (b0_1.out.ext (x2.trans (x3.trans (y4.trans (x5.trans (X1_1.trans (z1_2.trans (z1_3.trans (z1_4.trans (z1_5.trans (x11.trans X2_0))))))))))).1
        (try simp only [List.append_eq, List.cons_append, List.nil_append])
        go_region_held3 (fun W => W.cell? ⟨w.heap.size, 0, none⟩ = some (.bool n0) ∧ W.cell? ⟨w.heap.size, 1, none⟩ = some (.slice p0 A0.length q0)) (go_keep)
          (first
            | (have pre := z2_2; go_at_call 24; refine (same_is (e13.ext z2_2) (e14.ext (Ext.refl _)) true (decide_eq_true (show (m : Int) = z0 from HMZ.out))).mono ?_; rintro e a2_3 ⟨rfl, z2_3⟩; have X2_3 := Ext.trans X2_2 z2_3; clear g0_0 g0_1; have g0_0 := (b0_0.out.ext (x2.trans (x3.trans (y4.trans (x5.trans (X1_1.trans (z1_2.trans (z1_3.trans (z1_4.trans (z1_5.trans (x11.trans X2_3))))))))))).1; have g0_1 := (b0_1.out.ext (x2.trans (x3.trans (y4.trans (x5.trans (X1_1.trans (z1_2.trans (z1_3.trans (z1_4.trans (z1_5.trans (x11.trans X2_3))))))))))).1)
            | (have pre := z2_1; go_at_call 20; refine (make_is (i0.ext (y1.trans (x2.trans (x3.trans (y4.trans (x5.trans (X1_1.trans (z1_2.trans (z1_3.trans (z1_4.trans (z1_5.trans (x11.trans X2_1)))))))))))) (by decide)).mono ?_; rintro e a2_2 ⟨sb14, sv14, sm14, rfl, e14, z2_2⟩; have X2_2 := Ext.trans X2_1 z2_2; obtain ⟨sp14, sl14, sc14, rfl⟩ := e14.slice; clear g0_0 g0_1; have g0_0 := (b0_0.out.ext (x2.trans (x3.trans (y4.trans (x5.trans (X1_1.trans (z1_2.trans (z1_3.trans (z1_4.trans (z1_5.trans (x11.trans X2_2))))))))))).1; have g0_1 := (b0_1.out.ext (x2.trans (x3.trans (y4.trans (x5.trans (X1_1.trans (z1_2.trans (z1_3.trans (z1_4.trans (z1_5.trans (x11.trans X2_2))))))))))).1)
            | (have pre := z2_0; go_at_call 19; refine (of_is _ m HM1.out HM2.out).mono ?_; rintro e a2_1 ⟨sb13, sv13, sm13, rfl, e13, z2_1⟩; have X2_1 := Ext.trans X2_0 z2_1; obtain ⟨sp13, sl13, sc13, rfl⟩ := e13.slice; clear g0_0 g0_1; have g0_0 := (b0_0.out.ext (x2.trans (x3.trans (y4.trans (x5.trans (X1_1.trans (z1_2.trans (z1_3.trans (z1_4.trans (z1_5.trans (x11.trans X2_1))))))))))).1; have g0_1 := (b0_1.out.ext (x2.trans (x3.trans (y4.trans (x5.trans (X1_1.trans (z1_2.trans (z1_3.trans (z1_4.trans (z1_5.trans (x11.trans X2_1))))))))))).1))
        clear g0_0 g0_1
        obtain ⟨k, hk⟩ : ∃ k, ((errI s.data.toList : Nat) : Int) = k := ⟨_, rfl⟩
        have HK := Lib.hid hk
        clear hk
        go_wp2_with fail
        refine (iread_calls s _ (by have := HSZ.out; omega)).mono ?_
        rw [HK.out]
        rintro e w15 ⟨zv, rfl, hzv, x15⟩
        obtain ⟨za, zc, rfl, -, -, -⟩ := hzv.limbs.open
        have g3_0 := (b3_0.out.ext (x5.trans (X1_1.trans (z1_2.trans (z1_3.trans (z1_4.trans (z1_5.trans (x11.trans (X2_3.trans x15))))))))).1
        have p3_0 := (q3_0.out.ext (x5.trans (X1_1.trans (z1_2.trans (z1_3.trans (z1_4.trans (z1_5.trans (x11.trans (X2_3.trans x15))))))))).1
        have g3_1 := (b3_1.out.ext (x5.trans (X1_1.trans (z1_2.trans (z1_3.trans (z1_4.trans (z1_5.trans (x11.trans (X2_3.trans x15))))))))).1
        have p3_1 := (q3_1.out.ext (x5.trans (X1_1.trans (z1_2.trans (z1_3.trans (z1_4.trans (z1_5.trans (x11.trans (X2_3.trans x15))))))))).1
        by_cases hk0 : k = 0
        · subst hk0
          have HK0 : Hid (errI s.data.toList = 0) := by show _ = _; have := HK.out; omega
          have hbs := back_show HK0.out
          have hrl := readI_lt (l := s.data.toList) (n := 300) (by rw [← Lib.size_eq]; exact HSZ.out) (by decide)
          obtain ⟨z, hz⟩ : ∃ z, readI s.data.toList = z := ⟨_, rfl⟩
          rw [hz] at hbs hrl hzv ⊢
          obtain ⟨zb, hzb⟩ : ∃ b, decide (z < 0) = b := ⟨_, rfl⟩
          obtain ⟨zm, hzm⟩ : ∃ m, z.natAbs = m := ⟨_, rfl⟩
          rw [hzb]
          rw [hzm] at hzv ⊢
          have HBS := Lib.hid hbs
          have HRL := Lib.hid hrl
          have HZB := Lib.hid hzb
          have HZM := Lib.hid hzm
          clear hbs hrl hz hzb hzm
          have HSZ2 : Hid ((showL z.natAbs).length ≤ 4294967296) := by show _ ≤ _; have := HRL.out.show (by decide); omega
          obtain ⟨v1, hv1⟩ : ∃ W, W = ((w15.setCell ⟨w3.heap.size, 0, none⟩ (.bool zb)).setCell ⟨w3.heap.size, 1, none⟩ (.slice za (dig zm).length zc)) := ⟨_, rfl⟩
          have hblk : w3.heap.size < a2_3.heap.size := (b3_0.out.ext (x5.trans (X1_1.trans (z1_2.trans (z1_3.trans (z1_4.trans (z1_5.trans (x11.trans X2_3)))))))).2
          have iz : IsI v1 zb (.slice za (dig zm).length zc) zm z := by rw [hv1]; exact ⟨HZB.out, HZM.out, (hzv.set2 hblk _ _).limbs⟩
          have Y : Ext w v1 := by rw [hv1]; exact ext_box2 (y1.trans (x2.trans (x3.trans (y4.trans (x5.trans (X1_1.trans (z1_2.trans (z1_3.trans (z1_4.trans (z1_5.trans (x11.trans (X2_3.trans x15)))))))))))) (by have := (y1.trans (x2.trans x3)).size; omega) _ _
          have m0 : v1.cell? ⟨w3.heap.size, 0, none⟩ = some (.bool zb) := by rw [hv1]; simp [go_sem, g3_0]
          have m1 : v1.cell? ⟨w3.heap.size, 1, none⟩ = some (.slice za (dig zm).length zc) := by rw [hv1]; simp [go_sem, g3_1]
          have HV := Lib.hid hv1
          clear hv1
          have kn : w3.heap.size < v1.heap.size := by have := World.block_lt_of_cell? v1 _ m0; exact this
          go_wp2_with fail
          rw [← HV.out]
          clear g3_0 g3_1 p3_0 p3_1 HV
          refine (show_is (iz.inI (k := 300) HRL.out) (by decide) s HBS.out.symm HSZ2.out).mono ?_
          rintro e v2 ⟨rfl, s2⟩
          have m2 := cell_ext s2 m0 kn
          have m3 := cell_ext s2 m1 kn
          go_wp2_with fail
          refine (may_is (iz.ext s2)).mono ?_
          rintro e v3 ⟨rfl, s3⟩
          go_wp2_with fail
          go_ret
          exact ⟨rfl, Y.trans (s2.trans s3)⟩
        · go_wp2_with fail
          go_ret
          exact ⟨rfl, ext_box2 (y1.trans (x2.trans (x3.trans (y4.trans (x5.trans (X1_1.trans (z1_2.trans (z1_3.trans (z1_4.trans (z1_5.trans (x11.trans (X2_3.trans x15)))))))))))) (by have := (y1.trans (x2.trans x3)).size; omega) _ _⟩

end Go.Proofs.YtomhfipgabpfiaaDoor
