/- FreqShares answers true at all weights. -/
import Derived.Test.YtkfioaoooodmnaaGreatDoorInts2
namespace Go.Proofs.YtkfioaoooodmnaaGreatDoor
open Go Go.RowKit

set_option maxHeartbeats 8000000 in
set_option maxRecDepth 100000 in
theorem freqShares_no {w : World} {v : Value} {W : List Int} (hW : Ints w v W) (hE : errW W ≠ 0) :
    Calls Tryz.prog 5 #[v] w (Yes w) := by
  obtain ⟨pw, cw, rfl⟩ := hW.slice
  have HW := Lib.hid hW
  obtain ⟨n, hn⟩ : ∃ n, errW W = n := ⟨_, rfl⟩
  have t1 : ((n : Int) != 0) = true := by rw [bne_iff_ne]; omega
  have N0 : Hid (n ≠ 0) := by show n ≠ 0; omega
  have HE := Lib.hid hn
  clear hn hE hW
  go_enter Tryz.func5, Tryz.ntmps5
  go_wp2_with fail
  refine (fnew_no HW.out n HE.out N0.out).mono ?_
  rintro e w1 ⟨rfl, x1⟩
  have e1_ : Ext w w1 := Ext.trans (Ext.refl w) x1
  go_wp2_with fail
  refine (awake10_calls _).mono ?_
  rintro e w2 ⟨rfl, x2⟩
  have e2_ : Ext w w2 := Ext.trans e1_ x2
  go_wp2_with fail
  go_ret
  exact ⟨rfl, e2_⟩

set_option maxHeartbeats 8000000 in
set_option maxRecDepth 100000 in
theorem freqShares_big {w : World} {v : Value} {W : List Int} (hW : Ints w v W) (hE : errW W = 0) (M : Nat) (hM : psum W W.length = (M : Int)) (hb : 3000 < M) :
    Calls Tryz.prog 5 #[v] w (Yes w) := by
  obtain ⟨pw, cw, rfl⟩ := hW.slice
  have HW := Lib.hid hW
  have HE := Lib.hid hE
  have HM := Lib.hid hM
  have t1 : (3001 : Int) ≤ M := by omega
  clear hE hW hM hb
  go_enter Tryz.func5, Tryz.ntmps5
  go_wp2_with fail
  refine (fnew_ok HW.out HE.out).mono ?_
  rintro e w1 ⟨ts1, tp1, tc1, rfl, tl1, tt1, x1⟩
  have e1_ : Ext w w1 := Ext.trans (Ext.refl w) x1
  have b0_0 : Hid (At (ts1) 0 (.slice tp1 (W : List Int).length tc1) w1) := tt1.c
  have k0 := Lib.hid tt1.bx
  have up1 : Hid (OwnZ 2 0 w1 _ (ups (W) (W : List Int).length)) := ⟨tt1.up, by decide⟩
  have l0 := Lib.hid tl1
  have u0 := Lib.hid tt1.bx.lt
  clear tl1 tt1
  go_wp2_with fail
  refine (fsum_ext ⟨b0_0.out, k0.out, up1.out.1⟩ (errW_ok HE.out).1 (errW_ok HE.out).2.1 _ HM.out).mono ?_
  rintro e w2 ⟨rfl, x2⟩
  have e2_ : Ext w w2 := Ext.trans e1_ x2
  go_wp2_with fail
  refine (awake10_calls _).mono ?_
  rintro e w3 ⟨rfl, x3⟩
  have e3_ : Ext w w3 := Ext.trans e2_ x3
  go_wp2_with fail
  go_ret
  exact ⟨rfl, e3_⟩

/-- all places' hits by the numbers below r -/
def hitL (W : List Int) (r : Int) : List Int := (List.range W.length).map (hitsW W r)
theorem hitL_length (W : List Int) (r : Int) : (hitL W r).length = W.length := by simp [hitL]
theorem hitL_get {W : List Int} {r : Int} {i : Nat} (h : i < W.length) : (hitL W r).getD i 0 = hitsW W r i := by simp [hitL, List.getD, h]
theorem hitL_zero {W : List Int} (h : okW W) : hitL W 0 = List.replicate W.length 0 := by
  refine List.ext_getElem (by simp [hitL]) fun i h1 h2 => ?_
  simp [hitL, hitsW_zero h]
theorem hitL_next {W : List Int} (h : okW W) {r : Int} {i : Nat} (hp : IsPick W r i) : (hitL W r).set i (hitsW W r i + 1) = hitL W (r + 1) := by
  refine List.ext_getElem (by simp [hitL]) fun j h1 h2 => ?_
  rw [List.getElem_set]
  by_cases e : i = j
  · subst e; simp [hitL, hitsW_same h hp]
  · rw [if_neg e]; simp [hitL, hitsW_other h hp (Ne.symm e)]
/-- the shares of the first k places -/
noncomputable def partQ (W : List Int) (k : Nat) : Rat := Rat.divInt (psum W k) (psum W W.length)
theorem partQ_zero (W : List Int) : partQ W 0 = 0 := by unfold partQ; rw [psum_zero]; exact Rat.zero_divInt _
theorem partQ_next {W : List Int} (h : errW W = 0) (k : Nat) : partQ W k + shareQ W k = partQ W (k + 1) := by
  have h0 : psum W W.length ≠ 0 := by have := (errW_ok h).2.2.2; omega
  unfold partQ shareQ
  rw [psum_succ, Rat.divInt_eq_div, Rat.divInt_eq_div, Rat.divInt_eq_div, Rat.intCast_add, Rat.div_def, Rat.div_def, Rat.div_def, Rat.add_mul]
theorem partQ_all {W : List Int} (h : errW W = 0) : partQ W W.length = 1 := by
  have h0 : psum W W.length ≠ 0 := by have := (errW_ok h).2.2.2; omega
  unfold partQ
  rw [Rat.divInt_eq_div, Rat.div_def, Rat.mul_inv_cancel _ (by rwa [ne_eq, Rat.intCast_eq_zero_iff])]
theorem partQ_len {W : List Int} (h : errW W = 0) (k : Nat) : LenR 1 (partQ W k) := by
  obtain ⟨M, hM, m1, m2⟩ := psum_nat h
  have h1 := psum_nonneg (errW_ok h).2.2.1 k
  have h2 := psum_top (errW_ok h).2.2.1 k
  exact lenR_over (n := psum W k) (d := psum W W.length) (by omega) (by omega) (by omega) (by omega) rfl
/-- in the midst of the second loop -/
structure ShMem (W : List Int) (w : World) (ts : Nat) (tp : Option Addr) (tc g gc s : Nat) (H : List Int) (q : Rat) (wr : World) : Prop where
  ext : Ext w wr
  tab : Tab W ts tp tc wr
  row : RowZ 2 g gc H wr
  box : BoxR s q wr

set_option maxHeartbeats 8000000 in
set_option maxRecDepth 100000 in
theorem freqShares_main {w : World} {v : Value} {W : List Int} (hW : Ints w v W) (hE : errW W = 0) (M : Nat) (hM : psum W W.length = (M : Int)) (hb : M ≤ 3000) :
    Calls Tryz.prog 5 #[v] w (Yes w) := by
  obtain ⟨k1, k2, k3, k4⟩ := errW_ok hE
  obtain ⟨pb, po, cw, rfl, hcells⟩ := ints_cell hW k1
  have HW := Lib.hid hW
  have HCE := Lib.hid hcells
  obtain ⟨n, hn⟩ : ∃ n, W.length = n := ⟨_, rfl⟩
  have HN := Lib.hid hn
  have HK := Lib.hid k3
  have HE := Lib.hid hE
  have HM := Lib.hid hM
  have K1 := Lib.hid k1
  have K2 := Lib.hid k2
  have M1 : Hid (1 ≤ M) := by show 1 ≤ M; omega
  have MR : Hid ((-9223372036854775808 : Int) ≤ M ∧ (M : Int) ≤ 9223372036854775807) := ⟨by omega, by omega⟩
  have M0 : Hid ((M : Int) ≠ 0) := by show (M : Int) ≠ 0; omega
  have t1 : (M : Int) ≤ 3000 := by omega
  have t2 : (n : Int) ≤ 64 := by omega
  have NL : Hid (n ≤ 100000) := by show n ≤ 100000; omega
  clear hE hW hM hb k1 k2 k3 k4 hcells
  rw [hn]
  clear hn
  go_enter Tryz.func5, Tryz.ntmps5
  go_wp2_with fail
  refine (fnew_ok (by have := HW.out; rwa [HN.out] at this) HE.out).mono ?_
  rintro e w1 ⟨ts, tp, tc, rfl, tl, tt, x1⟩
  have T1 := Lib.hid tt
  have X1 := Lib.hid x1
  have TL := Lib.hid tl
  clear tt x1 tl
  go_wp2_with fail
  refine (fsum_calls T1.out K1.out K2.out _ HM.out).mono ?_
  rintro e w1 ⟨rfl, rfl⟩
  go_wp2_with fail
  refine (awake10_calls _).mono ?_
  rintro e w2 ⟨rfl, x2⟩
  have T2 := Lib.hid (T1.out.ext x2)
  have X2 := Lib.hid (X1.out.trans x2)
  clear x2
  go_wp2_with (at_make; refine make_ints rfl _ _ 22 2 Tryz.underlying22 info_i64 rfl n _ rfl rfl rfl NL.out ?_; intro w3 hown hgrow; have X3 : Hid (Ext w2 w3) := (Ext.refl w2).grown hgrow (fun k hk => by cases hk); have R3 : Hid (RowG 2 w2.heap.size n (List.replicate n 0) w3) := RowG.made hown (by simp); clear hown hgrow)
  obtain ⟨g, hg⟩ : ∃ g, w2.heap.size = g := ⟨_, rfl⟩
  rw [hg] at R3 ⊢
  have HG : Hid (w2.heap.size ≤ g) := by show _ ≤ g; omega
  clear hg
  go_loopw [6, 7] (fun v6 v7 wr => ∃ l r : Nat, v6 = .int .i64 (l : Int) ∧ v7 = .int .i64 (r : Int) ∧ r ≤ M ∧ Hid (∀ (q : Int) (i : Nat), (r : Int) ≤ q → IsPick W q i → l ≤ i) ∧ l ≤ n ∧ RowG 2 g n (hitL W r) wr ∧ Ext w2 wr) (fun _ v7 _ => M - (intOf v7).toNat)
  case atStart => exact ⟨0, 0, rfl, rfl, Nat.zero_le _, fun _ _ _ _ => Nat.zero_le _, Nat.zero_le _, by have e : hitL W ((0 : Nat) : Int) = List.replicate n 0 := by have := hitL_zero HK.out; rw [HN.out] at this; exact this
                                                                                                        rw [e]; exact R3.out, X3.out⟩
  case round =>
    obtain ⟨l, r, rfl, rfl, hr, hlo, hln, hrow, hx⟩ := hrel
    have R := Lib.hid hrow
    have X := Lib.hid hx
    have TT := Lib.hid (T2.out.ext hx)
    have hl2 : (l : Int) ≤ 64 := by omega
    clear hrow hx hln
    by_cases hrm : r < M
    · obtain ⟨i, hi⟩ := pick_exists (W := W) (r := (r : Int)) (Int.natCast_nonneg r) (by rw [HM.out]; omega)
      have HP := Lib.hid hi
      have LT := Lib.hid hi.lt
      have hin : i < n := by have := hi.lt; rw [HN.out] at this; exact this
      have hli := hlo.out r i (Int.le_refl _) hi
      obtain ⟨x, hx⟩ : ∃ x, hitsW W r i = x := ⟨_, rfl⟩
      have hc := R.out.cell (j := i) (by rw [hitL_length]; exact LT.out)
      rw [hitL_get LT.out, hx] at hc
      have hf := R.out.free i
      have hxr : 0 ≤ x ∧ x ≤ 1048576 := by have := HK.out.get i; rw [← hx]; unfold hitsW; omega
      have HX := Lib.hid hx
      have hxa := hxr.1
      have hxb := hxr.2
      have hii : (i : Int) + 1 ≤ n := by omega
      clear hx hxr hi
      go_wp2_with fail
      refine (fsum_calls TT.out K1.out K2.out _ HM.out).mono ?_
      rintro e w4 ⟨rfl, rfl⟩
      go_wp2_with fail
      refine (fpick_ok TT.out HE.out _ i HP.out).mono ?_
      rintro e w4 ⟨rfl, x4⟩
      have X4 := Lib.hid x4
      have hc4 := ((show At g i (.int .i64 x) _ from ⟨hc, R.out.lt⟩).ext x4).1
      have hf4 := (R.out.ext x4).free i
      have R4 := Lib.hid (R.out.ext x4)
      clear x4 hc hf
      go_wp2_with fail
      refine ⟨⟨i, r + 1, rfl, by go_num, by omega, fun q j hq hj => IsPick.mono HK.out (by omega) HP.out hj, by omega, ?_, (X.out.trans X4.out).setCell HG.out _⟩, by simp [intOf]; omega⟩
      have e : (hitL W r).set i (x + 1) = hitL W ((r + 1 : Nat) : Int) := by rw [← HX.out]; exact hitL_next HK.out HP.out
      rw [← e]; exact R4.out.set i (x + 1)
    · have er : M = r := by omega
      subst er
      clear hlo
      go_wp2_with fail
      refine (fsum_calls TT.out K1.out K2.out _ HM.out).mono ?_
      rintro e w4 ⟨rfl, rfl⟩
      go_wp2_with fail
      refine (rof_is _ 0 (by decide) (by decide)).mono ?_
      rintro e w5 ⟨b0, x0, y0, m0, d0, rfl, e5, o5, x5⟩
      obtain ⟨xp, xn, xc, yp, yn, yc, rfl, rfl⟩ := e5.slice
      have S5 : Hid (ShMem W w ts tp tc g n w5.heap.size (hitL W M) (partQ W 0) (w5.alloc (.cells #[.bool b0, .slice xp xn xc, .slice yp yn yc] 37))) := by
        have y := x5.alloc (.cells #[.bool b0, .slice xp xn xc, .slice yp yn yc] 37)
        have e := e5.ext ((Ext.refl _).alloc (.cells #[.bool b0, .slice xp xn xc, .slice yp yn yc] 37))
        refine ⟨(X2.out.trans X.out).trans y, TT.out.ext y, ⟨R.out.ext y, by decide⟩, ?_⟩
        rw [partQ_zero]
        exact BoxR.mk (At.n0 (by rfl)) (At.n0 (by rfl)) (At.n0 (by rfl)) (Bx.n0 3 ⟨rfl, by decide⟩ (by decide) noI_s3) e
      have LB : Hid (w.heap.size ≤ w5.heap.size) := ((X2.out.trans X.out).trans x5).size
      have LTS : Hid (ts < w5.heap.size) := Nat.lt_of_lt_of_le TT.out.c.2 x5.size
      clear e5 o5 x5
      go_wp2_with fail
      obtain ⟨sb, hsb⟩ : ∃ s, w5.heap.size = s := ⟨_, rfl⟩
      rw [hsb] at S5 LB LTS ⊢
      clear hsb
      go_loopw [11] (fun v11 wr => ∃ j : Nat, v11 = .int .i64 (j : Int) ∧ j ≤ n ∧ ShMem W w ts tp tc g n sb (hitL W M) (partQ W j) wr) (fun v11 _ => n - (intOf v11).toNat)
      case atStart => exact ⟨0, rfl, Nat.zero_le _, S5.out⟩
      case round =>
        obtain ⟨j, rfl, hj, hS⟩ := hrel
        obtain ⟨hx, ht, hrw, qb, qp, qn, qc, qp', qn', qc', qm, qd, c0, c1, c2, cb, cr⟩ := hS
        have XX := Lib.hid hx
        have TT2 := Lib.hid ht
        have RZ := Lib.hid hrw
        have b102_0 := Lib.hid c0
        have b102_1 := Lib.hid c1
        have b102_2 := Lib.hid c2
        have k102 := Lib.hid cb
        have u102 := Lib.hid cb.lt
        have QR := Lib.hid cr
        clear hx ht hrw c0 c1 c2 cb cr
        by_cases hjn : j < n
        · have HJ : Hid (j < W.length) := by show j < _; rw [HN.out]; exact hjn
          have NEB : Hid (ts ≠ sb) := by show ts ≠ sb; have := LTS.out; omega
          obtain ⟨x, hx⟩ : ∃ x, W.getD j 0 = x := ⟨_, rfl⟩
          have HX := Lib.hid hx
          have hxr := HK.out.get j
          rw [hx] at hxr
          have XR : Hid ((-9223372036854775808 : Int) ≤ x ∧ x ≤ 9223372036854775807) := ⟨by omega, by omega⟩
          have HQ : Hid (Rat.divInt x (M : Int) = shareQ W j) := by show _ = _; unfold shareQ; rw [hx, HM.out]
          have HCX : Hid (At pb (po + j) (.int .i64 x) w) := by have := HCE.out j HJ.out; rwa [hx] at this
          have HHX : Hid ((hitL W M).getD j 0 = x) := by show _ = _; rw [hitL_get HJ.out, ← HM.out, hitsW_end HK.out HJ.out, hx]
          have hjj : (j : Int) + 1 ≤ n := by omega
          clear hx hxr
          have b100_0 := Lib.hid (TT2.out).c
          have k100 := Lib.hid (TT2.out).bx
          have up100 : Hid (OwnZ 2 0 wr _ (ups (W) (W : List Int).length)) := ⟨(TT2.out).up, by decide⟩
          have u100 := Lib.hid (TT2.out).bx.lt
          go_wp2_with fail
          refine (fshare_is ⟨b100_0.out, k100.out, up100.out.1⟩ HE.out j HJ.out).mono ?_
          rintro e w1 ⟨sb1, sv1, su1, sm1, sd1, rfl, e1, o1, x1⟩
          have e1_ : Ext w w1 := Ext.trans XX.out x1
          obtain ⟨sp1, sl1, sc1, tp1, tl1, tc1, rfl, rfl⟩ := e1.slice
          go_wp2_with fail
          obtain ⟨v2, hv2⟩ : ∃ W, W = (w1.alloc (.cells #[.bool sb1, .slice sp1 sl1 sc1, .slice tp1 tl1 tc1] 37)) := ⟨_, rfl⟩
          have y2 : Ext w1 v2 := by rw [hv2]; exact ((Ext.refl _).alloc _)
          have b0_0 : Hid (At (w1.heap.size) 0 (.bool sb1) v2) := by rw [hv2]; exact At.ext (At.n0 (by rfl)) (Ext.refl _)
          have b0_1 : Hid (At (w1.heap.size) 1 (.slice sp1 sl1 sc1) v2) := by rw [hv2]; exact At.ext (At.n0 (by rfl)) (Ext.refl _)
          have b0_2 : Hid (At (w1.heap.size) 2 (.slice tp1 tl1 tc1) v2) := by rw [hv2]; exact At.ext (At.n0 (by rfl)) (Ext.refl _)
          have k0 : Hid (Bx 3 (w1.heap.size) v2) := by rw [hv2]; exact Bx.gr (Bx.n0 3 ⟨rfl, by decide⟩ (by decide) noI_s3) (Ext.gr (Ext.refl _))
          have u0 : Hid (w1.heap.size < v2.heap.size) := b0_0.out.2
          have e2_ : Ext w v2 := Ext.trans e1_ y2
          rw [← hv2]
          clear hv2
          have hkeep1 : AllAt' ([(ts, 0, .slice tp (W : List Int).length tc), (sb, 0, .bool qb), (sb, 1, .slice qp qn qc), (sb, 2, .slice qp' qn' qc'), (w1.heap.size, 0, .bool sb1), (w1.heap.size, 1, .slice sp1 sl1 sc1), (w1.heap.size, 2, .slice tp1 tl1 tc1)] : List (Nat × Nat × Value)) v2 := AllAt'.cons (b100_0.out.ext (x1.trans y2)) (AllAt'.cons (b102_0.out.ext (x1.trans y2)) (AllAt'.cons (b102_1.out.ext (x1.trans y2)) (AllAt'.cons (b102_2.out.ext (x1.trans y2)) (AllAt'.cons b0_0.out (AllAt'.cons b0_1.out (AllAt'.cons b0_2.out (AllAt'.nil _)))))))
          have hob1 : ObOk w.heap.size v2 (([(ts, 0, .slice tp (W : List Int).length tc), (sb, 0, .bool qb), (sb, 1, .slice qp qn qc), (sb, 2, .slice qp' qn' qc'), (w1.heap.size, 0, .bool sb1), (w1.heap.size, 1, .slice sp1 sl1 sc1), (w1.heap.size, 2, .slice tp1 tl1 tc1)] : List (Nat × Nat × Value)).map (·.1)) ([] : List (Nat × List (Nat × Value))) := trivial
          have hne1 : AllNe (([] : List (Nat × List (Nat × Value))).map (·.1)) := trivial
          (try simp only [List.append_eq, List.cons_append, List.nil_append])
          refine wp_region_gen ⟨[82, 83, 84, 85, 86, 87, 88, 81, 89, 90, 14, 15], fun i => i == 10, fun i => ([none, none, none, none, none, none, none, none, none, none, none, some (.op 10, 8), none] : List (Option (BoxRef × Nat))).getD i none, fun i => ([Sg.val (.slice (some ⟨pb, po, none⟩) n cw), Sg.val (.int .i64 (j : Int)), Sg.val (.pointer (some ⟨pb, po + j, none⟩)), Sg.val (.int .i64 x), Sg.val (.pointer (some ⟨ts, 0, none⟩)), Sg.val (.int .i64 (M : Int)), Sg.two (Sg.ratO w.heap.size (shareQ W j)) (Sg.val (.int .i64 0)), Sg.two (Sg.ratO w.heap.size (shareQ W j)) (Sg.val (.int .i64 0)), Sg.ratO w.heap.size (shareQ W j), Sg.val (.int .i64 0), Sg.box 3 v2.heap.size, Sg.any, Sg.val (.int .i64 0)] : List Sg).getD i Sg.any, [(ts, 0, .slice tp (W : List Int).length tc), (sb, 0, .bool qb), (sb, 1, .slice qp qn qc), (sb, 2, .slice qp' qn' qc'), (w1.heap.size, 0, .bool sb1), (w1.heap.size, 1, .slice sp1 sl1 sc1), (w1.heap.size, 2, .slice tp1 tl1 tc1)], []⟩ w.heap.size (by kernel_rfl) (by kernel_rfl) e2_.size ?hfr hkeep1 hob1 hne1 ?hs ?he
          case hfr =>
            intro i v wk hi hst hv
            have : i = 10 := by simpa [or_assoc] using hi
            subst this; obtain ⟨s, rfl, -, hb⟩ := hv; exact hb.lt
          case hs =>
            refine ⟨?_, ?_, ?_, ?_, ?_, ?_, ?_, ?_, ?_, ?_, ?_, ?_, ?_, trivial⟩
            · refine RStep.op rfl rfl (fun ac wk hp K hK => ?_)
              have t0_ : ac.tmps[0]?.getD undef = .slice (some ⟨pb, po, none⟩) n cw := hp.slot 0 rfl rfl
              have HP := Lib.hid hp
              clear hp
              go_simp
              refine hK.out _ _ ?_ (Ext.refl _) (fun h => absurd h (by simp))
              exact rfl
            · refine RStep.op rfl rfl (fun ac wk hp K hK => ?_)
              have t11_ : ac.tmps[11]?.getD undef = .int .i64 (j : Int) := hp.slot 11 rfl rfl
              have HP := Lib.hid hp
              clear hp
              go_simp
              refine hK.out _ _ ?_ (Ext.refl _) (fun h => absurd h (by simp))
              exact rfl
            · refine RStep.op rfl rfl (fun ac wk hp K hK => ?_)
              have u0e := hp.get 0 (by decide +kernel) rfl
              have t82_ : ac.tmps[82]?.getD undef = .slice (some ⟨pb, po, none⟩) n cw := slot_is' u0e
              have u1e := hp.get 1 (by decide +kernel) rfl
              have t83_ : ac.tmps[83]?.getD undef = .int .i64 (j : Int) := slot_is' u1e
              have HP := Lib.hid hp
              clear hp
              go_simp
              refine hK.out _ _ ?_ (Ext.refl _) (fun h => absurd h (by simp))
              exact (by first | rfl | (apply congrArg Value.bool; simp; done) | (apply congrArg Value.bool; simp; omega) | (simp [*]; done))
            · refine RStep.op rfl rfl (fun ac wk hp K hK => ?_)
              have u2e := hp.get 2 (by decide +kernel) rfl
              have t84_ : ac.tmps[84]?.getD undef = .pointer (some ⟨pb, po + j, none⟩) := slot_is' u2e
              have HP := Lib.hid hp
              clear hp
              have cx := ((HCX.out.ext e2_).blw HP.out.blw HCX.out.2).1
              go_simp
              refine hK.out _ _ ?_ (Ext.refl _) (fun h => absurd h (by simp))
              exact (by first | rfl | (apply congrArg Value.bool; simp; done) | (apply congrArg Value.bool; simp; omega) | (simp [*]; done))
            · refine RStep.op rfl rfl (fun ac wk hp K hK => ?_)
              have t3_ : ac.tmps[3]?.getD undef = .pointer (some ⟨ts, 0, none⟩) := hp.slot 3 rfl rfl
              have HP := Lib.hid hp
              clear hp
              go_simp
              refine hK.out _ _ ?_ (Ext.refl _) (fun h => absurd h (by simp))
              exact rfl
            · refine RStep.op rfl rfl (fun ac wk hp K hK => ?_)
              have u4e := hp.get 4 (by decide +kernel) rfl
              have t86_ : ac.tmps[86]?.getD undef = .pointer (some ⟨ts, 0, none⟩) := slot_is' u4e
              have HP := Lib.hid hp
              clear hp
              go_simp
              refine (fsum_ext ⟨(HP.out.keep.at 0 rfl), (k100.out.gr ((x1.gr.trans y2.gr).trans HP.out.gr)), (up100.out.gr ((x1.gr.trans y2.gr).trans HP.out.gr)).1⟩ (errW_ok HE.out).1 (errW_ok HE.out).2.1 _ HM.out).mono ?_
              rintro e wk' ⟨rfl, ix⟩
              refine hK.out _ _ ?_ ix (fun h => absurd h (by simp))
              exact rfl
            · refine RStep.op rfl rfl (fun ac wk hp K hK => ?_)
              have u3e := hp.get 3 (by decide +kernel) rfl
              have t85_ : ac.tmps[85]?.getD undef = .int .i64 x := slot_is' u3e
              have u5e := hp.get 5 (by decide +kernel) rfl
              have t87_ : ac.tmps[87]?.getD undef = .int .i64 (M : Int) := slot_is' u5e
              have HP := Lib.hid hp
              clear hp
              go_simp
              refine (over_is (q := (shareQ W j)) _ x (M : Int) XR.out.1 XR.out.2 MR.out.1 MR.out.2 M0.out HQ.out).mono ?_
              rintro e wk' ⟨sb3, sv3, su3, sm3, sd3, rfl, e3, o3, ix⟩
              obtain ⟨sp3, sl3, sc3, tp3, tl3, tc3, rfl, rfl⟩ := e3.slice
              refine hK.out _ _ ?_ ix (fun h => absurd h (by simp))
              exact ⟨_, _, rfl, ⟨_, _, _, _, _, _, _, _, _, rfl, e3, (o3.mono (Nat.le_trans e2_.size HP.out.gr.size))⟩, rfl⟩
            · refine RStep.op rfl rfl (fun ac wk hp K hK => ?_)
              obtain ⟨_, _, u6e, ⟨u6xb, u6xp, u6xn, u6xc, u6xq, u6xk, u6xd, u6xm, u6xl, rfl, u6xi, u6xo⟩, rfl⟩ := hp.get 6 (by decide +kernel) rfl
              have t88_ : ac.tmps[88]?.getD undef = .tuple #[.agg #[.bool u6xb, .slice u6xp u6xn u6xc, .slice u6xq u6xk u6xd], .int .i64 0] := slot_is' u6e
              have HP := Lib.hid hp
              clear hp
              go_simp
              refine hK.out _ _ ?_ (Ext.refl _) (fun h => absurd h (by simp))
              exact ⟨_, _, rfl, ⟨_, _, _, _, _, _, _, _, _, rfl, u6xi, u6xo⟩, rfl⟩
            · refine RStep.op rfl rfl (fun ac wk hp K hK => ?_)
              obtain ⟨_, _, u7e, ⟨u7xb, u7xp, u7xn, u7xc, u7xq, u7xk, u7xd, u7xm, u7xl, rfl, u7xi, u7xo⟩, rfl⟩ := hp.get 7 (by decide +kernel) rfl
              have t81_ : ac.tmps[81]?.getD undef = .tuple #[.agg #[.bool u7xb, .slice u7xp u7xn u7xc, .slice u7xq u7xk u7xd], .int .i64 0] := slot_is' u7e
              have HP := Lib.hid hp
              clear hp
              go_simp
              refine hK.out _ _ ?_ (Ext.refl _) (fun h => absurd h (by simp))
              exact ⟨_, _, _, _, _, _, _, _, _, rfl, u7xi, u7xo⟩
            · refine RStep.op rfl rfl (fun ac wk hp K hK => ?_)
              obtain ⟨_, _, u7e, ⟨u7xb, u7xp, u7xn, u7xc, u7xq, u7xk, u7xd, u7xm, u7xl, rfl, u7xi, u7xo⟩, rfl⟩ := hp.get 7 (by decide +kernel) rfl
              have t81_ : ac.tmps[81]?.getD undef = .tuple #[.agg #[.bool u7xb, .slice u7xp u7xn u7xc, .slice u7xq u7xk u7xd], .int .i64 0] := slot_is' u7e
              have HP := Lib.hid hp
              clear hp
              go_simp
              refine hK.out _ _ ?_ (Ext.refl _) (fun h => absurd h (by simp))
              exact rfl
            · refine RStep.op rfl rfl (fun ac wk hp K hK => ?_)
              have hsz := hp.gr.size
              clear hp
              go_simp
              exact hK.out _ _ ⟨_, rfl, hsz, Bx.new 3 ⟨rfl, by decide⟩ (by decide) noI_s3⟩ ((Ext.refl _).alloc _) (fun _ => rfl)
            · refine RStep.st 10 8 rfl rfl (fun ac wk hp => ?_)
              obtain ⟨u10s, u10e, u10l, u10b⟩ := hp.get 10 (by decide +kernel) rfl
              have t14_ : ac.tmps[14]?.getD undef = .pointer (some ⟨u10s, 0, none⟩) := slot_is' u10e
              obtain ⟨u8b, u8p, u8n, u8c, u8q, u8k, u8d, u8m, u8l, u8e, u8i, u8o⟩ := hp.get 8 (by decide +kernel) rfl
              have t89_ : ac.tmps[89]?.getD undef = .agg #[.bool u8b, .slice u8p u8n u8c, .slice u8q u8k u8d] := slot_is' u8e
              obtain ⟨d0, hd0, -⟩ := Bx.cell u10b (o := 0) (by decide)
              have fz0 := Bx.free u10b 0
              obtain ⟨d1, hd1, -⟩ := Bx.cell u10b (o := 1) (by decide)
              have fz1 := Bx.free u10b 1
              obtain ⟨d2, hd2, -⟩ := Bx.cell u10b (o := 2) (by decide)
              have fz2 := Bx.free u10b 2
              refine ⟨u10s, 3, [.bool u8b, .slice u8p u8n u8c, .slice u8q u8k u8d], u10e, u10b, by rw [u8e]; rfl, rfl, noI_s3, fun K hK => ?_⟩
              have HK := Lib.hid hK
              clear hK hp
              go_simp
              exact HK.out
            · refine RStep.op rfl rfl (fun ac wk hp K hK => ?_)
              have u9e := hp.get 9 (by decide +kernel) rfl
              have t90_ : ac.tmps[90]?.getD undef = .int .i64 0 := slot_is' u9e
              have HP := Lib.hid hp
              clear hp
              go_simp
              refine hK.out _ _ ?_ (Ext.refl _) (fun h => absurd h (by simp))
              exact rfl
          case he =>
            intro ac v3 hM
            have y1_0e := hM.post 0 rfl rfl
            have y1_1e := hM.post 1 rfl rfl
            have y1_2e := hM.post 2 rfl rfl
            have y1_3e := hM.post 3 rfl rfl
            have y1_4e := hM.post 4 rfl rfl
            have y1_5e := hM.post 5 rfl rfl
            obtain ⟨_, _, y1_6e, ⟨y1_6xb, y1_6xp, y1_6xn, y1_6xc, y1_6xq, y1_6xk, y1_6xd, y1_6xm, y1_6xl, rfl, y1_6xi, y1_6xo⟩, rfl⟩ := hM.post 6 rfl rfl
            obtain ⟨_, _, y1_7e, ⟨y1_7xb, y1_7xp, y1_7xn, y1_7xc, y1_7xq, y1_7xk, y1_7xd, y1_7xm, y1_7xl, rfl, y1_7xi, y1_7xo⟩, rfl⟩ := hM.post 7 rfl rfl
            obtain ⟨y1_8b, y1_8p, y1_8n, y1_8c, y1_8q, y1_8k, y1_8d, y1_8m, y1_8l, y1_8e, y1_8i, y1_8o⟩ := hM.post 8 rfl rfl
            have y1_9e := hM.post 9 rfl rfl
            obtain ⟨y1_10s, y1_10e, y1_10l, y1_10b⟩ := hM.post 10 rfl rfl
            have l1 := Lib.hid y1_10l
            have k1 := Lib.hid y1_10b
            have u1 := Lib.hid (Bx.lt y1_10b)
            have y1_12e := hM.post 12 rfl rfl
            have b1_0 : Hid (At (y1_10s) 0 (.bool y1_8b) v3) := Lib.hid (hM.boxOp 11 10 8 rfl rfl y1_10e (cs := [.bool y1_8b, .slice y1_8p y1_8n y1_8c, .slice y1_8q y1_8k y1_8d]) (by rw [y1_8e]; rfl) 0 _ rfl)
            have b1_1 : Hid (At (y1_10s) 1 (.slice y1_8p y1_8n y1_8c) v3) := Lib.hid (hM.boxOp 11 10 8 rfl rfl y1_10e (cs := [.bool y1_8b, .slice y1_8p y1_8n y1_8c, .slice y1_8q y1_8k y1_8d]) (by rw [y1_8e]; rfl) 1 _ rfl)
            have b1_2 : Hid (At (y1_10s) 2 (.slice y1_8q y1_8k y1_8d) v3) := Lib.hid (hM.boxOp 11 10 8 rfl rfl y1_10e (cs := [.bool y1_8b, .slice y1_8p y1_8n y1_8c, .slice y1_8q y1_8k y1_8d]) (by rw [y1_8e]; rfl) 2 _ rfl)
            have b100_0 : Hid (At (ts) 0 (.slice tp (W : List Int).length tc) v3) := Lib.hid (hM.keep.at 0 rfl)
            have b102_0 : Hid (At (sb) 0 (.bool qb) v3) := Lib.hid (hM.keep.at 1 rfl)
            have b102_1 : Hid (At (sb) 1 (.slice qp qn qc) v3) := Lib.hid (hM.keep.at 2 rfl)
            have b102_2 : Hid (At (sb) 2 (.slice qp' qn' qc') v3) := Lib.hid (hM.keep.at 3 rfl)
            have b0_0 : Hid (At (w1.heap.size) 0 (.bool sb1) v3) := Lib.hid (hM.keep.at 4 rfl)
            have b0_1 : Hid (At (w1.heap.size) 1 (.slice sp1 sl1 sc1) v3) := Lib.hid (hM.keep.at 5 rfl)
            have b0_2 : Hid (At (w1.heap.size) 2 (.slice tp1 tl1 tc1) v3) := Lib.hid (hM.keep.at 6 rfl)
            have gv3 : Gr v2 v3 := hM.gr
            have e3_ : Ext w v3 := Ext.below e2_ hM.blw
            have z0_ : sl ac 82 = .slice (some ⟨pb, po, none⟩) n cw := y1_0e
            have z1_ : sl ac 83 = .int .i64 (j : Int) := y1_1e
            have z2_ : sl ac 84 = .pointer (some ⟨pb, po + j, none⟩) := y1_2e
            have z3_ : sl ac 85 = .int .i64 x := y1_3e
            have z4_ : sl ac 86 = .pointer (some ⟨ts, 0, none⟩) := y1_4e
            have z5_ : sl ac 87 = .int .i64 (M : Int) := y1_5e
            have z6_ : sl ac 88 = .tuple #[.agg #[.bool y1_6xb, .slice y1_6xp y1_6xn y1_6xc, .slice y1_6xq y1_6xk y1_6xd], .int .i64 0] := y1_6e
            have z7_ : sl ac 81 = .tuple #[.agg #[.bool y1_7xb, .slice y1_7xp y1_7xn y1_7xc, .slice y1_7xq y1_7xk y1_7xd], .int .i64 0] := y1_7e
            have z8_ : sl ac 89 = .agg #[.bool y1_8b, .slice y1_8p y1_8n y1_8c, .slice y1_8q y1_8k y1_8d] := y1_8e
            have z9_ : sl ac 90 = .int .i64 0 := y1_9e
            have z10_ : sl ac 14 = .pointer (some ⟨y1_10s, 0, none⟩) := y1_10e
            have z12_ : sl ac 15 = .int .i64 0 := y1_12e
            rw [hM.ag.lay]
            simp only [lay, List.foldl_cons, List.foldl_nil, List.setIfInBounds_toArray, List.set_cons_zero, List.set_cons_succ, z0_, z1_, z2_, z3_, z4_, z5_, z6_, z7_, z8_, z9_, z10_, z12_]
            clear hM hkeep1 hob1 hne1 z0_ z1_ z2_ z3_ z4_ z5_ z6_ z7_ z8_ z9_ z10_ z12_ y1_0e y1_1e y1_2e y1_3e y1_4e y1_5e y1_6e y1_7e y1_8e y1_9e y1_10e y1_12e
            go_wp2_with fail
            have hkeep2 : AllAt' ([(ts, 0, .slice tp (W : List Int).length tc), (sb, 0, .bool qb), (sb, 1, .slice qp qn qc), (sb, 2, .slice qp' qn' qc'), (w1.heap.size, 0, .bool sb1), (w1.heap.size, 1, .slice sp1 sl1 sc1), (w1.heap.size, 2, .slice tp1 tl1 tc1), (y1_10s, 0, .bool y1_8b), (y1_10s, 1, .slice y1_8p y1_8n y1_8c), (y1_10s, 2, .slice y1_8q y1_8k y1_8d)] : List (Nat × Nat × Value)) v3 := AllAt'.cons b100_0.out (AllAt'.cons b102_0.out (AllAt'.cons b102_1.out (AllAt'.cons b102_2.out (AllAt'.cons b0_0.out (AllAt'.cons b0_1.out (AllAt'.cons b0_2.out (AllAt'.cons b1_0.out (AllAt'.cons b1_1.out (AllAt'.cons b1_2.out (AllAt'.nil _))))))))))
            have hob2 : ObOk w.heap.size v3 (([(ts, 0, .slice tp (W : List Int).length tc), (sb, 0, .bool qb), (sb, 1, .slice qp qn qc), (sb, 2, .slice qp' qn' qc'), (w1.heap.size, 0, .bool sb1), (w1.heap.size, 1, .slice sp1 sl1 sc1), (w1.heap.size, 2, .slice tp1 tl1 tc1), (y1_10s, 0, .bool y1_8b), (y1_10s, 1, .slice y1_8p y1_8n y1_8c), (y1_10s, 2, .slice y1_8q y1_8k y1_8d)] : List (Nat × Nat × Value)).map (·.1)) ([] : List (Nat × List (Nat × Value))) := trivial
            have hne2 : AllNe (([] : List (Nat × List (Nat × Value))).map (·.1)) := trivial
            (try simp only [List.append_eq, List.cons_append, List.nil_append])
            refine wp_region_gen ⟨[91, 92, 93, 94, 95, 96, 97, 98, 99, 100, 101, 102, 103, 104, 105, 106, 107, 108, 109, 110, 111, 112, 113], fun i => false, fun i => ([none, none, none, none, none, none, none, none, none, none, none, none, none, none, none, none, none, none, none, none, none, none, none] : List (Option (BoxRef × Nat))).getD i none, fun i => ([Sg.val (.slice (some ⟨g, 0, none⟩) n n), Sg.val (.int .i64 (j : Int)), Sg.val (.pointer (some ⟨g, j, none⟩)), Sg.val (.int .i64 x), Sg.val (.slice (some ⟨pb, po, none⟩) n cw), Sg.val (.int .i64 (j : Int)), Sg.val (.pointer (some ⟨pb, po + j, none⟩)), Sg.val (.int .i64 x), Sg.val (.bool false), Sg.val (.bool false), Sg.val (.int .i64 0), Sg.val (.bool false), Sg.val (.bool false), Sg.val (.bool false), Sg.val (.int .i64 0), Sg.val (.bool false), Sg.val (.bool false), Sg.val (.bool false), Sg.ratO w.heap.size (shareQ W j), Sg.ratO w.heap.size (shareQ W j), Sg.val (.bool true), Sg.val (.bool false), Sg.val (.bool false)] : List Sg).getD i Sg.any, [(ts, 0, .slice tp (W : List Int).length tc), (sb, 0, .bool qb), (sb, 1, .slice qp qn qc), (sb, 2, .slice qp' qn' qc'), (w1.heap.size, 0, .bool sb1), (w1.heap.size, 1, .slice sp1 sl1 sc1), (w1.heap.size, 2, .slice tp1 tl1 tc1), (y1_10s, 0, .bool y1_8b), (y1_10s, 1, .slice y1_8p y1_8n y1_8c), (y1_10s, 2, .slice y1_8q y1_8k y1_8d)], []⟩ w.heap.size (by kernel_rfl) (by kernel_rfl) e3_.size ?hfr hkeep2 hob2 hne2 ?hs ?he
            case hfr =>
              intro i v wk hi hst hv
              exact absurd hi (by simp)
            case hs =>
              refine ⟨?_, ?_, ?_, ?_, ?_, ?_, ?_, ?_, ?_, ?_, ?_, ?_, ?_, ?_, ?_, ?_, ?_, ?_, ?_, ?_, ?_, ?_, ?_, trivial⟩
              · refine RStep.op rfl rfl (fun ac wk hp K hK => ?_)
                have t5_ : ac.tmps[5]?.getD undef = .slice (some ⟨g, 0, none⟩) n n := hp.slot 5 rfl rfl
                have HP := Lib.hid hp
                clear hp
                go_simp
                refine hK.out _ _ ?_ (Ext.refl _) (fun h => absurd h (by simp))
                exact rfl
              · refine RStep.op rfl rfl (fun ac wk hp K hK => ?_)
                have t11_ : ac.tmps[11]?.getD undef = .int .i64 (j : Int) := hp.slot 11 rfl rfl
                have HP := Lib.hid hp
                clear hp
                go_simp
                refine hK.out _ _ ?_ (Ext.refl _) (fun h => absurd h (by simp))
                exact rfl
              · refine RStep.op rfl rfl (fun ac wk hp K hK => ?_)
                have u0e := hp.get 0 (by decide +kernel) rfl
                have t91_ : ac.tmps[91]?.getD undef = .slice (some ⟨g, 0, none⟩) n n := slot_is' u0e
                have u1e := hp.get 1 (by decide +kernel) rfl
                have t92_ : ac.tmps[92]?.getD undef = .int .i64 (j : Int) := slot_is' u1e
                have HP := Lib.hid hp
                clear hp
                go_simp
                refine hK.out _ _ ?_ (Ext.refl _) (fun h => absurd h (by simp))
                exact (by first | rfl | (apply congrArg Value.bool; simp; done) | (apply congrArg Value.bool; simp; omega) | (simp [*]; done))
              · refine RStep.op rfl rfl (fun ac wk hp K hK => ?_)
                have u2e := hp.get 2 (by decide +kernel) rfl
                have t93_ : ac.tmps[93]?.getD undef = .pointer (some ⟨g, j, none⟩) := slot_is' u2e
                have HP := Lib.hid hp
                clear hp
                have ch := (((RZ.out.gr ((x1.gr.trans (y2.gr.trans gv3)).trans HP.out.gr))).1.cell (j := j) (by rw [hitL_length]; exact HJ.out))
                rw [HHX.out] at ch
                go_simp
                refine hK.out _ _ ?_ (Ext.refl _) (fun h => absurd h (by simp))
                exact (by first | rfl | (apply congrArg Value.bool; simp; done) | (apply congrArg Value.bool; simp; omega) | (simp [*]; done))
              · refine RStep.op rfl rfl (fun ac wk hp K hK => ?_)
                have t0_ : ac.tmps[0]?.getD undef = .slice (some ⟨pb, po, none⟩) n cw := hp.slot 0 rfl rfl
                have HP := Lib.hid hp
                clear hp
                go_simp
                refine hK.out _ _ ?_ (Ext.refl _) (fun h => absurd h (by simp))
                exact rfl
              · refine RStep.op rfl rfl (fun ac wk hp K hK => ?_)
                have t11_ : ac.tmps[11]?.getD undef = .int .i64 (j : Int) := hp.slot 11 rfl rfl
                have HP := Lib.hid hp
                clear hp
                go_simp
                refine hK.out _ _ ?_ (Ext.refl _) (fun h => absurd h (by simp))
                exact rfl
              · refine RStep.op rfl rfl (fun ac wk hp K hK => ?_)
                have u4e := hp.get 4 (by decide +kernel) rfl
                have t95_ : ac.tmps[95]?.getD undef = .slice (some ⟨pb, po, none⟩) n cw := slot_is' u4e
                have u5e := hp.get 5 (by decide +kernel) rfl
                have t96_ : ac.tmps[96]?.getD undef = .int .i64 (j : Int) := slot_is' u5e
                have HP := Lib.hid hp
                clear hp
                go_simp
                refine hK.out _ _ ?_ (Ext.refl _) (fun h => absurd h (by simp))
                exact (by first | rfl | (apply congrArg Value.bool; simp; done) | (apply congrArg Value.bool; simp; omega) | (simp [*]; done))
              · refine RStep.op rfl rfl (fun ac wk hp K hK => ?_)
                have u6e := hp.get 6 (by decide +kernel) rfl
                have t97_ : ac.tmps[97]?.getD undef = .pointer (some ⟨pb, po + j, none⟩) := slot_is' u6e
                have HP := Lib.hid hp
                clear hp
                have cx := ((HCX.out.ext e3_).blw HP.out.blw HCX.out.2).1
                go_simp
                refine hK.out _ _ ?_ (Ext.refl _) (fun h => absurd h (by simp))
                exact (by first | rfl | (apply congrArg Value.bool; simp; done) | (apply congrArg Value.bool; simp; omega) | (simp [*]; done))
              · refine RStep.op rfl rfl (fun ac wk hp K hK => ?_)
                have u3e := hp.get 3 (by decide +kernel) rfl
                have t94_ : ac.tmps[94]?.getD undef = .int .i64 x := slot_is' u3e
                have u7e := hp.get 7 (by decide +kernel) rfl
                have t98_ : ac.tmps[98]?.getD undef = .int .i64 x := slot_is' u7e
                have HP := Lib.hid hp
                clear hp
                go_simp
                refine hK.out _ _ ?_ (Ext.refl _) (fun h => absurd h (by simp))
                exact rfl
              · refine RStep.op rfl rfl (fun ac wk hp K hK => ?_)
                have u8e := hp.get 8 (by decide +kernel) rfl
                have t99_ : ac.tmps[99]?.getD undef = .bool false := slot_is' u8e
                have HP := Lib.hid hp
                clear hp
                go_simp
                refine hK.out _ _ ?_ (Ext.refl _) (fun h => absurd h (by simp))
                exact rfl
              · refine RStep.yes 9 false rfl rfl (by decide +kernel) rfl rfl (fun ac wk hp K hK => ?_)
                have t13_ : ac.tmps[13]?.getD undef = .int .i64 0 := hp.slot 13 rfl rfl
                have HP := Lib.hid hp
                clear hp
                go_simp
                refine hK.out _ _ ?_ (Ext.refl _) (fun h => absurd h (by simp))
                exact rfl
              · refine RStep.yes 9 false rfl rfl (by decide +kernel) rfl rfl (fun ac wk hp K hK => ?_)
                have u10e := hp.get 10 (by decide +kernel) rfl
                have t101_ : ac.tmps[101]?.getD undef = .int .i64 0 := slot_is' u10e
                have HP := Lib.hid hp
                clear hp
                go_simp
                refine hK.out _ _ ?_ (Ext.refl _) (fun h => absurd h (by simp))
                exact rfl
              · refine RStep.op rfl rfl (fun ac wk hp K hK => ?_)
                have u9e := hp.get 9 (by decide +kernel) rfl
                have t100_ : ac.tmps[100]?.getD undef = .bool false := slot_is' u9e
                have u11e := hp.get 11 (by decide +kernel) rfl
                have t102_ : ac.tmps[102]?.getD undef = .bool false := slot_is' u11e
                have HP := Lib.hid hp
                clear hp
                go_simp
                refine hK.out _ _ ?_ (Ext.refl _) (fun h => absurd h (by simp))
                exact rfl
              · refine RStep.op rfl rfl (fun ac wk hp K hK => ?_)
                have u12e := hp.get 12 (by decide +kernel) rfl
                have t103_ : ac.tmps[103]?.getD undef = .bool false := slot_is' u12e
                have HP := Lib.hid hp
                clear hp
                go_simp
                refine hK.out _ _ ?_ (Ext.refl _) (fun h => absurd h (by simp))
                exact rfl
              · refine RStep.yes 13 false rfl rfl (by decide +kernel) rfl rfl (fun ac wk hp K hK => ?_)
                have t15_ : ac.tmps[15]?.getD undef = .int .i64 0 := hp.slot 15 rfl rfl
                have HP := Lib.hid hp
                clear hp
                go_simp
                refine hK.out _ _ ?_ (Ext.refl _) (fun h => absurd h (by simp))
                exact rfl
              · refine RStep.yes 13 false rfl rfl (by decide +kernel) rfl rfl (fun ac wk hp K hK => ?_)
                have u14e := hp.get 14 (by decide +kernel) rfl
                have t105_ : ac.tmps[105]?.getD undef = .int .i64 0 := slot_is' u14e
                have HP := Lib.hid hp
                clear hp
                go_simp
                refine hK.out _ _ ?_ (Ext.refl _) (fun h => absurd h (by simp))
                exact rfl
              · refine RStep.op rfl rfl (fun ac wk hp K hK => ?_)
                have u13e := hp.get 13 (by decide +kernel) rfl
                have t104_ : ac.tmps[104]?.getD undef = .bool false := slot_is' u13e
                have u15e := hp.get 15 (by decide +kernel) rfl
                have t106_ : ac.tmps[106]?.getD undef = .bool false := slot_is' u15e
                have HP := Lib.hid hp
                clear hp
                go_simp
                refine hK.out _ _ ?_ (Ext.refl _) (fun h => absurd h (by simp))
                exact rfl
              · refine RStep.op rfl rfl (fun ac wk hp K hK => ?_)
                have u16e := hp.get 16 (by decide +kernel) rfl
                have t107_ : ac.tmps[107]?.getD undef = .bool false := slot_is' u16e
                have HP := Lib.hid hp
                clear hp
                go_simp
                refine hK.out _ _ ?_ (Ext.refl _) (fun h => absurd h (by simp))
                exact rfl
              · refine RStep.yes 17 false rfl rfl (by decide +kernel) rfl rfl (fun ac wk hp K hK => ?_)
                have t12_ : ac.tmps[12]?.getD undef = .pointer (some ⟨w1.heap.size, 0, none⟩) := hp.slot 12 rfl rfl
                have c0_ := hp.cell 4 rfl
                have c1_ := hp.cell 5 rfl
                have c2_ := hp.cell 6 rfl
                have HP := Lib.hid hp
                clear hp
                go_simp
                refine hK.out _ _ ?_ (Ext.refl _) (fun h => absurd h (by simp))
                exact ⟨_, _, _, _, _, _, _, _, _, rfl, (e1.gr ((y2.gr.trans gv3).trans HP.out.gr)), ((o1.gr ((y2.gr.trans gv3).trans HP.out.gr)).mono XX.out.size)⟩
              · refine RStep.yes 17 false rfl rfl (by decide +kernel) rfl rfl (fun ac wk hp K hK => ?_)
                have t14_ : ac.tmps[14]?.getD undef = .pointer (some ⟨y1_10s, 0, none⟩) := hp.slot 14 rfl rfl
                have c0_ := hp.cell 7 rfl
                have c1_ := hp.cell 8 rfl
                have c2_ := hp.cell 9 rfl
                have HP := Lib.hid hp
                clear hp
                go_simp
                refine hK.out _ _ ?_ (Ext.refl _) (fun h => absurd h (by simp))
                exact ⟨_, _, _, _, _, _, _, _, _, rfl, (y1_8i.gr HP.out.gr), (y1_8o.gr HP.out.gr)⟩
              · refine RStep.yes 17 false rfl rfl (by decide +kernel) rfl rfl (fun ac wk hp K hK => ?_)
                obtain ⟨u18b, u18p, u18n, u18c, u18q, u18k, u18d, u18m, u18l, u18e, u18i, u18o⟩ := hp.get 18 (by decide +kernel) rfl
                have t109_ : ac.tmps[109]?.getD undef = .agg #[.bool u18b, .slice u18p u18n u18c, .slice u18q u18k u18d] := slot_is' u18e
                obtain ⟨u19b, u19p, u19n, u19c, u19q, u19k, u19d, u19m, u19l, u19e, u19i, u19o⟩ := hp.get 19 (by decide +kernel) rfl
                have t110_ : ac.tmps[110]?.getD undef = .agg #[.bool u19b, .slice u19p u19n u19c, .slice u19q u19k u19d] := slot_is' u19e
                have HP := Lib.hid hp
                clear hp
                go_simp
                refine (rsame_calls (u18i.inR (k := 1) (shareQ_len HE.out _)) (u19i.inR (k := 1) (shareQ_len HE.out _)) (by decide) true (decide_eq_true rfl)).mono ?_
                rintro e wk' ⟨rfl, ix⟩
                refine hK.out _ _ ?_ ix (fun h => absurd h (by simp))
                exact rfl
              · refine RStep.yes 17 false rfl rfl (by decide +kernel) rfl rfl (fun ac wk hp K hK => ?_)
                have u20e := hp.get 20 (by decide +kernel) rfl
                have t111_ : ac.tmps[111]?.getD undef = .bool true := slot_is' u20e
                have HP := Lib.hid hp
                clear hp
                go_simp
                refine hK.out _ _ ?_ (Ext.refl _) (fun h => absurd h (by simp))
                exact rfl
              · refine RStep.op rfl rfl (fun ac wk hp K hK => ?_)
                have u17e := hp.get 17 (by decide +kernel) rfl
                have t108_ : ac.tmps[108]?.getD undef = .bool false := slot_is' u17e
                have u21e := hp.get 21 (by decide +kernel) rfl
                have t112_ : ac.tmps[112]?.getD undef = .bool false := slot_is' u21e
                have HP := Lib.hid hp
                clear hp
                go_simp
                refine hK.out _ _ ?_ (Ext.refl _) (fun h => absurd h (by simp))
                exact rfl
            case he =>
              intro ac v4 hM
              have y2_0e := hM.post 0 rfl rfl
              have y2_1e := hM.post 1 rfl rfl
              have y2_2e := hM.post 2 rfl rfl
              have y2_3e := hM.post 3 rfl rfl
              have y2_4e := hM.post 4 rfl rfl
              have y2_5e := hM.post 5 rfl rfl
              have y2_6e := hM.post 6 rfl rfl
              have y2_7e := hM.post 7 rfl rfl
              have y2_8e := hM.post 8 rfl rfl
              have y2_9e := hM.post 9 rfl rfl
              have y2_10e := hM.post 10 rfl rfl
              have y2_11e := hM.post 11 rfl rfl
              have y2_12e := hM.post 12 rfl rfl
              have y2_13e := hM.post 13 rfl rfl
              have y2_14e := hM.post 14 rfl rfl
              have y2_15e := hM.post 15 rfl rfl
              have y2_16e := hM.post 16 rfl rfl
              have y2_17e := hM.post 17 rfl rfl
              obtain ⟨y2_18b, y2_18p, y2_18n, y2_18c, y2_18q, y2_18k, y2_18d, y2_18m, y2_18l, y2_18e, y2_18i, y2_18o⟩ := hM.post 18 rfl rfl
              obtain ⟨y2_19b, y2_19p, y2_19n, y2_19c, y2_19q, y2_19k, y2_19d, y2_19m, y2_19l, y2_19e, y2_19i, y2_19o⟩ := hM.post 19 rfl rfl
              have y2_20e := hM.post 20 rfl rfl
              have y2_21e := hM.post 21 rfl rfl
              have y2_22e := hM.post 22 rfl rfl
              have b100_0 : Hid (At (ts) 0 (.slice tp (W : List Int).length tc) v4) := Lib.hid (hM.keep.at 0 rfl)
              have b102_0 : Hid (At (sb) 0 (.bool qb) v4) := Lib.hid (hM.keep.at 1 rfl)
              have b102_1 : Hid (At (sb) 1 (.slice qp qn qc) v4) := Lib.hid (hM.keep.at 2 rfl)
              have b102_2 : Hid (At (sb) 2 (.slice qp' qn' qc') v4) := Lib.hid (hM.keep.at 3 rfl)
              have b0_0 : Hid (At (w1.heap.size) 0 (.bool sb1) v4) := Lib.hid (hM.keep.at 4 rfl)
              have b0_1 : Hid (At (w1.heap.size) 1 (.slice sp1 sl1 sc1) v4) := Lib.hid (hM.keep.at 5 rfl)
              have b0_2 : Hid (At (w1.heap.size) 2 (.slice tp1 tl1 tc1) v4) := Lib.hid (hM.keep.at 6 rfl)
              have b1_0 : Hid (At (y1_10s) 0 (.bool y1_8b) v4) := Lib.hid (hM.keep.at 7 rfl)
              have b1_1 : Hid (At (y1_10s) 1 (.slice y1_8p y1_8n y1_8c) v4) := Lib.hid (hM.keep.at 8 rfl)
              have b1_2 : Hid (At (y1_10s) 2 (.slice y1_8q y1_8k y1_8d) v4) := Lib.hid (hM.keep.at 9 rfl)
              have gv4 : Gr v3 v4 := hM.gr
              have e4_ : Ext w v4 := Ext.below e3_ hM.blw
              have z0_ : sl ac 91 = .slice (some ⟨g, 0, none⟩) n n := y2_0e
              have z1_ : sl ac 92 = .int .i64 (j : Int) := y2_1e
              have z2_ : sl ac 93 = .pointer (some ⟨g, j, none⟩) := y2_2e
              have z3_ : sl ac 94 = .int .i64 x := y2_3e
              have z4_ : sl ac 95 = .slice (some ⟨pb, po, none⟩) n cw := y2_4e
              have z5_ : sl ac 96 = .int .i64 (j : Int) := y2_5e
              have z6_ : sl ac 97 = .pointer (some ⟨pb, po + j, none⟩) := y2_6e
              have z7_ : sl ac 98 = .int .i64 x := y2_7e
              have z8_ : sl ac 99 = .bool false := y2_8e
              have z9_ : sl ac 100 = .bool false := y2_9e
              have z10_ : sl ac 101 = .int .i64 0 := y2_10e
              have z11_ : sl ac 102 = .bool false := y2_11e
              have z12_ : sl ac 103 = .bool false := y2_12e
              have z13_ : sl ac 104 = .bool false := y2_13e
              have z14_ : sl ac 105 = .int .i64 0 := y2_14e
              have z15_ : sl ac 106 = .bool false := y2_15e
              have z16_ : sl ac 107 = .bool false := y2_16e
              have z17_ : sl ac 108 = .bool false := y2_17e
              have z18_ : sl ac 109 = .agg #[.bool y2_18b, .slice y2_18p y2_18n y2_18c, .slice y2_18q y2_18k y2_18d] := y2_18e
              have z19_ : sl ac 110 = .agg #[.bool y2_19b, .slice y2_19p y2_19n y2_19c, .slice y2_19q y2_19k y2_19d] := y2_19e
              have z20_ : sl ac 111 = .bool true := y2_20e
              have z21_ : sl ac 112 = .bool false := y2_21e
              have z22_ : sl ac 113 = .bool false := y2_22e
              rw [hM.ag.lay]
              simp only [lay, List.foldl_cons, List.foldl_nil, List.setIfInBounds_toArray, List.set_cons_zero, List.set_cons_succ, z0_, z1_, z2_, z3_, z4_, z5_, z6_, z7_, z8_, z9_, z10_, z11_, z12_, z13_, z14_, z15_, z16_, z17_, z18_, z19_, z20_, z21_, z22_]
              clear hM hkeep2 hob2 hne2 z0_ z1_ z2_ z3_ z4_ z5_ z6_ z7_ z8_ z9_ z10_ z11_ z12_ z13_ z14_ z15_ z16_ z17_ z18_ z19_ z20_ z21_ z22_ y2_0e y2_1e y2_2e y2_3e y2_4e y2_5e y2_6e y2_7e y2_8e y2_9e y2_10e y2_11e y2_12e y2_13e y2_14e y2_15e y2_16e y2_17e y2_18e y2_19e y2_20e y2_21e y2_22e
              have g102_0 := b102_0.out.1
              have g102_1 := b102_1.out.1
              have g102_2 := b102_2.out.1
              have g0_0 := b0_0.out.1
              have g0_1 := b0_1.out.1
              have g0_2 := b0_2.out.1
              have f102 : sb < v4.heap.size := b102_0.out.2
              have f0 : w1.heap.size < v4.heap.size := b0_0.out.2
              go_wp2_with fail
              refine (radd_is ((QR.out.gr (x1.gr.trans (y2.gr.trans (gv3.trans gv4)))).inR (k := 1) (partQ_len HE.out _)) ((e1.gr (y2.gr.trans (gv3.trans gv4))).inR (k := 1) (shareQ_len HE.out _)) (by decide)).mono ?_
              rintro e w5 ⟨sb5, sv5, su5, sm5, sd5, rfl, e5, o5, x5⟩
              have e5_ : Ext w w5 := Ext.trans e4_ x5
              obtain ⟨sp5, sl5, sc5, tp5, tl5, tc5, rfl, rfl⟩ := e5.slice
              clear g102_0 g102_1 g102_2 g0_0 g0_1 g0_2 f102 f0
              have g102_0 := (b102_0.out.ext x5).1
              have g102_1 := (b102_1.out.ext x5).1
              have g102_2 := (b102_2.out.ext x5).1
              have z102_0 := (k102.out.gr (x1.gr.trans (y2.gr.trans (gv3.trans (gv4.trans x5.gr))))).free 0
              have z102_1 := (k102.out.gr (x1.gr.trans (y2.gr.trans (gv3.trans (gv4.trans x5.gr))))).free 1
              have z102_2 := (k102.out.gr (x1.gr.trans (y2.gr.trans (gv3.trans (gv4.trans x5.gr))))).free 2
              have f102 : sb < w5.heap.size := (b102_0.out.ext x5).2
              go_wp2_with fail
              obtain ⟨v6, hv6⟩ : ∃ W, W = (((w5.setCell ⟨sb, 0, none⟩ (.bool sb5)).setCell ⟨sb, 1, none⟩ (.slice sp5 sl5 sc5)).setCell ⟨sb, 2, none⟩ (.slice tp5 tl5 tc5)) := ⟨_, rfl⟩
              have sv6 : v6 = setRow (sb) 0 [.bool sb5, .slice sp5 sl5 sc5, .slice tp5 tl5 tc5] w5 := hv6
              have uv6 := setRow_bx' (o := 0) (cs := [.bool sb5, .slice sp5 sl5 sc5, .slice tp5 tl5 tc5]) (k102.out.gr (x1.gr.trans (y2.gr.trans (gv3.trans (gv4.trans x5.gr))))) (by simp) noI_s3
              have y6 : Gr w5 v6 := by rw [sv6]; exact setRow_gr' (o := 0) (cs := [.bool sb5, .slice sp5 sl5 sc5, .slice tp5 tl5 tc5]) (k102.out.gr (x1.gr.trans (y2.gr.trans (gv3.trans (gv4.trans x5.gr))))) (by simp) noI_s3
              have t6 : Hid (∀ t o u, t ≠ (sb) → At t o u w5 → At t o u v6) := fun t o u h k => by rw [sv6]; exact k.setRow h _ _
              have e6_ : Ext w v6 := by rw [sv6]; exact setRow_below _ _ LB.out _ _ e5_
              have b102_0 : Hid (At (sb) 0 (.bool sb5) v6) := by rw [sv6]; exact uv6.2.1 0 _ rfl
              have b102_1 : Hid (At (sb) 1 (.slice sp5 sl5 sc5) v6) := by rw [sv6]; exact uv6.2.1 1 _ rfl
              have b102_2 : Hid (At (sb) 2 (.slice tp5 tl5 tc5) v6) := by rw [sv6]; exact uv6.2.1 2 _ rfl
              have k102 : Hid (Bx 3 (sb) v6) := by rw [sv6]; exact uv6.1
              rw [← hv6]
              clear hv6 sv6 uv6
              refine ⟨⟨j + 1, by go_num, by omega, e6_, ⟨(t6.out _ _ _ NEB.out (b100_0.out.ext x5)), (k100.out.gr (x1.gr.trans (y2.gr.trans (gv3.trans (gv4.trans (x5.gr.trans y6)))))), (up100.out.gr (x1.gr.trans (y2.gr.trans (gv3.trans (gv4.trans (x5.gr.trans y6)))))).1⟩, (RZ.out.gr (x1.gr.trans (y2.gr.trans (gv3.trans (gv4.trans (x5.gr.trans y6)))))), ?_⟩, by simp [intOf]; omega⟩
              rw [← partQ_next HE.out j]
              exact BoxR.mk b102_0.out b102_1.out b102_2.out k102.out (e5.gr y6)
        · obtain rfl : j = n := by omega
          have PA : Hid (partQ W j = 1) := by show _ = _; have := partQ_all HE.out; rwa [HN.out] at this
          have g102_0 := b102_0.out.1
          have g102_1 := b102_1.out.1
          have g102_2 := b102_2.out.1
          have f102 : sb < wr.heap.size := b102_0.out.2
          go_wp2_with fail
          refine (rshow_is (QR.out.inR (k := 1) (partQ_len HE.out _)) (by decide) ⟨#[49]⟩ (by rw [PA.out]; exact showR_of (by decide +kernel) (by decide +kernel))).mono ?_
          rintro e w1 ⟨rfl, x1⟩
          have e1_ : Ext w w1 := Ext.trans XX.out x1
          clear g102_0 g102_1 g102_2 f102
          go_wp2_with fail
          go_ret
          exact ⟨rfl, e1_⟩

theorem freqShares_calls {w : World} {v : Value} {W : List Int} (hW : Ints w v W) : Calls Tryz.prog 5 #[v] w (Yes w) := by
  by_cases hE : errW W = 0
  · obtain ⟨M, hM, -, -⟩ := psum_nat hE
    rcases Nat.lt_or_ge 3000 M with h | h
    · exact freqShares_big hW hE M hM h
    · exact freqShares_main hW hE M hM h
  · exact freqShares_no hW hE
end Go.Proofs.YtkfioaoooodmnaaGreatDoor
