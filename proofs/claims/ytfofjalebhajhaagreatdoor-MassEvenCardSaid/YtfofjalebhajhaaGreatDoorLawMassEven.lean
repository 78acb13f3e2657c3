/- MassEven answers true. -/
import Derived.Test.YtfofjalebhajhaaGreatDoorAwake24
import Derived.Test.YtfofjalebhajhaaGreatDoorMass19
namespace Go.Proofs.YtfofjalebhajhaaGreatDoor
open Go Go.RowKit

/-- how many are equal to v -/
def cnt (v : VT) : List VT → Nat
  | [] => 0
  | a :: l => (if cmpV v a = 0 then 1 else 0) + cnt v l
theorem cnt_app (v : VT) : ∀ l m : List VT, cnt v (l ++ m) = cnt v l + cnt v m
  | [], m => by simp [cnt]
  | a :: l, m => by have := cnt_app v l m; simp only [List.cons_append, cnt]; omega
theorem cnt_le (v : VT) : ∀ l : List VT, cnt v l ≤ l.length
  | [] => Nat.le_refl _
  | a :: l => by
    have := cnt_le v l; simp only [cnt, List.length_cons]
    split <;> omega
theorem cnt_take (v : VT) {l : List VT} {i : Nat} {a : VT} (h : l[i]? = some a) : cnt v (l.take (i + 1)) = cnt v (l.take i) + (if cmpV v a = 0 then 1 else 0) := by
  rw [List.take_add_one, h, cnt_app]; simp only [Option.toList, cnt]; omega
theorem even_at (v : VT) (r : Rat) : ∀ l : List VT, atV (l.map fun t => ((t, r) : Pt)) v = (cnt v l : Rat) * r
  | [] => by simp [atV, sumW, cnt, Rat.zero_mul]
  | a :: l => by
    have ih := even_at v r l; unfold atV at ih ⊢; rw [List.map_cons, sumW, ih, cnt, isV]; have hsw := cmpV_swap a v
    by_cases h : cmpV v a = 0
    · have h2 : cmpV a v = 0 := by omega
      rw [if_pos h2, if_pos h, Rat.natCast_add]
      grind
    · have h2 : ¬ cmpV a v = 0 := by omega
      rw [if_neg h2, if_neg h, Nat.zero_add, Rat.zero_mul, Rat.zero_add]
theorem even_tot (r : Rat) : ∀ l : List VT, totV (l.map fun t => ((t, r) : Pt)) = (l.length : Rat) * r
  | [] => by simp [totV, sumW, Rat.zero_mul]
  | a :: l => by
    have ih := even_tot r l; rw [List.map_cons, totV_cons, ih, List.length_cons, Rat.natCast_add]
    grind
theorem even_pos {n : Nat} (h : n ≠ 0) : (0 : Rat) < Rat.divInt 1 (n : Int) := by
  rw [Rat.divInt_ofNat, Rat.mkRat_eq_div]
  have : (0 : Rat) < (n : Rat) := by
    have : ((0 : Nat) : Rat) < (n : Rat) := Rat.natCast_lt_natCast.2 (by omega)
    simpa using this
  exact (Rat.lt_div_iff this).2 (by rw [Rat.zero_mul]; decide +kernel)
theorem even_mul {n c : Nat} (h : n ≠ 0) : (c : Rat) * Rat.divInt 1 (n : Int) = Rat.divInt (c : Int) (n : Int) := by
  rw [Rat.divInt_ofNat, Rat.divInt_ofNat, Rat.mkRat_eq_div, Rat.mkRat_eq_div]
  have : (n : Rat) ≠ 0 := by intro h2; exact h (Rat.natCast_eq_zero_iff.1 h2)
  rw [Rat.intCast_natCast]
  grind

set_option maxHeartbeats 8000000 in
set_option maxRecDepth 100000 in
theorem massEven_calls {w : World} {v : Value} {Ts : List VT} (h : SlV w v Ts) : Calls Tryz.prog 3 #[v] w (Yes w) := by
  have HSL := Lib.hid h
  obtain ⟨lg, hlg⟩ : ∃ b, decide (6000 ≤ wgs Ts 0 6000) = b := ⟨_, rfl⟩
  have HLG := Lib.hid hlg
  have HLO : Hid (∀ X, Ext w X → Calls Tryz.prog 7 #[v] X fun z w' => z = .returned (.bool lg) ∧ Ext X w') := fun X hX => long14_calls (h.ext hX) lg hlg
  obtain ⟨C, hC, hl, hv⟩ := h
  obtain ⟨n, hn⟩ : ∃ n, Ts.length = n := ⟨_, rfl⟩
  obtain ⟨p, c, rfl, h1, h2, h3, h4⟩ := hC; have H4 := Lib.hid h4; have HV := Lib.hid hv; have HL := Lib.hid hn
  have HCL : Hid (C.length = n) := by show _ = _; rw [hl, hn]
  rw [HCL.out] at HLO HSL ⊢; clear h1 h2 h3 h4 hl hv hn hlg
  by_cases h40 : 40 < n
  · have h40i : (40 : Int) < (n : Int) := by omega
    have h40d : decide ((n : Int) > 40) = true := decide_eq_true (by omega); clear h40
    go_enter Tryz.func3, Tryz.ntmps3
    go_wp2_with fail; refine (awake24_calls _).mono ?_; rintro z w1 ⟨rfl, x1⟩; have X1 := Lib.hid x1; clear x1; go_wp2_with fail; go_ret; exact ⟨rfl, X1.out⟩
  have h40i : ¬ (40 : Int) < (n : Int) := by omega
  have h40d : decide ((n : Int) > 40) = false := decide_eq_false (by omega); have H40 : Hid (n ≤ 40) := Nat.le_of_not_lt h40; clear h40
  cases lg
  case true =>
    go_enter Tryz.func3, Tryz.ntmps3
    go_wp2_with fail; refine (HLO.out _ (Ext.refl _)).mono ?_; rintro z w1 ⟨rfl, x1⟩; have X1 := Lib.hid x1; clear x1; go_wp2_with fail; refine (awake24_calls _).mono ?_; rintro z w2 ⟨rfl, x2⟩; have X2 := Lib.hid (X1.out.trans x2); clear x2; go_wp2_with fail; go_ret; exact ⟨rfl, X2.out⟩
  have HSZ := Lib.hid (long14_sz HLG.out)
  go_enter Tryz.func3, Tryz.ntmps3
  go_wp2_with fail; refine (HLO.out _ (Ext.refl _)).mono ?_; rintro z w1 ⟨rfl, x1⟩; have X1 := Lib.hid x1; clear x1; go_wp2_with fail; refine (awake24_calls _).mono ?_; rintro z w2 ⟨rfl, x2⟩; have X2 := Lib.hid (X1.out.trans x2); clear x2; go_wp2_with fail; refine (even_calls (HSL.out.ext X2.out) (by rw [HL.out]; have := H40.out; omega) (fun t ht => Nat.le_trans (HSZ.out t ht) (by decide))).mono ?_; rintro z w3 ⟨vm, out, rfl, hg, hs, x3⟩; rw [HL.out] at hg; have HG := Lib.hid hg; have HS := Lib.hid hs; have X3 := Lib.hid (X2.out.trans x3); obtain ⟨mp, mc, rfl⟩ := hs.shape; have hol := hg.len; rw [List.length_map, HL.out] at hol; have HOL := Lib.hid hol; clear x3 hg hs hol
  by_cases h0 : n = 0
  · have h0i : ((n : Int) == 0) = true := by rw [h0]; rfl
    have ho : out.length = 0 := by have := HOL.out; omega
    rw [ho]; clear h40i h40d; subst h0; go_wp2_with fail; go_ret; exact ⟨rfl, X3.out⟩
  have h0i : ((n : Int) == 0) = false := beq_eq_false_iff_ne.2 (by omega); have H0 : Hid (n ≠ 0) := h0
  have hD := fun a ha => HG.out.dn (D := n) (X := 1) (fun a ha => by
    obtain ⟨t, -, rfl⟩ := List.mem_map.1 ha
    exact one_dn h0) a ha
  have HDN : Hid (∀ a ∈ out, Dn n (40 * 1) a.2) := fun a ha => (hD a ha).mono (by rw [List.length_map, HL.out]; have := H40.out; omega)
  have hNB : n < Bs ^ 1 := by rw [Nat.pow_one]; exact small_Bs (by have := H40.out; omega)
  have HNB := Lib.hid hNB
  have HXB : Hid (out.length * (40 * 1) < Bs ^ 1) := by
    show _ < _
    rw [Nat.pow_one]; exact small_Bs (by have := HOL.out; have := H40.out; omega)
  have HLR : Hid (∀ a ∈ out, LenR 1 a.2) := fun a ha => (HDN.out a ha).len h0 hNB (by rw [Nat.pow_one]; exact small_Bs (by decide)) (by decide)
  have HPOS : Hid (∀ a ∈ (Ts.map fun t => ((t, Rat.divInt 1 (n : Int)) : Pt)), 0 < a.2) := fun a ha => by
    obtain ⟨t, -, rfl⟩ := List.mem_map.1 ha; exact even_pos h0
  have HAT : Hid (∀ t : VT, atV out t = Rat.divInt (cnt t Ts : Int) (n : Int)) := fun t => by
    rw [show atV out t = atV (Ts.map fun t => ((t, Rat.divInt 1 (n : Int)) : Pt)) t from HG.out.sum HPOS.out (cls_isV t), even_at, even_mul h0]
  have HTO : Hid (totV out = 1) := by
    show _ = _
    rw [show totV out = totV (Ts.map fun t => ((t, Rat.divInt 1 (n : Int)) : Pt)) from HG.out.sum HPOS.out cls_one, even_tot, HL.out, even_mul h0, Rat.divInt_ofNat, Rat.mkRat_eq_div, Rat.intCast_natCast]
    have : (n : Rat) ≠ 0 := by intro h2; exact h0 (Rat.natCast_eq_zero_iff.1 h2)
    exact (show ∀ q : Rat, q ≠ 0 → q / q = 1 from fun q h => by grind) _ this
  obtain ⟨ol, hol⟩ : ∃ m, out.length = m := ⟨_, rfl⟩
  have HO := Lib.hid hol; rw [hol] at HS ⊢; clear hol hD hNB h0 h40i h40d; go_wp2_with fail
  go_loopw [4] (fun v4 wr => ∃ i : Nat, v4 = .int .i64 (i : Int) ∧ i ≤ n ∧ Ext w3 wr) (fun v4 _ => n - (intOf v4).toNat)
  case atStart => exact ⟨0, rfl, Nat.zero_le _, Ext.refl _⟩
  case round =>
    rename World => wr
    obtain ⟨i, rfl, hi, hx⟩ := hrel; have XR := Lib.hid hx; clear hx
    by_cases hlt : i < n
    · have hli : (i : Int) < (n : Int) := by omega
      have hl1 : (i : Int) + 1 ≤ (n : Int) := by omega
      have m5 := H40.out
      have hwi : IntKind.i64.wrap ((i : Int) + 1) = ((i + 1 : Nat) : Int) := by rw [IntWalk.i64_in _ (by omega)]; omega
      have LT := Lib.hid hlt
      obtain ⟨csA, hcsA⟩ : ∃ y, C[i]? = some y := ⟨_, List.getElem?_eq_getElem (by rw [HCL.out]; exact hlt)⟩
      obtain ⟨tA, htA⟩ : ∃ y, Ts[i]? = some y := ⟨_, List.getElem?_eq_getElem (by rw [HL.out]; exact hlt)⟩
      have hivA := HV.out i csA tA hcsA htA; have HTA := Lib.hid htA; obtain ⟨⟨kA, nA, pA, xA, yA, rfl⟩, blA, offA, hpA, hatA⟩ := H4.out i csA hcsA; have HVA : Hid (IsV w (.agg #[.int .u8 (kA : Int), .int .i64 nA, .slice pA xA yA]) tA) := hivA; have DA0 : Hid (At blA (offA + i * 3) (.int .u8 (kA : Int)) _) := (hatA 0 (.int .u8 (kA : Int)) rfl).ext (X3.out.trans XR.out); have DA1 : Hid (At blA (offA + i * 3 + 1) (.int .i64 nA) _) := (hatA 1 (.int .i64 nA) rfl).ext (X3.out.trans XR.out); have DA2 : Hid (At blA (offA + i * 3 + 2) (.slice pA xA yA) _) := (hatA 2 (.slice pA xA yA) rfl).ext (X3.out.trans XR.out); clear hivA hcsA htA hatA; subst hpA; clear hi m5 hlt; go_wp2_with fail
      go_loopw [5, 6] (fun v5 v6 wi => ∃ k : Nat, v6 = .int .i64 (k : Int) ∧ v5 = .int .i64 ((cnt tA (Ts.take k) : Nat) : Int) ∧ k ≤ n ∧ Ext wr wi) (fun _ v6 _ => n - (intOf v6).toNat)
      case atStart => exact ⟨0, rfl, rfl, Nat.zero_le _, Ext.refl _⟩
      case round =>
        rename World => wi
        obtain ⟨k, rfl, rfl, hk, hx⟩ := hrel; have XI := Lib.hid hx; clear hx
        obtain ⟨cn, hcn⟩ : ∃ m, cnt tA (Ts.take k) = m := ⟨_, rfl⟩
        have hcl := cnt_le tA (Ts.take k); rw [hcn, List.length_take] at hcl; have HCN := Lib.hid hcn; rw [hcn]; clear hcn
        by_cases hlt : k < n
        · have hlk : (k : Int) < (n : Int) := by omega
          have hlk1 : (k : Int) + 1 ≤ (n : Int) := by omega
          have m5 := H40.out
          have hwk : IntKind.i64.wrap ((k : Int) + 1) = ((k + 1 : Nat) : Int) := by rw [IntWalk.i64_in _ (by omega)]; omega
          have hwc : IntKind.i64.wrap ((cn : Int) + 1) = ((cn + 1 : Nat) : Int) := by rw [IntWalk.i64_in _ (by omega)]; omega
          have LTK := Lib.hid hlt
          obtain ⟨csB, hcsB⟩ : ∃ y, C[k]? = some y := ⟨_, List.getElem?_eq_getElem (by rw [HCL.out]; exact hlt)⟩
          obtain ⟨tB, htB⟩ : ∃ y, Ts[k]? = some y := ⟨_, List.getElem?_eq_getElem (by rw [HL.out]; exact hlt)⟩
          have hivB := HV.out k csB tB hcsB htB; have HTB_ := Lib.hid htB; obtain ⟨⟨kB, nB, pB, xB, yB, rfl⟩, blB, offB, hpB, hatB⟩ := H4.out k csB hcsB; have HVB : Hid (IsV w (.agg #[.int .u8 (kB : Int), .int .i64 nB, .slice pB xB yB]) tB) := hivB; have DB0 : Hid (At blB (offB + k * 3) (.int .u8 (kB : Int)) _) := (hatB 0 (.int .u8 (kB : Int)) rfl).ext (X3.out.trans (XR.out.trans XI.out)); have DB1 : Hid (At blB (offB + k * 3 + 1) (.int .i64 nB) _) := (hatB 1 (.int .i64 nB) rfl).ext (X3.out.trans (XR.out.trans XI.out)); have DB2 : Hid (At blB (offB + k * 3 + 2) (.slice pB xB yB) _) := (hatB 2 (.slice pB xB yB) rfl).ext (X3.out.trans (XR.out.trans XI.out)); clear hivB hcsB htB hatB
          injection hpB with hpB
          injection hpB with hpB1 hpB2
          subst hpB1 hpB2
          obtain ⟨cv, hcv⟩ : ∃ c, cmpV tA tB = c := ⟨_, rfl⟩
          have HCV := Lib.hid hcv
          obtain ⟨tb, htb⟩ : ∃ b, decide (cv = 0) = b := ⟨_, rfl⟩
          have HTB := Lib.hid htb
          have HCM : Hid (∀ X, Ext wi X → Calls Tryz.prog 10 #[.agg #[.int .u8 (kA : Int), .int .i64 nA, .slice pA xA yA], .agg #[.int .u8 (kB : Int), .int .i64 nB, .slice pB xB yB]] X fun e w' => e = .returned (.int .i64 cv) ∧ Ext X w') := fun X hX => by
            have x' := X3.out.trans (XR.out.trans (XI.out.trans hX)); rw [← hcv]; exact vcmp_calls _ _ _ _ _ (HVA.out.ext x') (HVB.out.ext x')
          have HCT := Lib.hid (cnt_take tA HTB_.out); clear hcv htb hk hcl m5 hlt
          go_upto_region 13 with fail
          refine wp_region_tail [39, 40, 41, 42, 43, 44, 45, 46, 47, 48] [] (fun ix__ => ([Sx.val (.slice (some ⟨blA, offA, none⟩) n c), Sx.val (.int .i64 (i : Int)), Sx.val (.pointer (some ⟨blA, offA + i * 3, none⟩)), Sx.val (.agg #[.int .u8 (kA : Int), .int .i64 nA, .slice pA xA yA]), Sx.val (.slice (some ⟨blA, offA, none⟩) n c), Sx.val (.int .i64 (k : Int)), Sx.val (.pointer (some ⟨blA, offA + k * 3, none⟩)), Sx.val (.agg #[.int .u8 (kB : Int), .int .i64 nB, .slice pB xB yB]), Sx.val (.int .i64 cv), Sx.val (.bool tb)] : List Sx).getD ix__ (Sx.val undef)) (by kernel_rfl) (by kernel_rfl) ?hs ?ht
          case hs =>
            refine ⟨?_, ?_, ?_, ?_, ?_, ?_, ?_, ?_, ?_, ?_, trivial⟩
            · refine XStep.op rfl (fun ac wk hp K hK => ?_); have t0_ : ac.tmps[0]?.getD undef = .slice (some ⟨blA, offA, none⟩) n c := hp.slot 0 rfl rfl; clear hp; go_simp; exact hK.out _ _ rfl (Ext.refl _)
            · refine XStep.op rfl (fun ac wk hp K hK => ?_); have t4_ : ac.tmps[4]?.getD undef = .int .i64 (i : Int) := hp.slot 4 rfl rfl; clear hp; go_simp; exact hK.out _ _ rfl (Ext.refl _)
            · refine XStep.op rfl (fun ac wk hp K hK => ?_); have t39_ := hp.sv 0 (by decide +kernel) rfl rfl rfl; have t40_ := hp.sv 1 (by decide +kernel) rfl rfl rfl; clear hp; go_simp; exact hK.out _ _ rfl (Ext.refl _)
            · refine XStep.op rfl (fun ac wk hp K hK => ?_); have t41_ := hp.sv 2 (by decide +kernel) rfl rfl rfl; have q0 := ((DA0.out.ext XI.out).ext hp.ext).1; have q1 := ((DA1.out.ext XI.out).ext hp.ext).1; have q2 := ((DA2.out.ext XI.out).ext hp.ext).1; clear hp; go_simp; exact hK.out _ _ rfl (Ext.refl _)
            · refine XStep.op rfl (fun ac wk hp K hK => ?_); have t0_ : ac.tmps[0]?.getD undef = .slice (some ⟨blA, offA, none⟩) n c := hp.slot 0 rfl rfl; clear hp; go_simp; exact hK.out _ _ rfl (Ext.refl _)
            · refine XStep.op rfl (fun ac wk hp K hK => ?_); have t6_ : ac.tmps[6]?.getD undef = .int .i64 (k : Int) := hp.slot 6 rfl rfl; clear hp; go_simp; exact hK.out _ _ rfl (Ext.refl _)
            · refine XStep.op rfl (fun ac wk hp K hK => ?_); have t43_ := hp.sv 4 (by decide +kernel) rfl rfl rfl; have t44_ := hp.sv 5 (by decide +kernel) rfl rfl rfl; clear hp; go_simp; exact hK.out _ _ rfl (Ext.refl _)
            · refine XStep.op rfl (fun ac wk hp K hK => ?_); have t45_ := hp.sv 6 (by decide +kernel) rfl rfl rfl; have q0 := ((DB0.out).ext hp.ext).1; have q1 := ((DB1.out).ext hp.ext).1; have q2 := ((DB2.out).ext hp.ext).1; clear hp; go_simp; exact hK.out _ _ rfl (Ext.refl _)
            · refine XStep.op rfl (fun ac wk hp K hK => ?_); have t42_ := hp.sv 3 (by decide +kernel) rfl rfl rfl; have t46_ := hp.sv 7 (by decide +kernel) rfl rfl rfl; have xe := Lib.hid hp.ext; clear hp; go_simp; refine (HCM.out _ xe.out).mono ?_; rintro e wk' ⟨rfl, ix⟩; exact hK.out _ _ rfl ix
            · refine XStep.op rfl (fun ac wk hp K hK => ?_); have t47_ := hp.sv 8 (by decide +kernel) rfl rfl rfl; have htb := HTB.out; clear hp; go_simp; exact hK.out _ _ (by first | rfl | (apply congrArg Value.bool; rw [← htb]; first | rfl | simp | (cases h : decide (cv = 0) <;> simp_all))) (Ext.refl _)
          case ht =>
            intro ac v2 hag hext hpost; have z48_ : sl ac 48 = .bool tb := hpost 9 (by decide +kernel) rfl; rw [hag.lay]; simp only [lay, List.foldl_cons, List.foldl_nil, List.setIfInBounds_toArray, List.set_cons_zero, List.set_cons_succ, z48_]; have HEX := Lib.hid hext; clear hag hpost hext z48_; unfold seqTail
            cases tb
            case true =>
              go_wp2_with fail; refine ⟨⟨k + 1, by first | rfl | simp | rw [hwk], ?_, LTK.out, XI.out.trans HEX.out⟩, by simp only [intOf]; have := LTK.out; omega⟩; rw [HCT.out, HCN.out, if_pos (by rw [HCV.out]; exact of_decide_eq_true HTB.out)]
              first | rfl | exact congrArg (Value.int .i64) hwc | simp
            case false =>
              go_wp2_with fail; refine ⟨⟨k + 1, by first | rfl | simp | rw [hwk], ?_, LTK.out, XI.out.trans HEX.out⟩, by simp only [intOf]; have := LTK.out; omega⟩; rw [HCT.out, HCN.out, if_neg (by rw [HCV.out]; exact of_decide_eq_false HTB.out)]; rfl
        · have hlk : ¬ (k : Int) < (n : Int) := by omega
          have hkn : k = n := by omega
          rw [hkn, List.take_of_length_le (by rw [HL.out]; exact Nat.le_refl _)] at HCN
          have HCB : Hid (cn ≤ 40) := by have := H40.out; show _ ≤ _; omega
          have c0 := (DA0.out.ext XI.out).1; have c1 := (DA1.out.ext XI.out).1; have c2 := (DA2.out.ext XI.out).1; have fb := (DA2.out.ext XI.out).2
          have HA : Hid (∀ X, Ext wi X → Calls Tryz.prog 12 #[.slice mp ol mc, .agg #[.int .u8 (kA : Int), .int .i64 nA, .slice pA xA yA]] X (RetQ X (atV out tA))) := fun X hX => by
            have x' := XR.out.trans (XI.out.trans hX); exact atM_calls (D := n) (X := 40 * 1) (k := 1) (K := 1) (HS.out.ext x') H0.out HNB.out HXB.out (by decide) (by decide) HDN.out (by decide) (by decide) HLR.out (HVA.out.ext (X3.out.trans x'))
          have HOV : Hid (∀ X, Calls Tryz.prog 13 #[.int .i64 (cn : Int), .int .i64 (n : Int)] X (RetR X (atV out tA))) := fun X => over_calls X cn n (by have := HCB.out; omega) (by have := H40.out; omega) (by have := H0.out; omega) (by rw [HAT.out, HCN.out])
          have HLQ : Hid (LenR 1 (atV out tA)) := lenR_over (n := cn) (d := n) (by omega) (by have := HCB.out; omega) (by omega) (by have := H40.out; omega) (by rw [HAT.out, HCN.out]); clear hk hcl hlt hkn; go_wp2_with fail; refine (HA.out _ (Ext.refl _)).mono ?_; rintro z w4 ⟨b1, p1, n1, c1_, p2, n2, c2_, rfl, e1, x4⟩; have E1 := Lib.hid e1; have X4 := Lib.hid x4; clear e1 x4 c0 c1 c2 fb HA; go_wp2_with fail; refine (HOV.out _).mono ?_; rintro z w5 ⟨sb, sv, su, sm, sd, rfl, e2, o2, x5⟩; obtain ⟨sp, sl, sc, tp, tl, tc, rfl, rfl⟩ := e2.slice; have E2 := Lib.hid e2; have X5 := Lib.hid x5; clear e2 o2 x5 HOV; go_wp2_with fail; refine (rsame_calls ((E1.out.ext X5.out).inR HLQ.out) (E2.out.inR HLQ.out) (by decide) true (by simp)).mono ?_; rintro z w6 ⟨rfl, x6⟩; have X6 := Lib.hid x6; clear x6 E1 E2; go_wp2_with fail; exact ⟨⟨i + 1, by first | rfl | simp | rw [hwi], LT.out, XR.out.trans (XI.out.trans (X4.out.trans (X5.out.trans X6.out)))⟩, by simp only [intOf]; have := LT.out; omega⟩
    · have hli : ¬ (i : Int) < (n : Int) := by omega
      have HTQ : Hid (∀ X, Ext wr X → Calls Tryz.prog 16 #[.slice mp ol mc] X (RetQ X (totV out))) := fun X hX =>
        totalM_calls (D := n) (X := 40 * 1) (k := 1) (K := 1) (HS.out.ext (XR.out.trans hX)) H0.out HNB.out HXB.out (by decide) (by decide) HDN.out (by decide) (by decide) HLR.out
      have holn : (ol : Int) ≤ (n : Int) := by have h := HOL.out; rw [HO.out] at h; omega
      rw [HTO.out] at HTQ; clear hi hlt; go_wp2_with fail; refine (mayM_calls (HS.out.ext XR.out) HG.out.mass (K := 1) (by decide) (by decide) HLR.out).mono ?_; rintro z w4 ⟨rfl, x4⟩; have X4 := Lib.hid x4; clear x4; go_wp2_with fail; refine (HTQ.out _ X4.out).mono ?_; rintro z w5 ⟨b1, p1, n1, c1_, p2, n2, c2_, rfl, e1, x5⟩; have X5 := Lib.hid (X4.out.trans x5); clear x5; go_wp2_with fail; refine (rshow_is (e1.inR (k := 1) (lenR_of (by decide +kernel) (by decide))) (by decide) ⟨#[49]⟩ (showR_of (by decide +kernel) (by decide +kernel))).mono ?_; rintro z w6 ⟨rfl, x6⟩; have X6 := Lib.hid (X5.out.trans x6); clear x6 e1; go_wp2_with fail; go_ret; exact ⟨rfl, X3.out.trans (XR.out.trans X6.out)⟩
end Go.Proofs.YtfofjalebhajhaaGreatDoor
