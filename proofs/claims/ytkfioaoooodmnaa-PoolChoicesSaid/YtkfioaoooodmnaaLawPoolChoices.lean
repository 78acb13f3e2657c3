/- PoolChoices answers true at all numbers. -/
import Derived.Test.YtkfioaoooodmnaaPartJ
namespace Go.Proofs.Ytkfioaoooodmnaa
open Go Go.RowKit

theorem binS_mono (n : Nat) : ∀ {i j : Nat}, i ≤ j → binS n i ≤ binS n j := by
  intro i j h
  induction h with
  | refl => exact Nat.le_refl _
  | step _ ih => exact Nat.le_trans ih (by rw [binS]; omega)
theorem binS_le {n i : Nat} (h : i ≤ n + 1) : binS n i ≤ 2 ^ n := by rw [← binS_all]; exact binS_mono n h

set_option maxHeartbeats 4000000 in
set_option maxRecDepth 100000 in
theorem poolChoices_mid (w : World) (k n m s : Nat) (hk : k < 256) (hn : n < 256) (hm : n % 65 = m) (hs : k % (m + 1) = s) (h0 : 0 < s) (h1 : s < m) :
    Calls Try.prog 6 #[.int .u8 (k : Int), .int .u8 (n : Int)] w (Yes w) := by
  have k1 : (k : Int) ≤ 255 := by omega
  have n1 : (n : Int) ≤ 255 := by omega
  have hm1 : (n : Int) % 65 = (m : Int) := by omega
  have m64 : m ≤ 64 := by omega
  have hsm : s ≤ m := by have := Nat.mod_lt k (show 0 < m + 1 by omega); omega
  obtain ⟨p, hp⟩ : ∃ p, m + 1 = p := ⟨_, rfl⟩
  have hwp : IntKind.i64.wrap ((m : Int) + 1) = (p : Int) := by rw [IntWalk.i64_in _ (by omega)]; omega
  have hs1 : (k : Int) % (p : Int) = (s : Int) := by rw [← hp, ← hs]; exact (Int.natCast_emod k (m + 1)).symm
  have p1 : (1 : Int) ≤ p := by omega
  have p2 : (p : Int) ≤ 65 := by omega
  have m1 : (m : Int) ≤ 64 := by omega
  have s1 : (s : Int) ≤ m := by omega
  obtain ⟨x, hx⟩ : ∃ x, bin m s = x := ⟨_, rfl⟩
  have HX := Lib.hid hx
  have M64 := Lib.hid m64
  have SM := Lib.hid hsm
  have HP : Hid (m + 1 = p) := hp
  have W16 : Hid (∀ i y, i ≤ 64 → y ≤ 2 ^ i → (dig y).length ≤ 2) := fun i y hi hy => dig_len_le (Nat.lt_of_le_of_lt hy (Nat.lt_of_le_of_lt (Nat.pow_le_pow_right (by decide) hi) (by rw [Bs_def]; decide)))
  obtain ⟨t, ht⟩ : ∃ t, m - s = t := ⟨_, rfl⟩
  have hwt : IntKind.i64.wrap ((m : Int) - s) = (t : Int) := by rw [IntWalk.i64_in _ (by omega)]; omega
  have HXT : Hid (bin m t = x) := by show _ = _; rw [← hx, ← ht]; exact bin_sym hsm
  have TM : Hid (t ≤ m) := by show t ≤ m; omega
  obtain ⟨q, hq⟩ : ∃ q, m - 1 = q := ⟨_, rfl⟩
  obtain ⟨r, hr⟩ : ∃ r, s - 1 = r := ⟨_, rfl⟩
  have Q64 : Hid (q ≤ 64) := by show q ≤ 64; omega
  have hwq : IntKind.i64.wrap ((m : Int) - 1) = (q : Int) := by rw [IntWalk.i64_in _ (by omega)]; omega
  have hwr : IntKind.i64.wrap ((s : Int) - 1) = (r : Int) := by rw [IntWalk.i64_in _ (by omega)]; omega
  have RQ : Hid (r ≤ q) := by show r ≤ q; omega
  have SQ : Hid (s ≤ q) := by show s ≤ q; omega
  have m2 : (1 : Int) ≤ m := by omega
  have s2 : (1 : Int) ≤ s := by omega
  have s3 : (s : Int) + 1 ≤ m := by omega
  have HXY : Hid (bin q r + bin q s = x) := by
    show _ = _
    rw [← hx, show m = q + 1 by omega, show s = r + 1 by omega, bin]
  have HL1 : Hid ((dig (bin q r)).length ≤ 2) := bin_len Q64.out
  have HL2 : Hid ((dig (bin q s)).length ≤ 2) := bin_len Q64.out
  clear ht hq hr h0 h1
  clear hk hn hm hs hp hsm hx m64
  go_enter Try.func6, Try.ntmps6
  go_wp2_with fail
  refine (awake13_calls _).mono ?_
  rintro e w1 ⟨rfl, x1⟩
  have X1 := Lib.hid x1
  clear x1
  go_wp2_with fail
  refine (choose_n _ s m x SM.out M64.out HX.out).mono ?_
  rintro e w2 ⟨r2, rfl, o2, x2⟩
  have O2 := Lib.hid (o2.mono X1.out.size)
  have X2 := Lib.hid (X1.out.trans x2)
  clear o2 x2
  go_wp2_with fail
  refine (choose_n _ t m x TM.out M64.out HXT.out).mono ?_
  rintro e w3 ⟨r3, rfl, o3, x3⟩
  have O3 := Lib.hid (o3.mono X2.out.size)
  have X3 := Lib.hid (X2.out.trans x3)
  have O2 := Lib.hid (O2.out.ext x3)
  clear o3 x3
  go_wp2_with fail
  refine (same_bool O2.out.limbs O3.out.limbs true (by simp)).mono ?_
  rintro e w4 ⟨rfl, x4⟩
  have X4 := Lib.hid (X3.out.trans x4)
  have O2 := Lib.hid (O2.out.ext x4)
  clear x4 O3
  have O2 : Hid (OwnL w.heap.size ((w4.alloc (.cells #[] 37)).alloc (.cells #[] 37)) r2 (dig x)) := O2.out.ext (((Ext.refl w4).alloc _).alloc _)
  have X4 : Hid (Ext w ((w4.alloc (.cells #[] 37)).alloc (.cells #[] 37))) := (X4.out.alloc _).alloc _
  go_wp2_with fail
  refine (choose_n _ r q _ RQ.out Q64.out rfl).mono ?_
  rintro e w5 ⟨r5, rfl, o5, x5⟩
  have O5 := Lib.hid (o5.mono X4.out.size)
  have X5 := Lib.hid (X4.out.trans x5)
  have O2 := Lib.hid (O2.out.ext x5)
  clear o5 x5
  go_wp2_with fail
  refine (choose_n _ s q _ SQ.out Q64.out rfl).mono ?_
  rintro e w6 ⟨r6, rfl, o6, x6⟩
  have O6 := Lib.hid (o6.mono X5.out.size)
  have X6 := Lib.hid (X5.out.trans x6)
  have O2 := Lib.hid (O2.out.ext x6)
  have O5 := Lib.hid (O5.out.ext x6)
  clear o6 x6
  go_wp2_with fail
  refine (nadd_two (x := (bin q r)) (y := (bin q s)) O5.out O6.out HL1.out HL2.out).mono ?_
  rintro e wa ⟨pp, nn, cc, rfl, oa, xa⟩
  rw [HXY.out] at oa
  have OA := Lib.hid oa
  have XA := Lib.hid (X6.out.trans xa)
  have O2 := Lib.hid (O2.out.ext xa)
  clear oa xa
  go_wp2_with fail
  refine (same_bool OA.out.limbs O2.out.limbs true (by simp)).mono ?_
  rintro e wb ⟨rfl, xb⟩
  have XB := Lib.hid (XA.out.trans xb)
  clear xb
  have XL : Hid (Ext w (wb.alloc (.cells #[] 37))) := XB.out.alloc _
  have OL : Hid (OwnL w.heap.size (wb.alloc (.cells #[] 37)) (.slice (some ⟨wb.heap.size, 0, none⟩) 0 0) (dig (binS m 0))) := by
    show OwnL _ _ _ _
    rw [binS, dig_zero]
    exact ⟨.inr ⟨_, rfl, rfl, rfl, fun p hp => by injection hp with hp; subst hp; exact ⟨rfl, by simp⟩⟩, fun x hx => by cases hx⟩
  go_wp2_with fail
  go_loopw [13, 14] (fun v13 v14 wr => ∃ i : Nat, v14 = .int .i64 (i : Int) ∧ i ≤ p ∧ OwnL w.heap.size wr v13 (dig (binS m i)) ∧ Ext w wr) (fun _ v14 _ => p - (intOf v14).toNat)
  case atStart => exact ⟨0, rfl, Nat.zero_le _, OL.out, XL.out⟩
  case round =>
    obtain ⟨i, rfl, hi, hO, hx⟩ := hrel
    have O := Lib.hid hO
    have X := Lib.hid hx
    clear hO hx OL XL
    have hpm := HP.out
    by_cases hip : i < p
    · have t1 : (i : Int) ≤ m := by omega
      have LT := Lib.hid hip
      have IM : Hid (i ≤ m) := by show i ≤ m; omega
      have HB1 : Hid ((dig (binS m i)).length ≤ 2) := W16.out m _ M64.out (binS_le (by omega))
      have HB2 : Hid ((dig (bin m i)).length ≤ 2) := bin_len M64.out
      clear hpm hip hi
      go_wp2_with fail
      refine (choose_n _ i m _ IM.out M64.out rfl).mono ?_
      rintro e wc ⟨rc, rfl, oc, xc⟩
      have OC := Lib.hid oc
      have O := Lib.hid (O.out.ext xc)
      have XC := Lib.hid (X.out.trans xc)
      clear oc xc X
      go_wp2_with fail
      refine (nadd_two (x := binS m i) (y := bin m i) O.out OC.out HB1.out HB2.out).mono ?_
      rintro e wd ⟨pp2, nn2, cc2, rfl, od, xd⟩
      have OD : Hid (OwnL w.heap.size wd (.slice pp2 nn2 cc2) (dig (binS m (i + 1)))) := od.mono XC.out.size
      have XD := Lib.hid (XC.out.trans xd)
      clear od xd
      go_wp2_with fail
      exact ⟨⟨i + 1, by first | rfl | go_num, LT.out, OD.out, XD.out⟩, by simp [intOf]; have := LT.out; omega⟩
    · obtain rfl : p = i := by omega
      have t1 : (m : Int) + 1 ≤ p := by omega
      rw [← hpm, binS_all] at O
      have HM64 : Hid (m ≤ 65536) := by show m ≤ 65536; have := M64.out; omega
      have HLL : Hid (Limbs (wr.alloc (.cells #[.int .u64 1] 37)) (.slice (some ⟨wr.heap.size, 0, none⟩) 1 1) [1]) := limbs_lit wr [1] (by simp [Bs_def]) _ rfl 1 rfl (by rw [Lmax_def]; simp)
      have OE := Lib.hid (O.out.ext ((Ext.refl wr).alloc (.cells #[.int .u64 1] 37)))
      have XE : Hid (Ext w (wr.alloc (.cells #[.int .u64 1] 37))) := X.out.alloc _
      clear hpm hip hi X O
      go_wp2_with fail
      refine (shl_ok HLL.out (by decide) m HM64.out).mono ?_
      rintro e wf ⟨rf, rfl, of, xf⟩
      have OF := Lib.hid of
      have OE := Lib.hid (OE.out.ext xf)
      have XF := Lib.hid (XE.out.trans xf)
      clear of xf
      go_wp2_with fail
      refine (same_bool OE.out.limbs OF.out.limbs true (by simp [val])).mono ?_
      rintro e wg ⟨rfl, xg⟩
      have XG := Lib.hid (XF.out.trans xg)
      clear xg
      go_wp2_with fail
      go_ret
      exact ⟨rfl, XG.out⟩

set_option maxHeartbeats 4000000 in
set_option maxRecDepth 100000 in
theorem poolChoices_none (w : World) (k n m s : Nat) (hk : k < 256) (hn : n < 256) (hm : n % 65 = m) (hs : k % (m + 1) = s) (h0 : m = 0) :
    Calls Try.prog 6 #[.int .u8 (k : Int), .int .u8 (n : Int)] w (Yes w) := by
  have k1 : (k : Int) ≤ 255 := by omega
  have n1 : (n : Int) ≤ 255 := by omega
  have hm1 : (n : Int) % 65 = (m : Int) := by omega
  have m64 : m ≤ 64 := by omega
  have hsm : s ≤ m := by have := Nat.mod_lt k (show 0 < m + 1 by omega); omega
  obtain ⟨p, hp⟩ : ∃ p, m + 1 = p := ⟨_, rfl⟩
  have hwp : IntKind.i64.wrap ((m : Int) + 1) = (p : Int) := by rw [IntWalk.i64_in _ (by omega)]; omega
  have hs1 : (k : Int) % (p : Int) = (s : Int) := by rw [← hp, ← hs]; exact (Int.natCast_emod k (m + 1)).symm
  have p1 : (1 : Int) ≤ p := by omega
  have p2 : (p : Int) ≤ 65 := by omega
  have m1 : (m : Int) ≤ 64 := by omega
  have s1 : (s : Int) ≤ m := by omega
  obtain ⟨x, hx⟩ : ∃ x, bin m s = x := ⟨_, rfl⟩
  have HX := Lib.hid hx
  have M64 := Lib.hid m64
  have SM := Lib.hid hsm
  have HP : Hid (m + 1 = p) := hp
  have W16 : Hid (∀ i y, i ≤ 64 → y ≤ 2 ^ i → (dig y).length ≤ 2) := fun i y hi hy => dig_len_le (Nat.lt_of_le_of_lt hy (Nat.lt_of_le_of_lt (Nat.pow_le_pow_right (by decide) hi) (by rw [Bs_def]; decide)))
  subst h0
  have h00 : s = 0 := by omega
  subst h00
  clear hk hn hm hs hp hsm hx m64
  go_enter Try.func6, Try.ntmps6
  go_wp2_with fail
  refine (awake13_calls _).mono ?_
  rintro e w1 ⟨rfl, x1⟩
  have X1 := Lib.hid x1
  clear x1
  go_wp2_with fail
  refine (choose_n _ 0 0 x (Nat.le_refl _) M64.out HX.out).mono ?_
  rintro e w2 ⟨r2, rfl, o2, x2⟩
  have O2 := Lib.hid (o2.mono X1.out.size)
  have X2 := Lib.hid (X1.out.trans x2)
  clear o2 x2
  go_wp2_with fail
  refine (choose_n _ 0 0 x (Nat.le_refl _) M64.out HX.out).mono ?_
  rintro e w3 ⟨r3, rfl, o3, x3⟩
  have O3 := Lib.hid (o3.mono X2.out.size)
  have X3 := Lib.hid (X2.out.trans x3)
  have O2 := Lib.hid (O2.out.ext x3)
  clear o3 x3
  go_wp2_with fail
  refine (same_bool O2.out.limbs O3.out.limbs true (by simp)).mono ?_
  rintro e w4 ⟨rfl, x4⟩
  have X4 := Lib.hid (X3.out.trans x4)
  have O2 := Lib.hid (O2.out.ext x4)
  clear x4 O3
  go_wp2_with fail
  clear O2
  have XL : Hid (Ext w (w4.alloc (.cells #[] 37))) := X4.out.alloc _
  have OL : Hid (OwnL w.heap.size (w4.alloc (.cells #[] 37)) (.slice (some ⟨w4.heap.size, 0, none⟩) 0 0) (dig (binS 0 0))) := by
    show OwnL _ _ _ _
    rw [binS, dig_zero]
    exact ⟨.inr ⟨_, rfl, rfl, rfl, fun p hp => by injection hp with hp; subst hp; exact ⟨rfl, by simp⟩⟩, fun x hx => by cases hx⟩
  go_loopw [13, 14] (fun v13 v14 wr => ∃ i : Nat, v14 = .int .i64 (i : Int) ∧ i ≤ p ∧ OwnL w.heap.size wr v13 (dig (binS 0 i)) ∧ Ext w wr) (fun _ v14 _ => p - (intOf v14).toNat)
  case atStart => exact ⟨0, rfl, Nat.zero_le _, OL.out, XL.out⟩
  case round =>
    obtain ⟨i, rfl, hi, hO, hx⟩ := hrel
    have O := Lib.hid hO
    have X := Lib.hid hx
    clear hO hx OL XL
    have hpm := HP.out
    by_cases hip : i < p
    · obtain rfl : i = 0 := by omega
      have LT := Lib.hid hip
      have IM : Hid (0 ≤ 0) := by show 0 ≤ 0; omega
      have HB1 : Hid ((dig (binS 0 0)).length ≤ 2) := W16.out 0 _ M64.out (binS_le (by omega))
      have HB2 : Hid ((dig (bin 0 0)).length ≤ 2) := bin_len M64.out
      clear hpm hip hi
      go_wp2_with fail
      refine (choose_n _ 0 0 _ IM.out M64.out rfl).mono ?_
      rintro e wc ⟨rc, rfl, oc, xc⟩
      have OC := Lib.hid oc
      have O := Lib.hid (O.out.ext xc)
      have XC := Lib.hid (X.out.trans xc)
      clear oc xc X
      go_wp2_with fail
      refine (nadd_two (x := binS 0 0) (y := bin 0 0) O.out OC.out HB1.out HB2.out).mono ?_
      rintro e wd ⟨pp2, nn2, cc2, rfl, od, xd⟩
      have OD : Hid (OwnL w.heap.size wd (.slice pp2 nn2 cc2) (dig (binS 0 (0 + 1)))) := od.mono XC.out.size
      have XD := Lib.hid (XC.out.trans xd)
      clear od xd
      go_wp2_with fail
      exact ⟨⟨0 + 1, by first | rfl | go_num, LT.out, OD.out, XD.out⟩, by simp [intOf]; have := LT.out; omega⟩
    · obtain rfl : p = i := by omega
      have t1 : (1 : Int) ≤ p := by omega
      rw [← hpm, binS_all] at O
      have HM64 : Hid ((0 : Nat) ≤ 65536) := by show (0 : Nat) ≤ 65536; have := M64.out; omega
      have HLL : Hid (Limbs (wr.alloc (.cells #[.int .u64 1] 37)) (.slice (some ⟨wr.heap.size, 0, none⟩) 1 1) [1]) := limbs_lit wr [1] (by simp [Bs_def]) _ rfl 1 rfl (by rw [Lmax_def]; simp)
      have OE := Lib.hid (O.out.ext ((Ext.refl wr).alloc (.cells #[.int .u64 1] 37)))
      have XE : Hid (Ext w (wr.alloc (.cells #[.int .u64 1] 37))) := X.out.alloc _
      clear hpm hip hi X O
      go_wp2_with fail
      refine (shl_ok HLL.out (by decide) 0 HM64.out).mono ?_
      rintro e wf ⟨rf, rfl, of, xf⟩
      have OF := Lib.hid of
      have OE := Lib.hid (OE.out.ext xf)
      have XF := Lib.hid (XE.out.trans xf)
      clear of xf
      go_wp2_with fail
      refine (same_bool OE.out.limbs OF.out.limbs true (by simp [val])).mono ?_
      rintro e wg ⟨rfl, xg⟩
      have XG := Lib.hid (XF.out.trans xg)
      clear xg
      go_wp2_with fail
      go_ret
      exact ⟨rfl, XG.out⟩

set_option maxHeartbeats 4000000 in
set_option maxRecDepth 100000 in
theorem poolChoices_lo (w : World) (k n m s : Nat) (hk : k < 256) (hn : n < 256) (hm : n % 65 = m) (hs : k % (m + 1) = s) (h0 : 0 < m) (h1 : s = 0) :
    Calls Try.prog 6 #[.int .u8 (k : Int), .int .u8 (n : Int)] w (Yes w) := by
  have k1 : (k : Int) ≤ 255 := by omega
  have n1 : (n : Int) ≤ 255 := by omega
  have hm1 : (n : Int) % 65 = (m : Int) := by omega
  have m64 : m ≤ 64 := by omega
  have hsm : s ≤ m := by have := Nat.mod_lt k (show 0 < m + 1 by omega); omega
  obtain ⟨p, hp⟩ : ∃ p, m + 1 = p := ⟨_, rfl⟩
  have hwp : IntKind.i64.wrap ((m : Int) + 1) = (p : Int) := by rw [IntWalk.i64_in _ (by omega)]; omega
  have hs1 : (k : Int) % (p : Int) = (s : Int) := by rw [← hp, ← hs]; exact (Int.natCast_emod k (m + 1)).symm
  have p1 : (1 : Int) ≤ p := by omega
  have p2 : (p : Int) ≤ 65 := by omega
  have m1 : (m : Int) ≤ 64 := by omega
  have s1 : (s : Int) ≤ m := by omega
  obtain ⟨x, hx⟩ : ∃ x, bin m s = x := ⟨_, rfl⟩
  have HX := Lib.hid hx
  have M64 := Lib.hid m64
  have SM := Lib.hid hsm
  have HP : Hid (m + 1 = p) := hp
  have W16 : Hid (∀ i y, i ≤ 64 → y ≤ 2 ^ i → (dig y).length ≤ 2) := fun i y hi hy => dig_len_le (Nat.lt_of_le_of_lt hy (Nat.lt_of_le_of_lt (Nat.pow_le_pow_right (by decide) hi) (by rw [Bs_def]; decide)))
  subst h1
  obtain ⟨q, hq⟩ : ∃ q, m - 1 = q := ⟨_, rfl⟩
  have Q64 : Hid (q ≤ 64) := by show q ≤ 64; omega
  have hwq : IntKind.i64.wrap ((m : Int) - 1) = (q : Int) := by rw [IntWalk.i64_in _ (by omega)]; omega
  have hwm : IntKind.i64.wrap (m : Int) = (m : Int) := by rw [IntWalk.i64_in _ (by omega)]
  have m2 : (1 : Int) ≤ m := by omega
  have HXT : Hid (bin m m = x) := by show _ = _; rw [← hx, bin_self, bin_zero]
  have HXY : Hid (0 + bin q 0 = x) := by show _ = _; rw [← hx, bin_zero, bin_zero]
  have HL1 : Hid ((dig 0).length ≤ 2) := by show _ ≤ 2; rw [dig_zero]; decide
  have HL2 : Hid ((dig (bin q 0)).length ≤ 2) := bin_len Q64.out
  clear hq h0 s1
  clear hk hn hm hs hp hsm hx m64
  go_enter Try.func6, Try.ntmps6
  go_wp2_with fail
  refine (awake13_calls _).mono ?_
  rintro e w1 ⟨rfl, x1⟩
  have X1 := Lib.hid x1
  clear x1
  go_wp2_with fail
  refine (choose_n _ 0 m x SM.out M64.out HX.out).mono ?_
  rintro e w2 ⟨r2, rfl, o2, x2⟩
  have O2 := Lib.hid (o2.mono X1.out.size)
  have X2 := Lib.hid (X1.out.trans x2)
  clear o2 x2
  go_wp2_with fail
  refine (choose_n _ m m x (Nat.le_refl _) M64.out HXT.out).mono ?_
  rintro e w3 ⟨r3, rfl, o3, x3⟩
  have O3 := Lib.hid (o3.mono X2.out.size)
  have X3 := Lib.hid (X2.out.trans x3)
  have O2 := Lib.hid (O2.out.ext x3)
  clear o3 x3
  go_wp2_with fail
  refine (same_bool O2.out.limbs O3.out.limbs true (by simp)).mono ?_
  rintro e w4 ⟨rfl, x4⟩
  have X4 := Lib.hid (X3.out.trans x4)
  have O2 := Lib.hid (O2.out.ext x4)
  clear x4 O3
  have EA : Hid (∀ (W : World) (b : Nat), b < W.heap.size → OwnL 0 W (.slice (some ⟨b, 0, none⟩) 0 0) (dig 0)) := fun W b hb => by
    rw [dig_zero]
    exact ⟨.inr ⟨_, rfl, rfl, rfl, fun p hp => by injection hp with hp; subst hp; exact ⟨rfl, hb⟩⟩, fun x hx => by cases hx⟩
  have O2 : Hid (OwnL w.heap.size ((w4.alloc (.cells #[] 37)).alloc (.cells #[] 37)) r2 (dig x)) := O2.out.ext (((Ext.refl w4).alloc _).alloc _)
  have X4 : Hid (Ext w ((w4.alloc (.cells #[] 37)).alloc (.cells #[] 37))) := (X4.out.alloc _).alloc _
  have SZ : Hid (w4.heap.size < ((w4.alloc (.cells #[] 37)).alloc (.cells #[] 37)).heap.size) := by show _ < _; simp only [World.alloc, Array.size_push]; omega
  go_wp2_with fail
  refine (choose_n _ 0 q _ (Nat.zero_le _) Q64.out rfl).mono ?_
  rintro e w5 ⟨r5, rfl, o5, x5⟩
  have SZ := Lib.hid (Nat.lt_of_lt_of_le SZ.out x5.size)
  have O5 := Lib.hid (o5.mono X4.out.size)
  have X5 := Lib.hid (X4.out.trans x5)
  have O2 := Lib.hid (O2.out.ext x5)
  clear o5 x5
  go_wp2_with fail
  refine (nadd_two (x := 0) (y := (bin q 0)) (EA.out _ _ SZ.out) O5.out HL1.out HL2.out).mono ?_
  rintro e wa ⟨pp, nn, cc, rfl, oa, xa⟩
  rw [HXY.out] at oa
  have OA := Lib.hid oa
  have XA := Lib.hid (X5.out.trans xa)
  have O2 := Lib.hid (O2.out.ext xa)
  clear oa xa
  go_wp2_with fail
  refine (same_bool OA.out.limbs O2.out.limbs true (by simp)).mono ?_
  rintro e wb ⟨rfl, xb⟩
  have XB := Lib.hid (XA.out.trans xb)
  clear xb
  have XL : Hid (Ext w (wb.alloc (.cells #[] 37))) := XB.out.alloc _
  have OL : Hid (OwnL w.heap.size (wb.alloc (.cells #[] 37)) (.slice (some ⟨wb.heap.size, 0, none⟩) 0 0) (dig (binS m 0))) := by
    show OwnL _ _ _ _
    rw [binS, dig_zero]
    exact ⟨.inr ⟨_, rfl, rfl, rfl, fun p hp => by injection hp with hp; subst hp; exact ⟨rfl, by simp⟩⟩, fun x hx => by cases hx⟩
  go_wp2_with fail
  go_loopw [13, 14] (fun v13 v14 wr => ∃ i : Nat, v14 = .int .i64 (i : Int) ∧ i ≤ p ∧ OwnL w.heap.size wr v13 (dig (binS m i)) ∧ Ext w wr) (fun _ v14 _ => p - (intOf v14).toNat)
  case atStart => exact ⟨0, rfl, Nat.zero_le _, OL.out, XL.out⟩
  case round =>
    obtain ⟨i, rfl, hi, hO, hx⟩ := hrel
    have O := Lib.hid hO
    have X := Lib.hid hx
    clear hO hx OL XL
    have hpm := HP.out
    by_cases hip : i < p
    · have t1 : (i : Int) ≤ m := by omega
      have LT := Lib.hid hip
      have IM : Hid (i ≤ m) := by show i ≤ m; omega
      have HB1 : Hid ((dig (binS m i)).length ≤ 2) := W16.out m _ M64.out (binS_le (by omega))
      have HB2 : Hid ((dig (bin m i)).length ≤ 2) := bin_len M64.out
      clear hpm hip hi
      go_wp2_with fail
      refine (choose_n _ i m _ IM.out M64.out rfl).mono ?_
      rintro e wc ⟨rc, rfl, oc, xc⟩
      have OC := Lib.hid oc
      have O := Lib.hid (O.out.ext xc)
      have XC := Lib.hid (X.out.trans xc)
      clear oc xc X
      go_wp2_with fail
      refine (nadd_two (x := binS m i) (y := bin m i) O.out OC.out HB1.out HB2.out).mono ?_
      rintro e wd ⟨pp2, nn2, cc2, rfl, od, xd⟩
      have OD : Hid (OwnL w.heap.size wd (.slice pp2 nn2 cc2) (dig (binS m (i + 1)))) := od.mono XC.out.size
      have XD := Lib.hid (XC.out.trans xd)
      clear od xd
      go_wp2_with fail
      exact ⟨⟨i + 1, by first | rfl | go_num, LT.out, OD.out, XD.out⟩, by simp [intOf]; have := LT.out; omega⟩
    · obtain rfl : p = i := by omega
      have t1 : (m : Int) + 1 ≤ p := by omega
      rw [← hpm, binS_all] at O
      have HM64 : Hid (m ≤ 65536) := by show m ≤ 65536; have := M64.out; omega
      have HLL : Hid (Limbs (wr.alloc (.cells #[.int .u64 1] 37)) (.slice (some ⟨wr.heap.size, 0, none⟩) 1 1) [1]) := limbs_lit wr [1] (by simp [Bs_def]) _ rfl 1 rfl (by rw [Lmax_def]; simp)
      have OE := Lib.hid (O.out.ext ((Ext.refl wr).alloc (.cells #[.int .u64 1] 37)))
      have XE : Hid (Ext w (wr.alloc (.cells #[.int .u64 1] 37))) := X.out.alloc _
      clear hpm hip hi X O
      go_wp2_with fail
      refine (shl_ok HLL.out (by decide) m HM64.out).mono ?_
      rintro e wf ⟨rf, rfl, of, xf⟩
      have OF := Lib.hid of
      have OE := Lib.hid (OE.out.ext xf)
      have XF := Lib.hid (XE.out.trans xf)
      clear of xf
      go_wp2_with fail
      refine (same_bool OE.out.limbs OF.out.limbs true (by simp [val])).mono ?_
      rintro e wg ⟨rfl, xg⟩
      have XG := Lib.hid (XF.out.trans xg)
      clear xg
      go_wp2_with fail
      go_ret
      exact ⟨rfl, XG.out⟩

set_option maxHeartbeats 4000000 in
set_option maxRecDepth 100000 in
theorem poolChoices_hi (w : World) (k n m s : Nat) (hk : k < 256) (hn : n < 256) (hm : n % 65 = m) (hs : k % (m + 1) = s) (h0 : 0 < m) (h1 : s = m) :
    Calls Try.prog 6 #[.int .u8 (k : Int), .int .u8 (n : Int)] w (Yes w) := by
  have k1 : (k : Int) ≤ 255 := by omega
  have n1 : (n : Int) ≤ 255 := by omega
  have hm1 : (n : Int) % 65 = (m : Int) := by omega
  have m64 : m ≤ 64 := by omega
  have hsm : s ≤ m := by have := Nat.mod_lt k (show 0 < m + 1 by omega); omega
  obtain ⟨p, hp⟩ : ∃ p, m + 1 = p := ⟨_, rfl⟩
  have hwp : IntKind.i64.wrap ((m : Int) + 1) = (p : Int) := by rw [IntWalk.i64_in _ (by omega)]; omega
  have hs1 : (k : Int) % (p : Int) = (s : Int) := by rw [← hp, ← hs]; exact (Int.natCast_emod k (m + 1)).symm
  have p1 : (1 : Int) ≤ p := by omega
  have p2 : (p : Int) ≤ 65 := by omega
  have m1 : (m : Int) ≤ 64 := by omega
  have s1 : (s : Int) ≤ m := by omega
  obtain ⟨x, hx⟩ : ∃ x, bin m s = x := ⟨_, rfl⟩
  have HX := Lib.hid hx
  have M64 := Lib.hid m64
  have SM := Lib.hid hsm
  have HP : Hid (m + 1 = p) := hp
  have W16 : Hid (∀ i y, i ≤ 64 → y ≤ 2 ^ i → (dig y).length ≤ 2) := fun i y hi hy => dig_len_le (Nat.lt_of_le_of_lt hy (Nat.lt_of_le_of_lt (Nat.pow_le_pow_right (by decide) hi) (by rw [Bs_def]; decide)))
  subst h1
  obtain ⟨q, hq⟩ : ∃ q, s - 1 = q := ⟨_, rfl⟩
  have Q64 : Hid (q ≤ 64) := by show q ≤ 64; omega
  have hwq : IntKind.i64.wrap ((s : Int) - 1) = (q : Int) := by rw [IntWalk.i64_in _ (by omega)]; omega
  have hwm : IntKind.i64.wrap (s : Int) = (s : Int) := by rw [IntWalk.i64_in _ (by omega)]
  have m2 : (1 : Int) ≤ s := by omega
  have HXT : Hid (bin s 0 = x) := by show _ = _; rw [← hx, bin_self, bin_zero]
  have HXY : Hid (bin q q + 0 = x) := by show _ = _; rw [← hx, bin_self, bin_self]
  have HL2 : Hid ((dig 0).length ≤ 2) := by show _ ≤ 2; rw [dig_zero]; decide
  have HL1 : Hid ((dig (bin q q)).length ≤ 2) := bin_len Q64.out
  clear hq h0 s1
  clear hk hn hm hs hp hsm hx m64
  go_enter Try.func6, Try.ntmps6
  go_wp2_with fail
  refine (awake13_calls _).mono ?_
  rintro e w1 ⟨rfl, x1⟩
  have X1 := Lib.hid x1
  clear x1
  go_wp2_with fail
  refine (choose_n _ s s x (Nat.le_refl _) M64.out HX.out).mono ?_
  rintro e w2 ⟨r2, rfl, o2, x2⟩
  have O2 := Lib.hid (o2.mono X1.out.size)
  have X2 := Lib.hid (X1.out.trans x2)
  clear o2 x2
  go_wp2_with fail
  refine (choose_n _ 0 s x (Nat.zero_le _) M64.out HXT.out).mono ?_
  rintro e w3 ⟨r3, rfl, o3, x3⟩
  have O3 := Lib.hid (o3.mono X2.out.size)
  have X3 := Lib.hid (X2.out.trans x3)
  have O2 := Lib.hid (O2.out.ext x3)
  clear o3 x3
  go_wp2_with fail
  refine (same_bool O2.out.limbs O3.out.limbs true (by simp)).mono ?_
  rintro e w4 ⟨rfl, x4⟩
  have X4 := Lib.hid (X3.out.trans x4)
  have O2 := Lib.hid (O2.out.ext x4)
  clear x4 O3
  have EA : Hid (∀ (W : World) (b : Nat), b < W.heap.size → OwnL 0 W (.slice (some ⟨b, 0, none⟩) 0 0) (dig 0)) := fun W b hb => by
    rw [dig_zero]
    exact ⟨.inr ⟨_, rfl, rfl, rfl, fun p hp => by injection hp with hp; subst hp; exact ⟨rfl, hb⟩⟩, fun x hx => by cases hx⟩
  have O2 : Hid (OwnL w.heap.size ((w4.alloc (.cells #[] 37)).alloc (.cells #[] 37)) r2 (dig x)) := O2.out.ext (((Ext.refl w4).alloc _).alloc _)
  have X4 : Hid (Ext w ((w4.alloc (.cells #[] 37)).alloc (.cells #[] 37))) := (X4.out.alloc _).alloc _
  have SZ : Hid (w4.heap.size + 1 < ((w4.alloc (.cells #[] 37)).alloc (.cells #[] 37)).heap.size) := by show _ < _; simp only [World.alloc, Array.size_push]; omega
  go_wp2_with fail
  refine (choose_n _ q q _ (Nat.le_refl _) Q64.out rfl).mono ?_
  rintro e w5 ⟨r5, rfl, o5, x5⟩
  have SZ := Lib.hid (Nat.lt_of_lt_of_le SZ.out x5.size)
  have O5 := Lib.hid (o5.mono X4.out.size)
  have X5 := Lib.hid (X4.out.trans x5)
  have O2 := Lib.hid (O2.out.ext x5)
  clear o5 x5
  go_wp2_with fail
  refine (nadd_two (x := (bin q q)) (y := 0) O5.out (EA.out _ _ SZ.out) HL1.out HL2.out).mono ?_
  rintro e wa ⟨pp, nn, cc, rfl, oa, xa⟩
  rw [HXY.out] at oa
  have OA := Lib.hid oa
  have XA := Lib.hid (X5.out.trans xa)
  have O2 := Lib.hid (O2.out.ext xa)
  clear oa xa
  go_wp2_with fail
  refine (same_bool OA.out.limbs O2.out.limbs true (by simp)).mono ?_
  rintro e wb ⟨rfl, xb⟩
  have XB := Lib.hid (XA.out.trans xb)
  clear xb
  have XL : Hid (Ext w (wb.alloc (.cells #[] 37))) := XB.out.alloc _
  have OL : Hid (OwnL w.heap.size (wb.alloc (.cells #[] 37)) (.slice (some ⟨wb.heap.size, 0, none⟩) 0 0) (dig (binS s 0))) := by
    show OwnL _ _ _ _
    rw [binS, dig_zero]
    exact ⟨.inr ⟨_, rfl, rfl, rfl, fun p hp => by injection hp with hp; subst hp; exact ⟨rfl, by simp⟩⟩, fun x hx => by cases hx⟩
  go_wp2_with fail
  go_loopw [13, 14] (fun v13 v14 wr => ∃ i : Nat, v14 = .int .i64 (i : Int) ∧ i ≤ p ∧ OwnL w.heap.size wr v13 (dig (binS s i)) ∧ Ext w wr) (fun _ v14 _ => p - (intOf v14).toNat)
  case atStart => exact ⟨0, rfl, Nat.zero_le _, OL.out, XL.out⟩
  case round =>
    obtain ⟨i, rfl, hi, hO, hx⟩ := hrel
    have O := Lib.hid hO
    have X := Lib.hid hx
    clear hO hx OL XL
    have hpm := HP.out
    by_cases hip : i < p
    · have t1 : (i : Int) ≤ s := by omega
      have LT := Lib.hid hip
      have IM : Hid (i ≤ s) := by show i ≤ s; omega
      have HB1 : Hid ((dig (binS s i)).length ≤ 2) := W16.out s _ M64.out (binS_le (by omega))
      have HB2 : Hid ((dig (bin s i)).length ≤ 2) := bin_len M64.out
      clear hpm hip hi
      go_wp2_with fail
      refine (choose_n _ i s _ IM.out M64.out rfl).mono ?_
      rintro e wc ⟨rc, rfl, oc, xc⟩
      have OC := Lib.hid oc
      have O := Lib.hid (O.out.ext xc)
      have XC := Lib.hid (X.out.trans xc)
      clear oc xc X
      go_wp2_with fail
      refine (nadd_two (x := binS s i) (y := bin s i) O.out OC.out HB1.out HB2.out).mono ?_
      rintro e wd ⟨pp2, nn2, cc2, rfl, od, xd⟩
      have OD : Hid (OwnL w.heap.size wd (.slice pp2 nn2 cc2) (dig (binS s (i + 1)))) := od.mono XC.out.size
      have XD := Lib.hid (XC.out.trans xd)
      clear od xd
      go_wp2_with fail
      exact ⟨⟨i + 1, by first | rfl | go_num, LT.out, OD.out, XD.out⟩, by simp [intOf]; have := LT.out; omega⟩
    · obtain rfl : p = i := by omega
      have t1 : (s : Int) + 1 ≤ p := by omega
      rw [← hpm, binS_all] at O
      have HM64 : Hid (s ≤ 65536) := by show s ≤ 65536; have := M64.out; omega
      have HLL : Hid (Limbs (wr.alloc (.cells #[.int .u64 1] 37)) (.slice (some ⟨wr.heap.size, 0, none⟩) 1 1) [1]) := limbs_lit wr [1] (by simp [Bs_def]) _ rfl 1 rfl (by rw [Lmax_def]; simp)
      have OE := Lib.hid (O.out.ext ((Ext.refl wr).alloc (.cells #[.int .u64 1] 37)))
      have XE : Hid (Ext w (wr.alloc (.cells #[.int .u64 1] 37))) := X.out.alloc _
      clear hpm hip hi X O
      go_wp2_with fail
      refine (shl_ok HLL.out (by decide) s HM64.out).mono ?_
      rintro e wf ⟨rf, rfl, of, xf⟩
      have OF := Lib.hid of
      have OE := Lib.hid (OE.out.ext xf)
      have XF := Lib.hid (XE.out.trans xf)
      clear of xf
      go_wp2_with fail
      refine (same_bool OE.out.limbs OF.out.limbs true (by simp [val])).mono ?_
      rintro e wg ⟨rfl, xg⟩
      have XG := Lib.hid (XF.out.trans xg)
      clear xg
      go_wp2_with fail
      go_ret
      exact ⟨rfl, XG.out⟩

theorem poolChoices_calls (w : World) (k n : Nat) (hk : k < 256) (hn : n < 256) :
    Calls Try.prog 6 #[.int .u8 (k : Int), .int .u8 (n : Int)] w (Yes w) := by
  have := Nat.mod_lt k (show 0 < n % 65 + 1 by omega)
  rcases Nat.eq_zero_or_pos (n % 65) with h0 | h0
  · exact poolChoices_none w k n _ _ hk hn rfl rfl h0
  · rcases Nat.eq_zero_or_pos (k % (n % 65 + 1)) with h1 | h1
    · exact poolChoices_lo w k n _ _ hk hn rfl rfl h0 h1
    · rcases Nat.lt_or_ge (k % (n % 65 + 1)) (n % 65) with h2 | h2
      · exact poolChoices_mid w k n _ _ hk hn rfl rfl h1 h2
      · exact poolChoices_hi w k n _ _ hk hn rfl rfl h0 (by omega)
end Go.Proofs.Ytkfioaoooodmnaa
