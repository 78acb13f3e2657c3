/- The reference's tables of weights: tombolaref10.Sum, May, Pick, Draw, Share, Cost. -/
import Derived.Test.YtkfioaoooodmnaaGreatDoorRefCost
import Derived.Test.YtkfioaoooodmnaaGreatDoorInts2
namespace Go.Proofs.YtkfioaoooodmnaaGreatDoor
open Go Go.RowKit

set_option maxHeartbeats 2000000 in
set_option maxRecDepth 100000 in
theorem rsum10_calls {w : World} {v : Value} {W : List Int} (hW : Ints w v W) (h2 : W.length ≤ 64) (h3 : okW W) (n : Int) (hn : psum W W.length = n) :
    Calls Tryz.prog 23 #[v] w fun e w' => e = .returned (.int .i64 n) ∧ Ext w w' := by
  obtain ⟨p, c, rfl, g1, g2, g3⟩ := hW.open
  have G3 := Lib.hid g3
  have H3 := Lib.hid h3
  obtain ⟨m, hm⟩ : ∃ m, W.length = m := ⟨_, rfl⟩
  have HM := Lib.hid hm
  have HN := Lib.hid hn
  rw [hm] at h2 ⊢
  have t1 : (m : Int) ≤ 64 := by omega
  clear hW g1 g2 g3 h2 h3 hm hn
  go_enter Tryz.func23, Tryz.ntmps23
  go_wp2_with fail
  go_loopw [3, 4] (fun v3 v4 wr => ∃ i : Nat, v4 = .int .i64 (i : Int) ∧ i ≤ m ∧ v3 = .int .i64 (psum W i) ∧ Ext w wr) (fun _ v4 _ => m - (intOf v4).toNat)
  case atStart => exact ⟨0, rfl, Nat.zero_le _, by rw [psum_zero], Ext.refl _⟩
  case round =>
    obtain ⟨i, rfl, hi, rfl, hx⟩ := hrel
    have X := Lib.hid hx
    clear hx
    by_cases him : i < m
    · obtain ⟨b, o, rfl, q1, q2⟩ := G3.out i (by rw [HM.out]; exact him)
      obtain ⟨x, hx⟩ : ∃ x, W.getD i 0 = x := ⟨_, rfl⟩
      have cx : wr.cell? ⟨b, o + i, none⟩ = some (.int .i64 x) := by rw [Below.cell X.out (p := ⟨b, o + i, none⟩) q1, q2 i (by rw [HM.out]; exact him), hx]
      obtain ⟨s, hs⟩ : ∃ s, psum W i = s := ⟨_, rfl⟩
      have hle := psum_le H3.out i
      have hge := psum_nonneg H3.out i
      have hxx := H3.out.get i
      rw [hs] at hle hge
      rw [hx] at hxx
      obtain ⟨s', hs'⟩ : ∃ s', psum W (i + 1) = s' := ⟨_, rfl⟩
      have hss : s + x = s' := by rw [← hs', psum_succ, hs, hx]
      have hw1 : IntKind.i64.wrap (s + x) = s' := by rw [IntWalk.i64_in _ (by omega)]; exact hss
      have LT := Lib.hid him
      have HS' := Lib.hid hs'
      rw [hs]
      clear q2 hx hs hs' hle hge hxx hss hi
      go_wp2_with fail
      exact ⟨⟨i + 1, by go_num, LT.out, by rw [HS'.out], X.out⟩, by simp [intOf]; have := LT.out; omega⟩
    · obtain rfl : m = i := by omega
      clear hi him
      go_wp2_with fail
      go_ret
      exact ⟨by rw [← HN.out, HM.out]; rfl, X.out⟩

set_option maxHeartbeats 2000000 in
set_option maxRecDepth 100000 in
theorem rpick10_ok {w : World} {v : Value} {W : List Int} (hW : Ints w v W) (hE : errW W = 0) (r : Int) (i : Nat) (hp : IsPick W r i) :
    Calls Tryz.prog 17 #[v, .int .i64 r] w fun e w' => e = .returned (.tuple #[.int .i64 (i : Int), .int .i64 0]) ∧ Ext w w' := by
  obtain ⟨k1, k2, k3, k4⟩ := errW_ok hE
  obtain ⟨p, c, rfl, g1, g2, g3⟩ := hW.open
  have HW := Lib.hid hW
  have G3 := Lib.hid g3
  have OKW := Lib.hid k3
  have W64 := Lib.hid k2
  have HP := Lib.hid hp
  have t0 : 0 ≤ r := Int.le_trans (psum_nonneg k3 i) hp.lo
  obtain ⟨M, hM⟩ : ∃ M, psum W W.length = M := ⟨_, rfl⟩
  have t2 : r + 1 ≤ M := by
    have h1 := psum_mono k3 (show i + 1 ≤ W.length from hp.lt)
    have h2 := hp.hi
    omega
  have HM := Lib.hid hM
  obtain ⟨n, hn⟩ : ∃ n, W.length = n := ⟨_, rfl⟩
  have HN := Lib.hid hn
  have HIN : Hid (i < n) := by rw [← hn]; exact hp.lt
  rw [hn] at k2 HW ⊢
  have t1 : (n : Int) ≤ 64 := by omega
  have RS : Hid (Calls Tryz.prog 23 #[.slice p n c] w fun e w' => e = .returned (.int .i64 M) ∧ Ext w w') := rsum10_calls HW.out W64.out OKW.out M HM.out
  clear hW hE hp k1 k2 k3 k4 g1 g2 g3 hM hn
  go_enter Tryz.func17, Tryz.ntmps17
  go_wp2_with fail
  refine RS.out.mono ?_
  rintro e w1 ⟨rfl, x1⟩
  have X1 := Lib.hid x1
  clear x1 RS
  go_wp2_with fail
  go_loopw [6, 7] (fun v6 v7 wr => ∃ k : Nat, v7 = .int .i64 (k : Int) ∧ k ≤ i ∧ v6 = .int .i64 (psum W k) ∧ Ext w wr) (fun _ v7 _ => n - (intOf v7).toNat)
  case atStart => exact ⟨0, rfl, Nat.zero_le _, by rw [psum_zero], X1.out⟩
  case round =>
    clear X1
    obtain ⟨k, rfl, hk, rfl, hx⟩ := hrel
    have X := Lib.hid hx
    clear hx
    have hkn : k < n := Nat.lt_of_le_of_lt hk HIN.out
    obtain ⟨b, o, rfl, q1, q2⟩ := G3.out k (by rw [HN.out]; exact hkn)
    obtain ⟨x, hx⟩ : ∃ x, W.getD k 0 = x := ⟨_, rfl⟩
    have cx : wr.cell? ⟨b, o + k, none⟩ = some (.int .i64 x) := by rw [Below.cell X.out (p := ⟨b, o + k, none⟩) q1, q2 k (by rw [HN.out]; exact hkn), hx]
    obtain ⟨s, hs⟩ : ∃ s, psum W k = s := ⟨_, rfl⟩
    have hle := psum_le OKW.out k
    have hge := psum_nonneg OKW.out k
    have hxx := OKW.out.get k
    rw [hs] at hle hge
    rw [hx] at hxx
    obtain ⟨s', hs'⟩ : ∃ s', psum W (k + 1) = s' := ⟨_, rfl⟩
    have hss : s + x = s' := by rw [← hs', psum_succ, hs, hx]
    have hw1 : IntKind.i64.wrap (s + x) = s' := by rw [IntWalk.i64_in _ (by omega)]; exact hss
    have HS' := Lib.hid hs'
    have LK := Lib.hid hkn
    rw [hs]
    by_cases hki : k = i
    · subst hki
      have h9 : r + 1 ≤ s' := by have := HP.out.hi; rw [hs'] at this; exact this
      clear q2 hx hs hs' hle hge hxx hss hk
      go_wp2_with fail
      go_ret2
      exact ⟨rfl, X.out⟩
    · have LT : Hid (k + 1 ≤ i) := by show _ ≤ _; omega
      have h9 : s' ≤ r := by have h1 := psum_mono OKW.out LT.out; have h2 := HP.out.lo; rw [hs'] at h1; omega
      clear q2 hx hs hs' hle hge hxx hss hk hki
      go_wp2_with fail
      exact ⟨⟨k + 1, by go_num, LT.out, by rw [HS'.out], X.out⟩, by simp [intOf]; have := LK.out; omega⟩

set_option maxHeartbeats 2000000 in
set_option maxRecDepth 100000 in
theorem rpick10_bad {w : World} {v : Value} {W : List Int} (hW : Ints w v W) (hE : errW W = 0) (r : Int) (hp : r < 0 ∨ psum W W.length ≤ r) :
    Calls Tryz.prog 17 #[v, .int .i64 r] w fun e w' => e = .returned (.tuple #[.int .i64 0, .int .i64 1]) ∧ Ext w w' := by
  obtain ⟨k1, k2, k3, k4⟩ := errW_ok hE
  obtain ⟨M, hM⟩ : ∃ M, psum W W.length = M := ⟨_, rfl⟩
  rw [hM] at hp
  have RS : Hid (Calls Tryz.prog 23 #[v] w fun e w' => e = .returned (.int .i64 M) ∧ Ext w w') := rsum10_calls hW k2 k3 M hM
  clear hW hE k1 k2 k3 k4 hM
  by_cases h0 : r < 0
  · clear hp RS
    go_enter Tryz.func17, Tryz.ntmps17
    go_wp2_with fail
    go_ret2
    exact ⟨rfl, Ext.refl _⟩
  · have h1 : M ≤ r := by omega
    clear hp
    go_enter Tryz.func17, Tryz.ntmps17
    go_wp2_with fail
    refine RS.out.mono ?_
    rintro e w1 ⟨rfl, x1⟩
    have X1 := Lib.hid x1
    clear x1 RS
    go_wp2_with fail
    go_ret2
    exact ⟨rfl, X1.out⟩

theorem okW_of {W : List Int} (h : ∀ k, k < W.length → 0 ≤ W.getD k 0 ∧ W.getD k 0 ≤ 1048576) : okW W := by
  intro x hx
  obtain ⟨k, hk, rfl⟩ := List.getElem_of_mem hx
  have := h k hk
  rwa [getD_lt hk] at this

set_option maxHeartbeats 2000000 in
set_option maxRecDepth 100000 in
theorem rmay10_calls {w : World} {v : Value} {W : List Int} (hW : Ints w v W) (c : Nat) (hc : errW W = c) :
    Calls Tryz.prog 15 #[v] w fun e w' => e = .returned (.int .i64 (c : Int)) ∧ Ext w w' := by
  obtain ⟨p, cap, rfl, g1, g2, g3⟩ := hW.open
  unfold maxLen at g2
  obtain ⟨n, hn⟩ : ∃ n, W.length = n := ⟨_, rfl⟩
  have HN := Lib.hid hn
  have HC := Lib.hid hc
  have HW := Lib.hid hW
  have G3 := Lib.hid g3
  rw [hn] at g1 HW ⊢
  have n1 : (n : Int) ≤ 9223372036854775807 := by omega
  clear hW g1 g2 g3 hc
  by_cases h0 : n = 0
  · have HK : Hid (c = 4) := by show _ = _; rw [← HC.out]; unfold errW; rw [hn, if_pos h0]
    subst h0
    clear hn
    go_enter Tryz.func15, Tryz.ntmps15
    go_wp2_with fail
    go_ret
    exact ⟨by rw [HK.out]; rfl, Ext.refl _⟩
  have z0 : ((n : Int) == 0) = false := by rw [beq_eq_false_iff_ne]; omega
  by_cases h1 : 64 < n
  · have HK : Hid (c = 5) := by show _ = _; rw [← HC.out]; unfold errW; rw [hn, if_neg h0, if_pos h1]
    have t1 : (65 : Int) ≤ n := by omega
    clear hn h0 h1
    go_enter Tryz.func15, Tryz.ntmps15
    go_wp2_with fail
    go_ret
    exact ⟨by rw [HK.out]; rfl, Ext.refl _⟩
  have t1 : (n : Int) ≤ 64 := by omega
  have L1 : Hid (1 ≤ W.length) := by show 1 ≤ _; omega
  have L2 : Hid (W.length ≤ 64) := by show _ ≤ 64; omega
  clear hn h0 h1
  go_enter Tryz.func15, Tryz.ntmps15
  go_wp2_with fail
  go_loopw [3] (fun v3 wr => ∃ i : Nat, v3 = .int .i64 (i : Int) ∧ i ≤ n ∧ Hid (∀ k, k < i → 0 ≤ W.getD k 0 ∧ W.getD k 0 ≤ 1048576) ∧ Ext w wr) (fun v3 _ => n - (intOf v3).toNat)
  case atStart => exact ⟨0, rfl, Nat.zero_le _, fun k hk => absurd hk (Nat.not_lt_zero _), Ext.refl _⟩
  case round =>
    obtain ⟨i, rfl, hi, hok, hx⟩ := hrel
    have X := Lib.hid hx
    clear hx
    by_cases hin : i < n
    · obtain ⟨b, o, rfl, q1, q2⟩ := G3.out i (by rw [HN.out]; exact hin)
      obtain ⟨x, hx⟩ : ∃ x, W.getD i 0 = x := ⟨_, rfl⟩
      have cx : wr.cell? ⟨b, o + i, none⟩ = some (.int .i64 x) := by rw [Below.cell X.out (p := ⟨b, o + i, none⟩) q1, q2 i (by rw [HN.out]; exact hin), hx]
      have LT := Lib.hid hin
      by_cases hx0 : x < 0
      · have HK : Hid (c = 1) := by show _ = _; rw [← HC.out]; exact errW_bad L1.out L2.out (by rw [HN.out]; exact hin) (.inl (by rw [hx]; exact hx0))
        clear q2 hx hi hin hok
        go_wp2_with fail
        go_ret
        exact ⟨by rw [HK.out]; rfl, X.out⟩
      by_cases hx1 : 1048576 < x
      · have HK : Hid (c = 1) := by show _ = _; rw [← HC.out]; exact errW_bad L1.out L2.out (by rw [HN.out]; exact hin) (.inr (by rw [hx]; exact hx1))
        have hx2 : 1048577 ≤ x := by omega
        clear q2 hx hi hin hok hx1
        go_wp2_with fail
        go_ret
        exact ⟨by rw [HK.out]; rfl, X.out⟩
      have HOK : Hid (∀ k, k < i + 1 → 0 ≤ W.getD k 0 ∧ W.getD k 0 ≤ 1048576) := fun k hk => by
        rcases Nat.lt_or_ge k i with h | h
        · exact hok.out k h
        · obtain rfl : k = i := by omega
          rw [hx]; omega
      have hx2 : x ≤ 1048576 := by omega
      have hx3 : 0 ≤ x := by omega
      clear q2 hx hi hin hok hx0 hx1
      go_wp2_with fail
      exact ⟨⟨i + 1, by go_num, LT.out, HOK.out, X.out⟩, by simp [intOf]; have := LT.out; omega⟩
    · obtain rfl : n = i := by omega
      have OKW : Hid (okW W) := okW_of (by rw [HN.out]; exact hok.out)
      obtain ⟨M, hM⟩ : ∃ M, psum W W.length = M := ⟨_, rfl⟩
      have HM := Lib.hid hM
      have RS : Hid (Calls Tryz.prog 23 #[.slice p n cap] wr fun e w' => e = .returned (.int .i64 M) ∧ Ext wr w') := rsum10_calls (HW.out.ext X.out) L2.out OKW.out M HM.out
      by_cases hM0 : M = 0
      · subst hM0
        have HK : Hid (c = 7) := by show _ = _; rw [← HC.out]; exact errW_sum L1.out L2.out OKW.out hM
        clear hM hi hin hok
        go_wp2_with fail
        refine RS.out.mono ?_
        rintro e w1 ⟨rfl, x1⟩
        have X1 := Lib.hid x1
        clear x1 RS
        go_wp2_with fail
        go_ret
        exact ⟨by rw [HK.out]; rfl, X.out.trans X1.out⟩
      · have HK : Hid (c = 0) := by show _ = _; rw [← HC.out]; exact errW_of L1.out L2.out OKW.out (by rw [hM]; exact hM0)
        have hM1 : (M == 0) = false := by rw [beq_eq_false_iff_ne]; exact hM0
        clear hM hi hin hok hM0
        go_wp2_with fail
        refine RS.out.mono ?_
        rintro e w1 ⟨rfl, x1⟩
        have X1 := Lib.hid x1
        clear x1 RS
        go_wp2_with fail
        go_ret
        exact ⟨by rw [HK.out]; rfl, X.out.trans X1.out⟩

set_option maxHeartbeats 2000000 in
set_option maxRecDepth 100000 in
theorem rfdraw_yes {W : List Int} {t a x a' i M : Nat} {v : Value} {S : ByteArray} {w : World} (h : Ints w v W) (hW : errW W = 0) (hc : Cur S t a false w) (ho : okS S.data.toList = true) (ha : a ≤ S.size) (hM : psum W W.length = (M : Int)) (hd : DrawIs S.data.toList M a x true a') (hp : IsPick W x i) (hlt : ∀ W', Mv t w W' → Ints W' v W) :
    Calls Tryz.prog 27 #[v, .pointer (some ⟨t, 0, none⟩)] w fun e w' => e = .returned (.tuple #[.int .i64 (i : Int), .bool true]) ∧ Mv t w w' ∧ Cur S t a' false w' := by
  obtain ⟨k1, k2, k3, k4⟩ := errW_ok hW
  have k5 := psum_le k3 W.length
  have m1 : 1 ≤ M := by omega
  have m2 : (M : Int) ≤ 67108864 := by omega
  have HI := Lib.hid h
  have HE := Lib.hid hW
  have HC := Lib.hid hc
  have HM := Lib.hid hM
  have M1 := Lib.hid m1
  have MB : Hid (M < Bs) := by show M < Bs; rw [Bs_def]; omega
  have RS : Hid (Calls Tryz.prog 23 #[v] w fun e w' => e = .returned (.int .i64 (M : Int)) ∧ Ext w w') := rsum10_calls h k2 k3 M hM
  have hx := hd.lt m1
  have x2 : (x : Int) ≤ 67108864 := by omega
  have HO := Lib.hid ho
  have HA := Lib.hid ha
  have HD := Lib.hid hd
  have HP := Lib.hid hp
  have HL := Lib.hid hlt
  clear h hW hc ho ha hM hd hp k1 k2 k3 k4 k5 m1 hx hlt
  go_enter Tryz.func27, Tryz.ntmps27
  go_wp2_with fail
  refine RS.out.mono ?_
  rintro e w1 ⟨rfl, x1⟩
  have C1 := Lib.hid (HC.out.ext x1)
  have X1 := Lib.hid (x1.mv (Nat.le_of_lt HC.out.lt) : Mv t w w1)
  clear x1 RS
  go_wp2_with fail
  refine (rdraw_ok C1.out HO.out HA.out M MB.out M1.out HD.out).mono ?_
  rintro e w2 ⟨rfl, m2', c2⟩
  have M2 := Lib.hid (X1.out.trans m2')
  have C2 := Lib.hid c2
  clear m2' c2
  go_wp2_with fail
  refine (rpick10_ok (HL.out _ M2.out) HE.out (x : Int) i HP.out).mono ?_
  rintro e w3 ⟨rfl, x3⟩
  have X3 := Lib.hid x3
  clear x3
  go_wp2_with fail
  go_ret2
  exact ⟨rfl, M2.out.trans (X3.out.mv (Nat.le_of_lt C2.out.lt)), C2.out.ext X3.out⟩

set_option maxHeartbeats 2000000 in
set_option maxRecDepth 100000 in
theorem rfdraw_no {W : List Int} {t a x a' M : Nat} {v : Value} {S : ByteArray} {w : World} (h : Ints w v W) (hW : errW W = 0) (hc : Cur S t a false w) (ho : okS S.data.toList = true) (ha : a ≤ S.size) (hM : psum W W.length = (M : Int)) (hd : DrawIs S.data.toList M a x false a') :
    Calls Tryz.prog 27 #[v, .pointer (some ⟨t, 0, none⟩)] w fun e w' => e = .returned (.tuple #[.int .i64 0, .bool false]) ∧ Mv t w w' ∧ Cur S t a' true w' := by
  obtain ⟨k1, k2, k3, k4⟩ := errW_ok hW
  have k5 := psum_le k3 W.length
  have m1 : 1 ≤ M := by omega
  have m2 : (M : Int) ≤ 67108864 := by omega
  have HI := Lib.hid h
  have HE := Lib.hid hW
  have HC := Lib.hid hc
  have HM := Lib.hid hM
  have M1 := Lib.hid m1
  have MB : Hid (M < Bs) := by show M < Bs; rw [Bs_def]; omega
  have RS : Hid (Calls Tryz.prog 23 #[v] w fun e w' => e = .returned (.int .i64 (M : Int)) ∧ Ext w w') := rsum10_calls h k2 k3 M hM
  have HO := Lib.hid ho
  have HA := Lib.hid ha
  have HD := Lib.hid hd
  clear h hW hc ho ha hM hd k1 k2 k3 k4 k5 m1
  go_enter Tryz.func27, Tryz.ntmps27
  go_wp2_with fail
  refine RS.out.mono ?_
  rintro e w1 ⟨rfl, x1⟩
  have C1 := Lib.hid (HC.out.ext x1)
  have X1 := Lib.hid (x1.mv (Nat.le_of_lt HC.out.lt) : Mv t w w1)
  clear x1 RS
  go_wp2_with fail
  refine (rdraw_ok C1.out HO.out HA.out M MB.out M1.out HD.out).mono ?_
  rintro e w2 ⟨rfl, m2', c2⟩
  have M2 := Lib.hid (X1.out.trans m2')
  have C2 := Lib.hid c2
  clear m2' c2
  go_wp2_with fail
  go_ret2
  exact ⟨rfl, M2.out, C2.out⟩

set_option maxHeartbeats 2000000 in
set_option maxRecDepth 100000 in
theorem rfdraw_over {W : List Int} {t a M : Nat} {v : Value} {S : ByteArray} {w : World} (h : Ints w v W) (hW : errW W = 0) (hc : Cur S t a true w) (hM : psum W W.length = (M : Int)) :
    Calls Tryz.prog 27 #[v, .pointer (some ⟨t, 0, none⟩)] w fun e w' => e = .returned (.tuple #[.int .i64 0, .bool false]) ∧ Ext w w' := by
  obtain ⟨k1, k2, k3, k4⟩ := errW_ok hW
  have k5 := psum_le k3 W.length
  have m1 : 1 ≤ M := by omega
  have m2 : (M : Int) ≤ 67108864 := by omega
  have HI := Lib.hid h
  have HE := Lib.hid hW
  have HC := Lib.hid hc
  have HM := Lib.hid hM
  have M1 := Lib.hid m1
  have MB : Hid (M < Bs) := by show M < Bs; rw [Bs_def]; omega
  have RS : Hid (Calls Tryz.prog 23 #[v] w fun e w' => e = .returned (.int .i64 (M : Int)) ∧ Ext w w') := rsum10_calls h k2 k3 M hM
  clear h hW hc hM k1 k2 k3 k4 k5 m1
  go_enter Tryz.func27, Tryz.ntmps27
  go_wp2_with fail
  refine RS.out.mono ?_
  rintro e w1 ⟨rfl, x1⟩
  have C1 := Lib.hid (HC.out.ext x1)
  have X1 := Lib.hid x1
  clear x1 RS
  go_wp2_with fail
  refine (rdraw_over C1.out M MB.out M1.out).mono ?_
  rintro e w2 ⟨rfl, x2⟩
  have X2 := Lib.hid (X1.out.trans x2)
  clear x2
  go_wp2_with fail
  go_ret2
  exact ⟨rfl, X2.out⟩

set_option maxHeartbeats 4000000 in
set_option maxRecDepth 100000 in
theorem rshare10_is {W : List Int} {v : Value} {w : World} (h : Ints w v W) (hW : errW W = 0) (j : Nat) (hi : j < W.length) :
    Calls Tryz.prog 19 #[v, .int .i64 (j : Int)] w (RetR0 w (shareQ W j)) := by
  obtain ⟨p, c, rfl, g1, g2, g3⟩ := h.open
  obtain ⟨M, hM, m1, m2⟩ := psum_nat hW
  obtain ⟨k1, k2, k3, k4⟩ := errW_ok hW
  obtain ⟨n, hn⟩ : ∃ n, W.length = n := ⟨_, rfl⟩
  have HW := Lib.hid h
  have HE := Lib.hid hW
  have OKW := Lib.hid k3
  have W64 := Lib.hid k2
  have G3 := Lib.hid g3
  have HM := Lib.hid hM
  have HN := Lib.hid hn
  have M1 := Lib.hid m1
  have MB : Hid (M < Bs) := by show M < Bs; rw [Bs_def]; omega
  have h6 : (n : Int) ≤ 64 := by omega
  have h7 : (M : Int) ≤ 67108864 := by omega
  have M0 : Hid ((M : Int) ≠ 0) := by show (M : Int) ≠ 0; omega
  have MR : Hid ((-9223372036854775808 : Int) ≤ M ∧ (M : Int) ≤ 9223372036854775807) := ⟨by omega, by omega⟩
  obtain ⟨x, hx⟩ : ∃ x, W.getD j 0 = x := ⟨_, rfl⟩
  have hx1 := k3.get j
  rw [hx] at hx1
  have XR : Hid ((-9223372036854775808 : Int) ≤ x ∧ x ≤ 9223372036854775807) := ⟨by omega, by omega⟩
  have HQ : Hid (Rat.divInt x (M : Int) = shareQ W j) := by show _ = _; unfold shareQ; rw [hx, hM]
  obtain ⟨b, o, rfl, q1, q2⟩ := g3 j hi
  have HCI : Hid (At b (o + j) (.int .i64 x) w) := ⟨by rw [q2 j hi, hx], q1⟩
  have hin : j < n := by omega
  have hini : (j : Int) + 1 ≤ n := by omega
  rw [hn] at HW ⊢
  clear h hW g1 g2 g3 hM m1 m2 k1 k2 k3 k4 hn hx hx1 q1 q2 hi G3
  go_enter Tryz.func19, Tryz.ntmps19
  go_wp2_with fail
  obtain ⟨v1, hv1⟩ : ∃ W, W = (w.alloc (.cells #[.bool false, .slice none 0 0, .slice none 0 0] 37)) := ⟨_, rfl⟩
  have y1 : Ext w v1 := by rw [hv1]; exact ((Ext.refl _).alloc _)
  have b0_0 : Hid (At (w.heap.size) 0 (.bool false) v1) := by rw [hv1]; exact At.ext (At.n0 (by rfl)) (Ext.refl _)
  have b0_1 : Hid (At (w.heap.size) 1 (.slice none 0 0) v1) := by rw [hv1]; exact At.ext (At.n0 (by rfl)) (Ext.refl _)
  have b0_2 : Hid (At (w.heap.size) 2 (.slice none 0 0) v1) := by rw [hv1]; exact At.ext (At.n0 (by rfl)) (Ext.refl _)
  have k0 : Hid (Bx 3 (w.heap.size) v1) := by rw [hv1]; exact Bx.gr (Bx.n0 3 ⟨rfl, by decide⟩ (by decide) noI_s3) (Ext.gr (Ext.refl _))
  have u0 : Hid (w.heap.size < v1.heap.size) := b0_0.out.2
  have e1_ : Ext w v1 := y1
  rw [← hv1]
  clear hv1
  have hkeep1 : AllAt' ([] : List (Nat × Nat × Value)) v1 := AllAt'.nil _
  have hob1 : ObOk w.heap.size v1 (([] : List (Nat × Nat × Value)).map (·.1)) ([(w.heap.size, [(0, .bool false), (1, .slice none 0 0), (2, .slice none 0 0)])] : List (Nat × List (Nat × Value))) := ⟨⟨(by omega), b0_0.out.2, ⟨b0_0.out, ⟨b0_1.out, ⟨b0_2.out, trivial⟩⟩⟩, trivial⟩, trivial⟩
  have hne1 : AllNe (([(w.heap.size, [(0, .bool false), (1, .slice none 0 0), (2, .slice none 0 0)])] : List (Nat × List (Nat × Value))).map (·.1)) := ⟨trivial, trivial⟩
  (try simp only [List.append_eq, List.cons_append, List.nil_append])
  refine wp_region_gen ⟨[15, 16, 17, 18, 19, 20, 21, 22, 23, 5], fun i => false, fun i => ([none, none, none, none, none, none, none, none, none, some (.old 0, 7), none] : List (Option (BoxRef × Nat))).getD i none, fun i => ([Sg.val (.slice (some ⟨b, o, none⟩) n c), Sg.val (.int .i64 (j : Int)), Sg.val (.pointer (some ⟨b, o + j, none⟩)), Sg.val (.int .i64 x), Sg.val (.slice (some ⟨b, o, none⟩) n c), Sg.val (.int .i64 (M : Int)), Sg.two (Sg.ratO w.heap.size (shareQ W j)) (Sg.val (.int .i64 0)), Sg.ratO w.heap.size (shareQ W j), Sg.val (.int .i64 0), Sg.any, Sg.val (.int .i64 0)] : List Sg).getD i Sg.any, [], [(w.heap.size, [(0, .bool false), (1, .slice none 0 0), (2, .slice none 0 0)])]⟩ w.heap.size (by kernel_rfl) (by kernel_rfl) e1_.size ?hfr hkeep1 hob1 hne1 ?hs ?he
  case hfr =>
    intro i v wk hi hst hv
    exact absurd hi (by simp)
  case hs =>
    refine ⟨?_, ?_, ?_, ?_, ?_, ?_, ?_, ?_, ?_, ?_, ?_, trivial⟩
    · refine RStep.op rfl rfl (fun ac wk hp K hK => ?_)
      have t0_ : ac.tmps[0]?.getD undef = .slice (some ⟨b, o, none⟩) n c := hp.slot 0 rfl rfl
      have HP := Lib.hid hp
      clear hp
      go_simp
      refine hK.out _ _ ?_ (Ext.refl _) (fun h => absurd h (by simp))
      exact rfl
    · refine RStep.op rfl rfl (fun ac wk hp K hK => ?_)
      have t1_ : ac.tmps[1]?.getD undef = .int .i64 (j : Int) := hp.slot 1 rfl rfl
      have HP := Lib.hid hp
      clear hp
      go_simp
      refine hK.out _ _ ?_ (Ext.refl _) (fun h => absurd h (by simp))
      exact rfl
    · refine RStep.op rfl rfl (fun ac wk hp K hK => ?_)
      have u0e := hp.get 0 (by decide +kernel) rfl
      have t15_ : ac.tmps[15]?.getD undef = .slice (some ⟨b, o, none⟩) n c := slot_is' u0e
      have u1e := hp.get 1 (by decide +kernel) rfl
      have t16_ : ac.tmps[16]?.getD undef = .int .i64 (j : Int) := slot_is' u1e
      have HP := Lib.hid hp
      clear hp
      go_simp
      refine hK.out _ _ ?_ (Ext.refl _) (fun h => absurd h (by simp))
      exact (by first | rfl | (apply congrArg Value.bool; simp; done) | (apply congrArg Value.bool; simp; omega) | (simp [*]; done))
    · refine RStep.op rfl rfl (fun ac wk hp K hK => ?_)
      have u2e := hp.get 2 (by decide +kernel) rfl
      have t17_ : ac.tmps[17]?.getD undef = .pointer (some ⟨b, o + j, none⟩) := slot_is' u2e
      have HP := Lib.hid hp
      clear hp
      have cx_ := ((HCI.out.ext e1_).blw HP.out.blw HCI.out.2).1
      go_simp
      refine hK.out _ _ ?_ (Ext.refl _) (fun h => absurd h (by simp))
      exact (by first | rfl | (apply congrArg Value.bool; simp; done) | (apply congrArg Value.bool; simp; omega) | (simp [*]; done))
    · refine RStep.op rfl rfl (fun ac wk hp K hK => ?_)
      have t0_ : ac.tmps[0]?.getD undef = .slice (some ⟨b, o, none⟩) n c := hp.slot 0 rfl rfl
      have HP := Lib.hid hp
      clear hp
      go_simp
      refine hK.out _ _ ?_ (Ext.refl _) (fun h => absurd h (by simp))
      exact rfl
    · refine RStep.op rfl rfl (fun ac wk hp K hK => ?_)
      have u4e := hp.get 4 (by decide +kernel) rfl
      have t19_ : ac.tmps[19]?.getD undef = .slice (some ⟨b, o, none⟩) n c := slot_is' u4e
      have HP := Lib.hid hp
      clear hp
      go_simp
      refine (rsum10_calls (HW.out.ext (Ext.below e1_ HP.out.blw)) W64.out OKW.out _ HM.out).mono ?_
      rintro e wk' ⟨rfl, ix⟩
      refine hK.out _ _ ?_ ix (fun h => absurd h (by simp))
      exact rfl
    · refine RStep.op rfl rfl (fun ac wk hp K hK => ?_)
      have u3e := hp.get 3 (by decide +kernel) rfl
      have t18_ : ac.tmps[18]?.getD undef = .int .i64 x := slot_is' u3e
      have u5e := hp.get 5 (by decide +kernel) rfl
      have t20_ : ac.tmps[20]?.getD undef = .int .i64 (M : Int) := slot_is' u5e
      have HP := Lib.hid hp
      clear hp
      go_simp
      refine (over06_is (q := (shareQ W j)) _ x (M : Int) XR.out.1 XR.out.2 MR.out.1 MR.out.2 M0.out HQ.out).mono ?_
      rintro e wk' ⟨sb2, sv2, su2, sm2, sd2, rfl, e2, o2, ix⟩
      obtain ⟨sp2, sl2, sc2, tp2, tl2, tc2, rfl, rfl⟩ := e2.slice
      refine hK.out _ _ ?_ ix (fun h => absurd h (by simp))
      exact ⟨_, _, rfl, ⟨_, _, _, _, _, _, _, _, _, rfl, e2, (o2.mono (Nat.le_trans e1_.size HP.out.gr.size))⟩, rfl⟩
    · refine RStep.op rfl rfl (fun ac wk hp K hK => ?_)
      obtain ⟨_, _, u6e, ⟨u6xb, u6xp, u6xn, u6xc, u6xq, u6xk, u6xd, u6xm, u6xl, rfl, u6xi, u6xo⟩, rfl⟩ := hp.get 6 (by decide +kernel) rfl
      have t21_ : ac.tmps[21]?.getD undef = .tuple #[.agg #[.bool u6xb, .slice u6xp u6xn u6xc, .slice u6xq u6xk u6xd], .int .i64 0] := slot_is' u6e
      have HP := Lib.hid hp
      clear hp
      go_simp
      refine hK.out _ _ ?_ (Ext.refl _) (fun h => absurd h (by simp))
      exact ⟨_, _, _, _, _, _, _, _, _, rfl, u6xi, u6xo⟩
    · refine RStep.op rfl rfl (fun ac wk hp K hK => ?_)
      obtain ⟨_, _, u6e, ⟨u6xb, u6xp, u6xn, u6xc, u6xq, u6xk, u6xd, u6xm, u6xl, rfl, u6xi, u6xo⟩, rfl⟩ := hp.get 6 (by decide +kernel) rfl
      have t21_ : ac.tmps[21]?.getD undef = .tuple #[.agg #[.bool u6xb, .slice u6xp u6xn u6xc, .slice u6xq u6xk u6xd], .int .i64 0] := slot_is' u6e
      have HP := Lib.hid hp
      clear hp
      go_simp
      refine hK.out _ _ ?_ (Ext.refl _) (fun h => absurd h (by simp))
      exact rfl
    · refine RStep.so 0 7 (w.heap.size) rfl rfl rfl (fun ac wk hp => ?_)
      have t4_ : ac.tmps[4]?.getD undef = .pointer (some ⟨w.heap.size, 0, none⟩) := hp.slot 4 rfl rfl
      obtain ⟨u7b, u7p, u7n, u7c, u7q, u7k, u7d, u7m, u7l, u7e, u7i, u7o⟩ := hp.get 7 (by decide +kernel) rfl
      have t22_ : ac.tmps[22]?.getD undef = .agg #[.bool u7b, .slice u7p u7n u7c, .slice u7q u7k u7d] := slot_is' u7e
      obtain ⟨d0, hd0, -⟩ := Bx.cell (k0.out.gr hp.gr) (o := 0) (by decide)
      have fz0 := Bx.free (k0.out.gr hp.gr) 0
      obtain ⟨d1, hd1, -⟩ := Bx.cell (k0.out.gr hp.gr) (o := 1) (by decide)
      have fz1 := Bx.free (k0.out.gr hp.gr) 1
      obtain ⟨d2, hd2, -⟩ := Bx.cell (k0.out.gr hp.gr) (o := 2) (by decide)
      have fz2 := Bx.free (k0.out.gr hp.gr) 2
      refine ⟨3, [.bool u7b, .slice u7p u7n u7c, .slice u7q u7k u7d], (k0.out.gr hp.gr), by rw [u7e]; rfl, rfl, noI_s3, fun K hK => ?_⟩
      have HK := Lib.hid hK
      clear hK hp
      go_simp
      exact HK.out
    · refine RStep.op rfl rfl (fun ac wk hp K hK => ?_)
      have u8e := hp.get 8 (by decide +kernel) rfl
      have t23_ : ac.tmps[23]?.getD undef = .int .i64 0 := slot_is' u8e
      have HP := Lib.hid hp
      clear hp
      go_simp
      refine hK.out _ _ ?_ (Ext.refl _) (fun h => absurd h (by simp))
      exact rfl
  case he =>
    intro ac v2 hM
    have y1_0e := hM.post 0 rfl rfl
    have y1_1e := hM.post 1 rfl rfl
    have y1_2e := hM.post 2 rfl rfl
    have y1_3e := hM.post 3 rfl rfl
    have y1_4e := hM.post 4 rfl rfl
    have y1_5e := hM.post 5 rfl rfl
    obtain ⟨_, _, y1_6e, ⟨y1_6xb, y1_6xp, y1_6xn, y1_6xc, y1_6xq, y1_6xk, y1_6xd, y1_6xm, y1_6xl, rfl, y1_6xi, y1_6xo⟩, rfl⟩ := hM.post 6 rfl rfl
    obtain ⟨y1_7b, y1_7p, y1_7n, y1_7c, y1_7q, y1_7k, y1_7d, y1_7m, y1_7l, y1_7e, y1_7i, y1_7o⟩ := hM.post 7 rfl rfl
    have y1_8e := hM.post 8 rfl rfl
    have y1_10e := hM.post 10 rfl rfl
    have b0_0 : Hid (At (w.heap.size) 0 (.bool y1_7b) v2) := Lib.hid (hM.boxOld 9 0 7 rfl rfl rfl (cs := [.bool y1_7b, .slice y1_7p y1_7n y1_7c, .slice y1_7q y1_7k y1_7d]) (by rw [y1_7e]; rfl) 0 _ rfl)
    have b0_1 : Hid (At (w.heap.size) 1 (.slice y1_7p y1_7n y1_7c) v2) := Lib.hid (hM.boxOld 9 0 7 rfl rfl rfl (cs := [.bool y1_7b, .slice y1_7p y1_7n y1_7c, .slice y1_7q y1_7k y1_7d]) (by rw [y1_7e]; rfl) 1 _ rfl)
    have b0_2 : Hid (At (w.heap.size) 2 (.slice y1_7q y1_7k y1_7d) v2) := Lib.hid (hM.boxOld 9 0 7 rfl rfl rfl (cs := [.bool y1_7b, .slice y1_7p y1_7n y1_7c, .slice y1_7q y1_7k y1_7d]) (by rw [y1_7e]; rfl) 2 _ rfl)
    have gv2 : Gr v1 v2 := hM.gr
    have e2_ : Ext w v2 := Ext.below e1_ hM.blw
    have z0_ : sl ac 15 = .slice (some ⟨b, o, none⟩) n c := y1_0e
    have z1_ : sl ac 16 = .int .i64 (j : Int) := y1_1e
    have z2_ : sl ac 17 = .pointer (some ⟨b, o + j, none⟩) := y1_2e
    have z3_ : sl ac 18 = .int .i64 x := y1_3e
    have z4_ : sl ac 19 = .slice (some ⟨b, o, none⟩) n c := y1_4e
    have z5_ : sl ac 20 = .int .i64 (M : Int) := y1_5e
    have z6_ : sl ac 21 = .tuple #[.agg #[.bool y1_6xb, .slice y1_6xp y1_6xn y1_6xc, .slice y1_6xq y1_6xk y1_6xd], .int .i64 0] := y1_6e
    have z7_ : sl ac 22 = .agg #[.bool y1_7b, .slice y1_7p y1_7n y1_7c, .slice y1_7q y1_7k y1_7d] := y1_7e
    have z8_ : sl ac 23 = .int .i64 0 := y1_8e
    have z10_ : sl ac 5 = .int .i64 0 := y1_10e
    rw [hM.ag.lay]
    simp only [lay, List.foldl_cons, List.foldl_nil, List.setIfInBounds_toArray, List.set_cons_zero, List.set_cons_succ, z0_, z1_, z2_, z3_, z4_, z5_, z6_, z7_, z8_, z10_]
    clear hM hkeep1 hob1 hne1 z0_ z1_ z2_ z3_ z4_ z5_ z6_ z7_ z8_ z10_ y1_0e y1_1e y1_2e y1_3e y1_4e y1_5e y1_6e y1_7e y1_8e y1_10e
    go_wp2_with fail
    have c0 := b0_0.out.1
    have c1 := b0_1.out.1
    have c2 := b0_2.out.1
    refine bodyPost_ret (v := .tuple #[.agg #[.bool y1_7b, .slice y1_7p y1_7n y1_7c, .slice y1_7q y1_7k y1_7d], .int .i64 0]) (by simp [results, Tryz.results19, go_sem, c0, c1, c2]) rfl ?_
    exact ⟨_, _, _, _, _, rfl, y1_7i, (y1_7o), e2_⟩

set_option maxHeartbeats 4000000 in
set_option maxRecDepth 100000 in
theorem rshare10_bad {W : List Int} {v : Value} {w : World} (h : Ints w v W) (hl : W.length ≤ 64) (i : Int) (hi : i < 0 ∨ (W.length : Int) ≤ i) :
    Calls Tryz.prog 19 #[v, .int .i64 i] w (RetRE w 1) := by
  obtain ⟨p, c, rfl, g1, g2, g3⟩ := h.open
  obtain ⟨n, hn⟩ : ∃ n, W.length = n := ⟨_, rfl⟩
  rw [hn] at hi ⊢
  have h6 : (n : Int) ≤ 64 := by omega
  clear h g1 g2 g3 hn hl
  by_cases h0 : i < 0
  · clear hi
    go_enter Tryz.func19, Tryz.ntmps19
    go_wp2_with fail
    obtain ⟨v1, hv1⟩ : ∃ W, W = (w.alloc (.cells #[.bool false, .slice none 0 0, .slice none 0 0] 37)) := ⟨_, rfl⟩
    have y1 : Ext w v1 := by rw [hv1]; exact ((Ext.refl _).alloc _)
    have b0_0 : Hid (At (w.heap.size) 0 (.bool false) v1) := by rw [hv1]; exact At.ext (At.n0 (by rfl)) (Ext.refl _)
    have b0_1 : Hid (At (w.heap.size) 1 (.slice none 0 0) v1) := by rw [hv1]; exact At.ext (At.n0 (by rfl)) (Ext.refl _)
    have b0_2 : Hid (At (w.heap.size) 2 (.slice none 0 0) v1) := by rw [hv1]; exact At.ext (At.n0 (by rfl)) (Ext.refl _)
    have k0 : Hid (Bx 3 (w.heap.size) v1) := by rw [hv1]; exact Bx.gr (Bx.n0 3 ⟨rfl, by decide⟩ (by decide) noI_s3) (Ext.gr (Ext.refl _))
    have u0 : Hid (w.heap.size < v1.heap.size) := b0_0.out.2
    have e1_ : Ext w v1 := y1
    rw [← hv1]
    clear hv1
    have c0 := b0_0.out.1
    have c1 := b0_1.out.1
    have c2 := b0_2.out.1
    refine bodyPost_ret (v := .tuple #[.agg #[.bool false, .slice none 0 0, .slice none 0 0], .int .i64 1]) (by simp [results, Tryz.results19, go_sem, c0, c1, c2]) rfl ?_
    exact ⟨rfl, e1_⟩
  · have h1 : (n : Int) ≤ i := by omega
    clear hi
    go_enter Tryz.func19, Tryz.ntmps19
    go_wp2_with fail
    obtain ⟨v1, hv1⟩ : ∃ W, W = (w.alloc (.cells #[.bool false, .slice none 0 0, .slice none 0 0] 37)) := ⟨_, rfl⟩
    have y1 : Ext w v1 := by rw [hv1]; exact ((Ext.refl _).alloc _)
    have b0_0 : Hid (At (w.heap.size) 0 (.bool false) v1) := by rw [hv1]; exact At.ext (At.n0 (by rfl)) (Ext.refl _)
    have b0_1 : Hid (At (w.heap.size) 1 (.slice none 0 0) v1) := by rw [hv1]; exact At.ext (At.n0 (by rfl)) (Ext.refl _)
    have b0_2 : Hid (At (w.heap.size) 2 (.slice none 0 0) v1) := by rw [hv1]; exact At.ext (At.n0 (by rfl)) (Ext.refl _)
    have k0 : Hid (Bx 3 (w.heap.size) v1) := by rw [hv1]; exact Bx.gr (Bx.n0 3 ⟨rfl, by decide⟩ (by decide) noI_s3) (Ext.gr (Ext.refl _))
    have u0 : Hid (w.heap.size < v1.heap.size) := b0_0.out.2
    have e1_ : Ext w v1 := y1
    rw [← hv1]
    clear hv1
    have c0 := b0_0.out.1
    have c1 := b0_1.out.1
    have c2 := b0_2.out.1
    refine bodyPost_ret (v := .tuple #[.agg #[.bool false, .slice none 0 0, .slice none 0 0], .int .i64 1]) (by simp [results, Tryz.results19, go_sem, c0, c1, c2]) rfl ?_
    exact ⟨rfl, e1_⟩

set_option maxHeartbeats 4000000 in
set_option maxRecDepth 100000 in
theorem rfcost10_is {W : List Int} {v : Value} {w : World} (h : Ints w v W) (hW : errW W = 0) (M : Nat) (hM : psum W W.length = (M : Int)) :
    Calls Tryz.prog 31 #[v] w (RetR w (costQ M)) := by
  obtain ⟨k1, k2, k3, k4⟩ := errW_ok hW
  have k5 := psum_le k3 W.length
  have HW := Lib.hid h
  have OKW := Lib.hid k3
  have W64 := Lib.hid k2
  have HM := Lib.hid hM
  have M1 : Hid (1 ≤ M) := by show 1 ≤ M; omega
  have MB : Hid (M < Bs) := by show M < Bs; rw [Bs_def]; omega
  have h7 : (M : Int) ≤ 67108864 := by omega
  clear h hW hM k1 k2 k3 k4 k5
  go_enter Tryz.func31, Tryz.ntmps31
  go_wp2_with fail
  obtain ⟨v1, hv1⟩ : ∃ W, W = (w.alloc (.cells #[.bool false, .slice none 0 0, .slice none 0 0] 37)) := ⟨_, rfl⟩
  have y1 : Ext w v1 := by rw [hv1]; exact ((Ext.refl _).alloc _)
  have b0_0 : Hid (At (w.heap.size) 0 (.bool false) v1) := by rw [hv1]; exact At.ext (At.n0 (by rfl)) (Ext.refl _)
  have b0_1 : Hid (At (w.heap.size) 1 (.slice none 0 0) v1) := by rw [hv1]; exact At.ext (At.n0 (by rfl)) (Ext.refl _)
  have b0_2 : Hid (At (w.heap.size) 2 (.slice none 0 0) v1) := by rw [hv1]; exact At.ext (At.n0 (by rfl)) (Ext.refl _)
  have k0 : Hid (Bx 3 (w.heap.size) v1) := by rw [hv1]; exact Bx.gr (Bx.n0 3 ⟨rfl, by decide⟩ (by decide) noI_s3) (Ext.gr (Ext.refl _))
  have u0 : Hid (w.heap.size < v1.heap.size) := b0_0.out.2
  have e1_ : Ext w v1 := y1
  rw [← hv1]
  clear hv1
  refine (rsum10_calls (HW.out.ext y1) W64.out OKW.out _ HM.out).mono ?_
  rintro e w2 ⟨rfl, x2⟩
  have e2_ : Ext w w2 := Ext.trans e1_ x2
  go_wp2_with fail
  refine (rcost9_is M MB.out M1.out).mono ?_
  rintro e w3 ⟨sb2, sv2, su2, sm2, sd2, rfl, e2, o2, x3⟩
  have e3_ : Ext w w3 := Ext.trans e2_ x3
  obtain ⟨sp2, sl2, sc2, tp2, tl2, tc2, rfl, rfl⟩ := e2.slice
  have g0_0 := (b0_0.out.ext (x2.trans x3)).1
  have g0_1 := (b0_1.out.ext (x2.trans x3)).1
  have g0_2 := (b0_2.out.ext (x2.trans x3)).1
  have z0_0 := (k0.out.gr (x2.gr.trans x3.gr)).free 0
  have z0_1 := (k0.out.gr (x2.gr.trans x3.gr)).free 1
  have z0_2 := (k0.out.gr (x2.gr.trans x3.gr)).free 2
  have f0 : w.heap.size < w3.heap.size := (b0_0.out.ext (x2.trans x3)).2
  have ff0 : w.heap.size < w3.heap.size + 1 := Nat.lt_succ_of_lt f0
  go_wp2_with fail
  obtain ⟨v4, hv4⟩ : ∃ W, W = (((w3.setCell ⟨w.heap.size, 0, none⟩ (.bool sb2)).setCell ⟨w.heap.size, 1, none⟩ (.slice sp2 sl2 sc2)).setCell ⟨w.heap.size, 2, none⟩ (.slice tp2 tl2 tc2)) := ⟨_, rfl⟩
  have sv4 : v4 = setRow (w.heap.size) 0 [.bool sb2, .slice sp2 sl2 sc2, .slice tp2 tl2 tc2] w3 := hv4
  have uv4 := setRow_bx' (o := 0) (cs := [.bool sb2, .slice sp2 sl2 sc2, .slice tp2 tl2 tc2]) (k0.out.gr (x2.gr.trans x3.gr)) (by simp) noI_s3
  have y4 : Gr w3 v4 := by rw [sv4]; exact setRow_gr' (o := 0) (cs := [.bool sb2, .slice sp2 sl2 sc2, .slice tp2 tl2 tc2]) (k0.out.gr (x2.gr.trans x3.gr)) (by simp) noI_s3
  have t4 : Hid (∀ t o u, t ≠ (w.heap.size) → At t o u w3 → At t o u v4) := fun t o u h k => by rw [sv4]; exact k.setRow h _ _
  have e4_ : Ext w v4 := by rw [sv4]; exact setRow_below _ _ (by omega) _ _ e3_
  have zz4 : v4.heap.size = w3.heap.size := by rw [sv4, setRow_size]
  have b0_0 : Hid (At (w.heap.size) 0 (.bool sb2) v4) := by rw [sv4]; exact uv4.2.1 0 _ rfl
  have b0_1 : Hid (At (w.heap.size) 1 (.slice sp2 sl2 sc2) v4) := by rw [sv4]; exact uv4.2.1 1 _ rfl
  have b0_2 : Hid (At (w.heap.size) 2 (.slice tp2 tl2 tc2) v4) := by rw [sv4]; exact uv4.2.1 2 _ rfl
  have k0 : Hid (Bx 3 (w.heap.size) v4) := by rw [sv4]; exact uv4.1
  rw [← hv4]
  clear hv4 sv4 uv4
  obtain ⟨v5, hv5⟩ : ∃ W, W = (v4.alloc (.cells #[.bool sb2, .slice sp2 sl2 sc2, .slice tp2 tl2 tc2] 37)) := ⟨_, rfl⟩
  have y5 : Ext v4 v5 := by rw [hv5]; exact ((Ext.refl _).alloc _)
  have b1_0 : Hid (At (w3.heap.size) 0 (.bool sb2) v5) := by rw [← zz4, hv5]; exact At.ext (At.n0 (by rfl)) (Ext.refl _)
  have b1_1 : Hid (At (w3.heap.size) 1 (.slice sp2 sl2 sc2) v5) := by rw [← zz4, hv5]; exact At.ext (At.n0 (by rfl)) (Ext.refl _)
  have b1_2 : Hid (At (w3.heap.size) 2 (.slice tp2 tl2 tc2) v5) := by rw [← zz4, hv5]; exact At.ext (At.n0 (by rfl)) (Ext.refl _)
  have k1 : Hid (Bx 3 (w3.heap.size) v5) := by rw [← zz4, hv5]; exact Bx.gr (Bx.n0 3 ⟨rfl, by decide⟩ (by decide) noI_s3) (Ext.gr (Ext.refl _))
  have u1 : Hid (w3.heap.size < v5.heap.size) := b1_0.out.2
  have e5_ : Ext w v5 := Ext.trans e4_ y5
  rw [← hv5]
  clear hv5
  have c0 := (b0_0.out.ext y5).1
  have c1 := (b0_1.out.ext y5).1
  have c2 := (b0_2.out.ext y5).1
  refine bodyPost_ret (v := .agg #[.bool sb2, .slice sp2 sl2 sc2, .slice tp2 tl2 tc2]) (by simp [results, Tryz.results31, go_sem, c0, c1, c2]) rfl ?_
  exact ⟨_, _, _, _, _, rfl, (e2.gr (y4.trans y5.gr)), ((o2.gr (y4.trans y5.gr)).mono e2_.size), e5_⟩

set_option maxHeartbeats 4000000 in
set_option maxRecDepth 100000 in
theorem fshare_bad {W : List Int} {s : Nat} {p : Option Addr} {cap : Nat} {w : World} (h : Tab W s p cap w) (hW : errW W = 0) (i : Int) (hi : i < 0 ∨ (W.length : Int) ≤ i) :
    Calls Tryz.prog 18 #[.pointer (some ⟨s, 0, none⟩), .int .i64 i] w (RetRE w 1) := by
  obtain ⟨k1, k2, k3, k4⟩ := errW_ok hW
  obtain ⟨n, hn⟩ : ∃ n, W.length = n := ⟨_, rfl⟩
  have h5 : ((n : Int) == 0) = false := by rw [beq_eq_false_iff_ne]; omega
  have h6 : (n : Int) ≤ 64 := by omega
  rw [hn] at hi
  have HN := Lib.hid hn
  have H := Lib.hid h
  clear h hn k1 k2 k3 k4 hW
  by_cases h0 : i < 0
  · clear hi
    go_enter Tryz.func18, Tryz.ntmps18
    go_wp2_with fail
    obtain ⟨v1, hv1⟩ : ∃ W, W = (w.alloc (.cells #[.bool false, .slice none 0 0, .slice none 0 0] 37)) := ⟨_, rfl⟩
    have y1 : Ext w v1 := by rw [hv1]; exact ((Ext.refl _).alloc _)
    have b0_0 : Hid (At (w.heap.size) 0 (.bool false) v1) := by rw [hv1]; exact At.ext (At.n0 (by rfl)) (Ext.refl _)
    have b0_1 : Hid (At (w.heap.size) 1 (.slice none 0 0) v1) := by rw [hv1]; exact At.ext (At.n0 (by rfl)) (Ext.refl _)
    have b0_2 : Hid (At (w.heap.size) 2 (.slice none 0 0) v1) := by rw [hv1]; exact At.ext (At.n0 (by rfl)) (Ext.refl _)
    have k0 : Hid (Bx 3 (w.heap.size) v1) := by rw [hv1]; exact Bx.gr (Bx.n0 3 ⟨rfl, by decide⟩ (by decide) noI_s3) (Ext.gr (Ext.refl _))
    have u0 : Hid (w.heap.size < v1.heap.size) := b0_0.out.2
    have e1_ : Ext w v1 := y1
    rw [← hv1]
    clear hv1
    refine (flen_ext (H.out.ext y1) _ HN.out).mono ?_
    rintro e w2 ⟨rfl, x2⟩
    have e2_ : Ext w w2 := Ext.trans e1_ x2
    have g0_0 := (b0_0.out.ext x2).1
    have g0_1 := (b0_1.out.ext x2).1
    have g0_2 := (b0_2.out.ext x2).1
    have z0_0 := (k0.out.gr x2.gr).free 0
    have z0_1 := (k0.out.gr x2.gr).free 1
    have z0_2 := (k0.out.gr x2.gr).free 2
    have f0 : w.heap.size < w2.heap.size := (b0_0.out.ext x2).2
    have ff0 : w.heap.size < w2.heap.size + 1 := Nat.lt_succ_of_lt f0
    go_wp2_with fail
    obtain ⟨v3, hv3⟩ : ∃ W, W = (((w2.setCell ⟨w.heap.size, 0, none⟩ (.bool false)).setCell ⟨w.heap.size, 1, none⟩ (.slice none 0 0)).setCell ⟨w.heap.size, 2, none⟩ (.slice none 0 0)) := ⟨_, rfl⟩
    have sv3 : v3 = setRow (w.heap.size) 0 [.bool false, .slice none 0 0, .slice none 0 0] w2 := hv3
    have uv3 := setRow_bx' (o := 0) (cs := [.bool false, .slice none 0 0, .slice none 0 0]) (k0.out.gr x2.gr) (by simp) noI_s3
    have y3 : Gr w2 v3 := by rw [sv3]; exact setRow_gr' (o := 0) (cs := [.bool false, .slice none 0 0, .slice none 0 0]) (k0.out.gr x2.gr) (by simp) noI_s3
    have t3 : Hid (∀ t o u, t ≠ (w.heap.size) → At t o u w2 → At t o u v3) := fun t o u h k => by rw [sv3]; exact k.setRow h _ _
    have e3_ : Ext w v3 := by rw [sv3]; exact setRow_below _ _ (by omega) _ _ e2_
    have b0_0 : Hid (At (w.heap.size) 0 (.bool false) v3) := by rw [sv3]; exact uv3.2.1 0 _ rfl
    have b0_1 : Hid (At (w.heap.size) 1 (.slice none 0 0) v3) := by rw [sv3]; exact uv3.2.1 1 _ rfl
    have b0_2 : Hid (At (w.heap.size) 2 (.slice none 0 0) v3) := by rw [sv3]; exact uv3.2.1 2 _ rfl
    have k0 : Hid (Bx 3 (w.heap.size) v3) := by rw [sv3]; exact uv3.1
    rw [← hv3]
    clear hv3 sv3 uv3
    have c0 := b0_0.out.1
    have c1 := b0_1.out.1
    have c2 := b0_2.out.1
    refine bodyPost_ret (v := .tuple #[.agg #[.bool false, .slice none 0 0, .slice none 0 0], .int .i64 1]) (by simp [results, Tryz.results18, go_sem, c0, c1, c2]) rfl ?_
    exact ⟨rfl, e3_⟩
  · have h1 : (n : Int) ≤ i := by omega
    clear hi
    go_enter Tryz.func18, Tryz.ntmps18
    go_wp2_with fail
    obtain ⟨v1, hv1⟩ : ∃ W, W = (w.alloc (.cells #[.bool false, .slice none 0 0, .slice none 0 0] 37)) := ⟨_, rfl⟩
    have y1 : Ext w v1 := by rw [hv1]; exact ((Ext.refl _).alloc _)
    have b0_0 : Hid (At (w.heap.size) 0 (.bool false) v1) := by rw [hv1]; exact At.ext (At.n0 (by rfl)) (Ext.refl _)
    have b0_1 : Hid (At (w.heap.size) 1 (.slice none 0 0) v1) := by rw [hv1]; exact At.ext (At.n0 (by rfl)) (Ext.refl _)
    have b0_2 : Hid (At (w.heap.size) 2 (.slice none 0 0) v1) := by rw [hv1]; exact At.ext (At.n0 (by rfl)) (Ext.refl _)
    have k0 : Hid (Bx 3 (w.heap.size) v1) := by rw [hv1]; exact Bx.gr (Bx.n0 3 ⟨rfl, by decide⟩ (by decide) noI_s3) (Ext.gr (Ext.refl _))
    have u0 : Hid (w.heap.size < v1.heap.size) := b0_0.out.2
    have e1_ : Ext w v1 := y1
    rw [← hv1]
    clear hv1
    refine (flen_ext (H.out.ext y1) _ HN.out).mono ?_
    rintro e w2 ⟨rfl, x2⟩
    have e2_ : Ext w w2 := Ext.trans e1_ x2
    go_wp2_with fail
    refine (flen_ext (H.out.ext (y1.trans x2)) _ HN.out).mono ?_
    rintro e w3 ⟨rfl, x3⟩
    have e3_ : Ext w w3 := Ext.trans e2_ x3
    have g0_0 := (b0_0.out.ext (x2.trans x3)).1
    have g0_1 := (b0_1.out.ext (x2.trans x3)).1
    have g0_2 := (b0_2.out.ext (x2.trans x3)).1
    have z0_0 := (k0.out.gr (x2.gr.trans x3.gr)).free 0
    have z0_1 := (k0.out.gr (x2.gr.trans x3.gr)).free 1
    have z0_2 := (k0.out.gr (x2.gr.trans x3.gr)).free 2
    have f0 : w.heap.size < w3.heap.size := (b0_0.out.ext (x2.trans x3)).2
    have ff0 : w.heap.size < w3.heap.size + 1 := Nat.lt_succ_of_lt f0
    go_wp2_with fail
    obtain ⟨v4, hv4⟩ : ∃ W, W = (((w3.setCell ⟨w.heap.size, 0, none⟩ (.bool false)).setCell ⟨w.heap.size, 1, none⟩ (.slice none 0 0)).setCell ⟨w.heap.size, 2, none⟩ (.slice none 0 0)) := ⟨_, rfl⟩
    have sv4 : v4 = setRow (w.heap.size) 0 [.bool false, .slice none 0 0, .slice none 0 0] w3 := hv4
    have uv4 := setRow_bx' (o := 0) (cs := [.bool false, .slice none 0 0, .slice none 0 0]) (k0.out.gr (x2.gr.trans x3.gr)) (by simp) noI_s3
    have y4 : Gr w3 v4 := by rw [sv4]; exact setRow_gr' (o := 0) (cs := [.bool false, .slice none 0 0, .slice none 0 0]) (k0.out.gr (x2.gr.trans x3.gr)) (by simp) noI_s3
    have t4 : Hid (∀ t o u, t ≠ (w.heap.size) → At t o u w3 → At t o u v4) := fun t o u h k => by rw [sv4]; exact k.setRow h _ _
    have e4_ : Ext w v4 := by rw [sv4]; exact setRow_below _ _ (by omega) _ _ e3_
    have b0_0 : Hid (At (w.heap.size) 0 (.bool false) v4) := by rw [sv4]; exact uv4.2.1 0 _ rfl
    have b0_1 : Hid (At (w.heap.size) 1 (.slice none 0 0) v4) := by rw [sv4]; exact uv4.2.1 1 _ rfl
    have b0_2 : Hid (At (w.heap.size) 2 (.slice none 0 0) v4) := by rw [sv4]; exact uv4.2.1 2 _ rfl
    have k0 : Hid (Bx 3 (w.heap.size) v4) := by rw [sv4]; exact uv4.1
    rw [← hv4]
    clear hv4 sv4 uv4
    have c0 := b0_0.out.1
    have c1 := b0_1.out.1
    have c2 := b0_2.out.1
    refine bodyPost_ret (v := .tuple #[.agg #[.bool false, .slice none 0 0, .slice none 0 0], .int .i64 1]) (by simp [results, Tryz.results18, go_sem, c0, c1, c2]) rfl ?_
    exact ⟨rfl, e4_⟩

theorem retR_f {w w' : World} {q : Rat} {e : Ending} (h : RetR w q e w') : ∃ b p n k p' n' k' m d, e = .returned (.agg #[.bool b, .slice p n k, .slice p' n' k']) ∧ IsR w' b (.slice p n k) (.slice p' n' k') m d q ∧ Ext w w' := by
  obtain ⟨b, v, u, m, d, rfl, h1, h2, h3⟩ := h
  obtain ⟨a, n, c, a', n', c', rfl, rfl⟩ := h1.slice
  exact ⟨b, a, n, c, a', n', c', m, d, rfl, h1, h3⟩
/-- the place that any number picks, or why there is none -/
theorem pick_both {W : List Int} (hE : errW W = 0) (r : Int) : ∃ a c : Int, (∀ (s : Nat) (p : Option Addr) (cap : Nat) (w : World), Tab W s p cap w → Calls Tryz.prog 16 #[.pointer (some ⟨s, 0, none⟩), .int .i64 r] w fun e w' => e = .returned (.tuple #[.int .i64 a, .int .i64 c]) ∧ Ext w w') ∧
    ∀ (v : Value) (w : World), Ints w v W → Calls Tryz.prog 17 #[v, .int .i64 r] w fun e w' => e = .returned (.tuple #[.int .i64 a, .int .i64 c]) ∧ Ext w w' := by
  by_cases h : r < 0 ∨ psum W W.length ≤ r
  · exact ⟨0, 1, fun _ _ _ _ t => fpick_bad t hE r h, fun _ _ t => rpick10_bad t hE r h⟩
  · obtain ⟨i, hi⟩ := pick_exists (W := W) (r := r) (by omega) (by omega)
    exact ⟨i, 0, fun _ _ _ _ t => fpick_ok t hE r i hi, fun _ _ t => rpick10_ok t hE r i hi⟩
/-- a place's share, or why it has none -/
theorem share_both {W : List Int} (hE : errW W = 0) (i : Int) : ∃ (x : Bool × List Nat × List Nat) (c : Nat), (∀ (s : Nat) (p : Option Addr) (cap : Nat) (w : World), Tab W s p cap w → Calls Tryz.prog 18 #[.pointer (some ⟨s, 0, none⟩), .int .i64 i] w (RetF w x c)) ∧
    ∀ (v : Value) (w : World), Ints w v W → Calls Tryz.prog 19 #[v, .int .i64 i] w (RetF w x c) := by
  by_cases h : i < 0 ∨ (W.length : Int) ≤ i
  · exact ⟨fr0, 1, fun _ _ _ _ t => (fshare_bad t hE i h).mono fun _ _ h => retRE_f (k := 1) h, fun _ _ t => (rshare10_bad t (errW_ok hE).2.1 i h).mono fun _ _ h => retRE_f (k := 1) h⟩
  · obtain ⟨j, rfl⟩ : ∃ j : Nat, i = (j : Int) := ⟨i.toNat, by omega⟩
    exact ⟨frQ (shareQ W j), 0, fun _ _ _ _ t => (fshare_is t hE j (by omega)).mono fun _ _ h => retR0_f h, fun _ _ t => (rshare10_is t hE j (by omega)).mono fun _ _ h => retR0_f h⟩
/-- the place that is drawn, and what is left -/
theorem draw_both {W : List Int} (hE : errW W = 0) {S : ByteArray} (ho : okS S.data.toList = true) (a : Nat) (ha : a ≤ S.size) (ov : Bool) : ∃ (k : Int) (y : Bool) (a' : Nat) (ov' : Bool), a' ≤ S.size ∧
    (∀ (s t : Nat) (p : Option Addr) (cap : Nat) (w : World), Tab W s p cap w → Cur S t a ov w → s ≠ t → Calls Tryz.prog 26 #[.pointer (some ⟨s, 0, none⟩), .pointer (some ⟨t, 0, none⟩)] w fun e w' => e = .returned (.tuple #[.int .i64 k, .bool y]) ∧ Mv t w w' ∧ Cur S t a' ov' w') ∧
    ∀ (v : Value) (t : Nat) (w : World), Ints w v W → Cur S t a ov w → (∀ W', Mv t w W' → Ints W' v W) → Calls Tryz.prog 27 #[v, .pointer (some ⟨t, 0, none⟩)] w fun e w' => e = .returned (.tuple #[.int .i64 k, .bool y]) ∧ Mv t w w' ∧ Cur S t a' ov' w' := by
  obtain ⟨M, hM, m1, m2⟩ := psum_nat hE
  cases ov with
  | true =>
    refine ⟨0, false, a, true, ha, fun _ _ _ _ _ h c _ => (fdraw_over h hE c).mono ?_, fun _ _ _ h c _ => (rfdraw_over h hE c hM).mono ?_⟩
    · rintro e w' ⟨h1, h2⟩
      exact ⟨h1, h2.mv (Nat.le_of_lt c.lt), c.ext h2⟩
    · rintro e w' ⟨h1, h2⟩
      exact ⟨h1, h2.mv (Nat.le_of_lt c.lt), c.ext h2⟩
  | false =>
    obtain ⟨x, y, a', hd⟩ := drawIs S.data.toList M a
    have hle := (hd.le (by rw [← Lib.size_eq S]; exact ha)).2
    rw [← Lib.size_eq S] at hle
    cases y with
    | true =>
      obtain ⟨i, hi⟩ := pick_exists (W := W) (r := (x : Int)) (by omega) (by have := hd.lt m1; omega)
      exact ⟨i, true, a', false, hle, fun _ _ _ _ _ h c n => fdraw_yes h hE c n ho ha hM hd hi, fun _ _ _ h c n => rfdraw_yes h hE c ho ha hM hd hi n⟩
    | false => exact ⟨0, false, a', true, hle, fun _ _ _ _ _ h c n => fdraw_no h hE c ho ha hM hd, fun _ _ _ h c n => rfdraw_no h hE c ho ha hM hd⟩
end Go.Proofs.YtkfioaoooodmnaaGreatDoor
