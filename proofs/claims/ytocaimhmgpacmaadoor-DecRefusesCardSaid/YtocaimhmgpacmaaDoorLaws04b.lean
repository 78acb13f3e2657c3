/- The laws on decimal digits, second part: DecMany, DecDigit, DecRefuses, DecSmall. -/
import Derived.Test.YtocaimhmgpacmaaDoorLaws04a
import Derived.Deep.RegionHeld3
import Derived.IntWalk
namespace Go.Proofs.YtocaimhmgpacmaaDoor
open Go Go.RowKit

theorem power_int (w : World) (n : Nat) (hn : n ≤ 20000) (k : Int) (hk : k = (n : Int)) : Calls Tryd.prog 23 #[.int .i64 k] w (RetNat w (10 ^ n)) := by
  subst hk; exact power_calls w n hn
theorem zero_bool {w : World} {v : Value} {A : List Nat} (hA : Limbs w v A) (hlen : A.length ≤ Lmax) (b : Bool) (hb : decide (val A = 0) = b) :
    Calls Tryd.prog 27 #[v] w fun e w' => e = .returned (.bool b) ∧ w = w' :=
  (zero_calls hA hlen).mono fun _ _ ⟨h1, h2⟩ => ⟨by rw [h1, hb], h2⟩
theorem cmp_int {w : World} {v u : Value} {A B : List Nat} (hA : Limbs w v A) (hB : Limbs w u B) (hlA : A.length ≤ Lmax) (hlB : B.length ≤ Lmax) (k : Int) (hk : cmpN (val A) (val B) = k) :
    Calls Tryd.prog 25 #[v, u] w fun e w' => e = .returned (.int .i64 k) ∧ w = w' :=
  (cmp_calls hA hB hlA hlB).mono fun _ _ ⟨h1, h2⟩ => ⟨by rw [h1, hk], h2⟩
theorem lmax_16 {n : Nat} (h : n ≤ 65536) : n ≤ Lmax := by rw [Lmax_def]; omega
theorem dig_pow_len {n : Nat} (h : n ≤ 20000) : (dig (10 ^ n)).length ≤ Lmax :=
  lmax_16 (Nat.le_trans (dig_len_le (k := n + 1) (Nat.lt_of_le_of_lt (ten_bs n) (Nat.pow_lt_pow_succ one_lt_Bs))) (by omega))

set_option maxHeartbeats 2000000 in
theorem decMany_calls {w : World} {v : Value} {A : List Nat} (hA : Limbs w v A) : Calls Tryd.prog 11 #[v] w (Yes w) := by
  obtain ⟨pa, pc, rfl, -, -, -⟩ := hA.open
  by_cases h24 : 24 < A.length
  · go_enter Tryd.func11, Tryd.ntmps11
    go_wp2_with fail
    refine (long1_calls hA true (by simpa using h24)).mono ?_
    rintro e w0 ⟨rfl, rfl⟩
    go_wp2_with fail
    refine (awake_calls _).mono ?_
    rintro e w1 ⟨rfl, x1⟩
    go_wp2_with fail
    go_ret
    exact ⟨rfl, ((Ext.refl w).alloc _).trans x1⟩
  obtain ⟨s, hs⟩ := str_of (showL (val A))
  obtain ⟨k, hk⟩ : ∃ k : Nat, k = (showL (val A)).length := ⟨_, rfl⟩
  have HS := Lib.hid hs
  have HK := Lib.hid hk
  have k1 : 1 ≤ k := by rw [hk]; exact showL_pos_len _
  have k2 : k ≤ 480 := by rw [hk]; exact showL_600 hA.2 (by omega)
  have k3 : (k : Int) ≤ 600 := by omega
  have hsk : (s.size : Int) = (k : Int) := by rw [hk, Lib.size_eq, hs]
  have hln : A.length ≤ 65536 := by omega
  have HLT : Hid (val A < 10 ^ k) := by show _ < _; rw [hk]; exact showL_lt _
  have HGE : Hid (val A ≠ 0 → 10 ^ (k - 1) ≤ val A) := by intro h; rw [hk]; exact showL_ge h
  clear hs hk
  go_enter Tryd.func11, Tryd.ntmps11
  go_wp2_with fail
  refine (long1_calls hA false (by simpa using h24)).mono ?_
  rintro e w0 ⟨rfl, rfl⟩
  have y0 := (Ext.refl w).alloc (.cells #[.slice pa A.length pc] 23)
  go_wp2_with fail
  refine (awake_calls _).mono ?_
  rintro e w1 ⟨rfl, x1⟩
  have y1 := y0.trans x1
  go_wp2_with fail
  refine (many_int (hA.ext y1) hln (k : Int) (by rw [HK.out])).mono ?_
  rintro e w2 ⟨rfl, x2⟩
  have y2 := y1.trans x2
  go_wp2_with fail
  refine (show_str (hA.ext y2) hln s HS.out).mono ?_
  rintro e w3 ⟨rfl, x3⟩
  have y3 := y2.trans x3
  by_cases h0 : val A = 0
  · have HP : Hid (cmpN (val (dig (10 ^ k))) (val A) = 1) := by show _ = _; rw [val_dig]; exact cmpN_gt HLT.out
    have H0 := Lib.hid h0
    clear h0
    go_wp2_with fail
    refine (zero_bool (hA.ext y3) (lmax_16 hln) true (by simpa using H0.out)).mono ?_
    rintro e w4 ⟨rfl, rfl⟩
    go_wp2_with fail
    refine (power_int _ k (by omega) _ rfl).mono ?_
    rintro e w5 ⟨p, rfl, hp, x5⟩
    go_wp2_with fail
    refine (cmp_int hp.limbs (hA.ext (y3.trans x5)) (dig_pow_len (by omega)) (lmax_16 hln) _ HP.out).mono ?_
    rintro e w6 ⟨rfl, rfl⟩
    go_wp2_with fail
    go_ret
    exact ⟨rfl, y3.trans x5⟩
  · have HP : Hid (cmpN (val (dig (10 ^ k))) (val A) = 1) := by show _ = _; rw [val_dig]; exact cmpN_gt HLT.out
    obtain ⟨c, hc⟩ : ∃ c, c = cmpN (val (dig (10 ^ (k - 1)))) (val A) := ⟨_, rfl⟩
    have c0 : c ≤ 0 := by
      rw [hc, val_dig]
      have := HGE.out h0
      unfold cmpN
      split
      · omega
      · rw [if_neg (by omega)]; omega
    have HC := Lib.hid hc
    have H0 := Lib.hid h0
    clear h0 hc
    go_wp2_with fail
    refine (zero_bool (hA.ext y3) (lmax_16 hln) false (by simpa using H0.out)).mono ?_
    rintro e w4 ⟨rfl, rfl⟩
    go_wp2_with fail
    refine (power_int _ (k - 1) (by omega) _ (by omega)).mono ?_
    rintro e w5 ⟨p, rfl, hp, x5⟩
    go_wp2_with fail
    refine (cmp_int hp.limbs (hA.ext (y3.trans x5)) (dig_pow_len (by omega)) (lmax_16 hln) _ HC.out.symm).mono ?_
    rintro e w6 ⟨rfl, rfl⟩
    go_wp2_with fail
    refine (power_int _ k (by omega) _ rfl).mono ?_
    rintro e w7 ⟨q, rfl, hq, x7⟩
    go_wp2_with fail
    refine (cmp_int hq.limbs (hA.ext ((y3.trans x5).trans x7)) (dig_pow_len (by omega)) (lmax_16 hln) _ HP.out).mono ?_
    rintro e w8 ⟨rfl, rfl⟩
    go_wp2_with fail
    go_ret
    exact ⟨rfl, (y3.trans x5).trans x7⟩

set_option maxHeartbeats 2000000 in
set_option maxRecDepth 100000 in
theorem decDigit_calls {w : World} {v : Value} {A : List Nat} (hA : Limbs w v A) (d : Nat) (hd : d < 256) : Calls Tryd.prog 10 #[v, .int .u8 (d : Int)] w (Yes w) := by
  obtain ⟨pa, pc, rfl, -, -, -⟩ := hA.open
  by_cases h24 : 24 < A.length
  · go_enter Tryd.func10, Tryd.ntmps10
    go_wp2_with fail
    refine (long1_calls hA true (by simpa using h24)).mono ?_
    rintro e w0 ⟨rfl, rfl⟩
    go_wp2_with fail
    refine (awake_calls _).mono ?_
    rintro e w1 ⟨rfl, x1⟩
    go_wp2_with fail
    go_ret
    exact ⟨rfl, ((Ext.refl w).alloc _).trans x1⟩
  have hln : A.length ≤ 65536 := by omega
  by_cases h0 : val A = 0
  · have H0 := Lib.hid h0
    clear h0
    go_enter Tryd.func10, Tryd.ntmps10
    go_wp2_with fail
    refine (long1_calls hA false (by simpa using h24)).mono ?_
    rintro e w0 ⟨rfl, rfl⟩
    go_wp2_with fail
    refine (zero_bool (hA.ext ((Ext.refl w).alloc _)) (lmax_16 hln) true (by simpa using H0.out)).mono ?_
    rintro e w4 ⟨rfl, rfl⟩
    go_wp2_with fail
    refine (awake_calls _).mono ?_
    rintro e w1 ⟨rfl, x1⟩
    go_wp2_with fail
    go_ret
    exact ⟨rfl, ((Ext.refl w).alloc _).trans x1⟩
  have H0 := Lib.hid h0
  have hd' : (d : Int) ≤ 255 := by omega
  obtain ⟨m, hmd⟩ : ∃ m, m = d % 10 := ⟨_, rfl⟩
  obtain ⟨n, hn⟩ : ∃ n, n = val A := ⟨_, rfl⟩
  obtain ⟨s, hs⟩ := str_of (showL (val A))
  obtain ⟨c, hc⟩ := str_of [db (m)]
  obtain ⟨t, ht⟩ := str_of (showL (n * 10 + m))
  have hsc : s ++ c = t := append_of (by rw [ht, hs, hc, hn, Nat.mul_comm, showL_snoc h0 ((by omega))])
  have HS := Lib.hid hs
  have HT := Lib.hid ht
  have HN := Lib.hid hn
  have zs : s.size ≤ 480 := by rw [Lib.size_eq, hs]; exact showL_600 hA.2 (by omega)
  have zc : c.size ≤ 1 := by rw [Lib.size_eq, hc]; simp
  have hM := fun (W : World) (hx : Ext w W) => natmul_calls ((hA.ext hx).ext ((Ext.refl W).alloc (.cells #[.int .u64 10] 33))) (litn W [10] (by simp; exact small_Bs (by decide)) #[.int .u64 10] rfl 1 rfl (by decide)) (by rw [Lmax_def]; simp only [List.length_singleton]; omega)
  rw [← hn, show val [10] = 10 by simp [val]] at hM
  have HM := Lib.hid hM
  have l1 : (dig (n * 10)).length ≤ 25 := dig_len_le (by rw [Nat.pow_succ]; exact Nat.mul_lt_mul'' (by rw [hn]; exact Nat.lt_of_lt_of_le (val_lt hA.2) (Nat.pow_le_pow_right Bs_pos (by omega))) (small_Bs (by decide)))
  have l2 : (dig (n * 10 + m)).length ≤ 65536 := by
    refine Nat.le_trans (dig_len_le (k := 26) ?_) (by decide)
    have h1 : n < Bs ^ 24 := by rw [hn]; exact Nat.lt_of_lt_of_le (val_lt hA.2) (Nat.pow_le_pow_right Bs_pos (by omega))
    have h2 : (n + 1) * 10 ≤ Bs ^ 24 * Bs := Nat.mul_le_mul h1 (Nat.le_of_lt (small_Bs (by decide)))
    rw [← Nat.pow_succ] at h2
    have h3 : Bs ^ 25 ≤ Bs ^ 26 := Nat.pow_le_pow_right Bs_pos (by decide)
    generalize Bs ^ (24 + 1) = p at *
    omega
  have HL1 := Lib.hid l1
  have HL2 := Lib.hid l2
  have hm : ((d : Int) % 10) = (m : Int) := by omega
  have hm10 : m < 10 := by omega
  have HC := Lib.hid hc
  have HMD := Lib.hid hmd
  have HV : Hid (∀ k, val [k] = k) := by intro k; simp [val]
  have hm9 : (m : Int) ≤ 9 := by omega
  have HM10 := Lib.hid hm10
  clear h0 hs ht hn hM l1 l2 hc hmd hm10 hd
  go_enter Tryd.func10, Tryd.ntmps10
  go_wp2_with fail
  refine (long1_calls hA false (by simpa using h24)).mono ?_
  rintro e w0 ⟨rfl, rfl⟩
  have y0 := (Ext.refl w).alloc (.cells #[.slice pa A.length pc] 23)
  go_wp2_with fail
  refine (zero_bool (hA.ext y0) (lmax_16 hln) false (by simpa using H0.out)).mono ?_
  rintro e w4 ⟨rfl, rfl⟩
  go_wp2_with fail
  refine (awake_calls _).mono ?_
  rintro e w1 ⟨rfl, x1⟩
  have y1 := y0.trans x1
  go_wp2_with fail
  refine (HM.out _ y1).mono ?_
  rintro e w2 ⟨p, rfl, hp, x2⟩
  have y2 := (y1.alloc _).trans x2
  go_wp2_with fail
  refine (natadd_calls (A := dig (n * 10)) (B := [m]) (hp.limbs.ext ((Ext.refl _).alloc _)) (litn _ [m] (by simp; exact small_Bs (by have := HM10.out; omega)) _ rfl _ rfl (by simp)) (by have := HL1.out; rw [Lmax_def]; omega) (by rw [Lmax_def]; simp)).mono ?_
  rintro e w3 ⟨b, rfl, hb, x3⟩
  rw [val_dig, HV.out] at hb
  have y3 := (y2.alloc _).trans x3
  go_wp2_with fail
  have hcv : ∀ (W : World) (g : Nat), W.cell? ⟨g, 0, none⟩ = some (.int .u8 (48 + (m : Int))) → (convert 35 9 (.slice (some ⟨g, 0, none⟩) 1 1)).run Tryd.prog W = .ok (.string c) W := by
    intro W g hg
    have := run_convert_bytes_back (P := Tryd.prog) W 35 9 5 ⟨g, 0, none⟩ 1 [db m] Tryd.underlying35 Tryd.underlying5 Tryd.underlying9 (fun j hj => by
      have hj' : j < 1 := hj
      obtain rfl : j = 0 := by omega
      rw [Addr.add_lit, Nat.add_zero, hg]
      have := bv_db HM10.out
      unfold bv at this
      rw [this]; rfl)
    rw [mk_of HC.out] at this
    exact this
  have hcv2 : ∀ (W W' : World), Ext (W.alloc (.cells #[.int .u8 (48 + (m : Int))] 5)) W' → (convert 35 9 (.slice (some ⟨W.heap.size, 0, none⟩) 1 1)).run Tryd.prog W' = .ok (.string c) W' := by
    intro W W' hx
    refine hcv W' _ ?_
    rw [Below.cell hx (p := ⟨W.heap.size, 0, none⟩) (by simp)]
    simp [go_sem]
  have hcv3 : ∀ (W W' : World), Ext (W.drew.alloc (.cells #[.int .u8 (48 + (m : Int))] 5)) W' → (convert 35 9 (.slice (some ⟨W.heap.size, 0, none⟩) 1 1)).run Tryd.prog W' = .ok (.string c) W' :=
    fun W W' hx => hcv2 W.drew W' hx
  have hcv4 : ∀ (W W' : World), Ext (W.alloc (.cells #[.int .u8 (48 + (m : Int))] 5)).drew W' → (convert 35 9 (.slice (some ⟨W.heap.size, 0, none⟩) 1 1)).run Tryd.prog W' = .ok (.string c) W' :=
    fun W W' hx => hcv2 W W' ((Ext.refl _).drew.trans hx)
  have hsz : ¬ 9223372036854775807 < s.size + c.size := by omega
  have hm2 : (d : Int).tmod 10 = (m : Int) := by rw [Int.tmod_eq_emod_of_nonneg (by omega)]; exact hm
  have hm3 : IntKind.u8.wrap (48 + (m : Int)) = 48 + (m : Int) := IntWalk.u8_in _ (by omega)
  go_region_with (first
    | (go_at_call_of 14 b; refine (show_str (hb.limbs.ext ?_) HL2.out t (by rw [val_dig]; exact HT.out)).mono ?_; (focus (repeat (first | exact Ext.refl _ | refine Ext.alloc ?_ _ | refine Ext.drew ?_))); rintro e w7 ⟨rfl, x7⟩)
    | (go_at_call_of 14 (Value.slice pa A.length pc); refine (show_str (hA.ext (y3.trans ?_)) hln s HS.out).mono ?_; (focus (repeat (first | exact Ext.refl _ | refine Ext.alloc ?_ _ | refine Ext.drew ?_ | refine Ext.trans ?_ x7))); rintro e w8 ⟨rfl, x8⟩; try have x9 := Ext.trans x7 x8))
  all_goals (
    go_wp2_with fail
    go_ret
    refine ⟨rfl, y3.trans ?_⟩
    repeat (first | exact Ext.refl _ | refine Ext.alloc ?_ _ | refine Ext.drew ?_ | refine Ext.trans ?_ x8 | refine Ext.trans ?_ x7))
end Go.Proofs.YtocaimhmgpacmaaDoor
