/- The laws on decimal digits, fourth part: DecSmall, DecReads. -/
import Derived.Test.YtocaimhmgpacmaaDoorLaws04c
namespace Go.Proofs.YtocaimhmgpacmaaDoor
open Go Go.RowKit

theorem dval_fixw (j n : Nat) : dval (fixw j n) = n % 10 ^ j := by
  induction j generalizing n with
  | zero => simp [fixw, dval, Nat.mod_one]
  | succ j ih =>
    rw [fixw, dval_append, ih, Nat.pow_succ, Nat.mul_comm (10 ^ j), Nat.mod_mul]
    omega
theorem showL_fixw {n j : Nat} (h1 : n < 10 ^ (j + 1)) (h3 : j = 0 ∨ 10 ^ j ≤ n) : showL n = (fixw (j + 1) n).map db := by
  by_cases h0 : n = 0
  · subst h0
    have : j = 0 := by
      rcases h3 with h3 | h3
      · exact h3
      · have := Nat.pow_pos (n := j) (show 0 < 10 by omega); omega
    subst this; rfl
  · rw [showL_pos h0]
    congr 1
    have hv : dval (fixw (j + 1) n) = n := by rw [dval_fixw, Nat.mod_eq_of_lt h1]
    have hd : (fixw (j + 1) n).head? ≠ some 0 := by
      rw [Nat.add_comm, fixw_add]
      intro e
      have e2 : n / 10 ^ j % 10 = 0 := by simpa [fixw] using e
      have e3 : n / 10 ^ j < 10 := by rw [Nat.div_lt_iff_lt_mul (Nat.pow_pos (by omega)), Nat.mul_comm, ← Nat.pow_succ]; exact h1
      have e4 : n / 10 ^ j = 0 := by generalize n / 10 ^ j = q at *; omega
      rcases h3 with h3 | h3
      · subst h3; simp at e4; exact h0 e4
      · have := Nat.div_pos h3 (Nat.pow_pos (by omega)); omega
    rw [← dgs_dval _ (fixw_lt _ _) hd, hv]

/-- what holds in the rounds of DecSmall: j digits stand in s, x is left -/
structure SmallInv (n j x : Nat) (s : ByteArray) : Prop where
  x_eq : x = n / 10 ^ j
  s_eq : s.data.toList = (fixw j n).map db
  last : j ≤ 1 ∨ 10 ^ (j - 1) ≤ n
theorem SmallInv.start (n : Nat) : SmallInv n 0 n ⟨#[]⟩ := ⟨by simp, rfl, .inl (by omega)⟩
theorem SmallInv.next {n j x : Nat} {s s' : ByteArray} (h : SmallInv n j x s) (hc : x ≠ 0 ∨ j = 0) (hs : s'.data.toList = db (x % 10) :: s.data.toList) : SmallInv n (j + 1) (x / 10) s' := by
  refine ⟨by rw [h.x_eq, Nat.div_div_eq_div_mul, Nat.pow_succ], ?_, ?_⟩
  · rw [hs, h.s_eq, Nat.add_comm j 1, fixw_add, ← h.x_eq]; simp [fixw]
  · rcases hc with hc | hc
    · right
      rw [Nat.add_sub_cancel]
      rcases Nat.lt_or_ge n (10 ^ j) with g | g
      · exact absurd (h.x_eq.trans (Nat.div_eq_of_lt g)) hc
      · exact g
    · left; omega
theorem SmallInv.size {n j x : Nat} {s : ByteArray} (h : SmallInv n j x s) : s.size = j := by rw [Lib.size_eq, h.s_eq]; simp [fixw_length]
theorem SmallInv.j_le {n j x : Nat} {s : ByteArray} (h : SmallInv n j x s) (hn : n < Bs) : j ≤ 20 := by
  rcases h.last with g | g
  · omega
  · rcases Nat.lt_or_ge 20 j with k | k
    · exfalso
      have h1 : 10 ^ 20 ≤ 10 ^ (j - 1) := Nat.pow_le_pow_right (by omega) (by omega)
      rw [Bs_def] at hn
      omega
    · exact k
theorem SmallInv.fin {n j : Nat} {s : ByteArray} (h : SmallInv n j 0 s) (hj : j ≠ 0) : s.data.toList = showL n := by
  obtain ⟨i, rfl⟩ : ∃ i, j = i + 1 := ⟨j - 1, by omega⟩
  rw [h.s_eq, showL_fixw]
  · have := h.x_eq.symm
    rcases Nat.lt_or_ge n (10 ^ (i + 1)) with g | g
    · exact g
    · have := Nat.div_pos g (Nat.pow_pos (by omega)); omega
  · rcases h.last with g | g
    · left; omega
    · right; simpa using g

theorem conv_one (W : World) (m : Nat) (hm : m < 10) (c : ByteArray) (hc : c.data.toList = [db m]) :
    (convert 35 9 (.slice (some ⟨W.heap.size, 0, none⟩) 1 1)).run Tryd.prog (W.alloc (.cells #[.int .u8 (48 + (m : Int))] 5)) = .ok (.string c) (W.alloc (.cells #[.int .u8 (48 + (m : Int))] 5)) := by
  have := run_convert_bytes_back (P := Tryd.prog) (W.alloc (.cells #[.int .u8 (48 + (m : Int))] 5)) 35 9 5 ⟨W.heap.size, 0, none⟩ 1 [db m] Tryd.underlying35 Tryd.underlying5 Tryd.underlying9 (fun j hj => by
    have hj' : j < 1 := hj
    obtain rfl : j = 0 := by omega
    rw [Addr.add_lit, Nat.add_zero]
    have := bv_db hm
    unfold bv at this
    rw [this]
    simp [go_sem])
  rw [mk_of hc] at this
  exact this

set_option maxHeartbeats 2000000 in
set_option maxRecDepth 100000 in
theorem decSmall_calls (w : World) (n : Nat) (hn : n < Bs) : Calls Tryd.prog 8 #[.int .u64 (n : Int)] w (Yes w) := by
  have HN := Lib.hid hn
  have hn1 : (n : Int) ≤ 18446744073709551615 := by rw [Bs_def] at hn; omega
  clear hn
  go_enter Tryd.func8, Tryd.ntmps8
  go_wp2_with fail
  go_loopg [3, 4] (n * 2 + 1) (fun g v3 v4 wr => ∃ (j x : Nat) (s : ByteArray), v3 = .string s ∧ v4 = .int .u64 (x : Int) ∧ SmallInv n j x s ∧ x ≤ n ∧ Ext w wr ∧ g = x * 2 + (if j = 0 then 1 else 0))
  case atStart => exact ⟨0, n, _, rfl, rfl, SmallInv.start n, Nat.le_refl _, Ext.refl w, rfl⟩
  case round =>
    obtain ⟨j, x, s, rfl, rfl, hI, hxn, hx, hg⟩ := hrel
    have hj := hI.j_le HN.out
    have hsz := hI.size
    have HG := Lib.hid hg
    clear hg
    by_cases hc : x ≠ 0 ∨ j = 0
    · obtain ⟨m, hm⟩ : ∃ m, m = x % 10 := ⟨_, rfl⟩
      obtain ⟨c, hcc⟩ := str_of [db m]
      obtain ⟨s', hs'⟩ := str_of (db (x % 10) :: s.data.toList)
      have hap : c ++ s = s' := append_of (by rw [hs', hcc, hm]; rfl)
      have zc : c.size ≤ 1 := by rw [Lib.size_eq, hcc]; simp
      have zs : s.size ≤ 20 := by omega
      have hcv := fun W => conv_one W m (by omega) c hcc
      have hx1 : (x : Int) ≤ 18446744073709551615 := by omega
      have hmi : ((x : Int) % 10) = (m : Int) := by omega
      have hm9 : (m : Int) ≤ 9 := by omega
      have HNX := Lib.hid (hI.next hc hs')
      have HD : Hid (x / 10 * 2 < gk) := by
        show _ < gk
        rw [HG.out]
        rcases hc with h | h
        · omega
        · rw [if_pos h]; omega
      by_cases hx0 : x = 0
      · have hj0 : j = 0 := by omega
        have hs0 : s = ⟨#[]⟩ := by rw [← Lib.mk_data s, hI.s_eq, hj0]; rfl
        have hm0 : m = 0 := by omega
        have hcv0 : ∀ W : World, (convert 35 9 (.slice (some ⟨W.heap.size, 0, none⟩) 1 1)).run Tryd.prog (W.alloc (.cells #[.int .u8 48] 5)) = .ok (.string c) (W.alloc (.cells #[.int .u8 48] 5)) := by
          intro W
          have h := hcv W
          rw [hm0] at h
          exact h
        subst hx0
        subst hs0
        clear hcv hm0 hmi hm9
        clear hI hsz hs' hcc hm hj0 hc
        go_wp2_with fail
        go_roundg (0 * 2)
        case measure => simpa using HD.out
        case rel => exact ⟨j + 1, 0, s', rfl, rfl, HNX.out, Nat.zero_le _, hx.alloc _, by simp⟩
      · have hx2 : 1 ≤ (x : Int) := by omega
        clear hI hsz hs' hcc hm hc
        go_wp2_with fail
        go_roundg (x / 10 * 2)
        case measure => exact HD.out
        case rel => exact ⟨j + 1, x / 10, s', rfl, int_eq (by simp), HNX.out, by omega, hx.alloc _, by simp⟩
    · have hx0 : x = 0 := by omega
      have hj0 : j ≠ 0 := by omega
      subst hx0
      have hF := hI.fin hj0
      have HF := Lib.hid hF
      have hn20 : s.data.toList = showL n := hF
      have hne : s.toList.isEmpty = false := by rw [Lib.toList_data, hF]; simpa using showL_ne n
      have hne2 : ¬ s.toList = [] := by rw [Lib.toList_data, hF]; exact showL_ne n
      have hlen : (showL n).length ≤ 20000 := by rw [← hF, ← Lib.size_eq, hsz]; omega
      have HRS := Lib.hid (read_show hlen)
      have hzs : s.size ≤ maxLen := by rw [hsz]; unfold maxLen; omega
      have HZS := Lib.hid hzs
      have HSM : Hid (((smallN (val (dig n)) : Nat) : Int) = (n : Int)) := by show _ = _; rw [val_dig, smallN, if_pos HN.out]
      have HSB : Hid (decide (val (dig n) < Bs) = true) := by show _ = _; rw [val_dig]; simpa using HN.out
      have HDL : Hid ((dig n).length ≤ 65536) := dig_lmax (k := 1) (by simpa using HN.out) (by omega)
      clear hc hI hF hn20 hsz hlen hzs hj0
      go_wp2_with fail
      refine (read_str s _ HZS.out 0 n (by rw [HF.out, HRS.out.1]; rfl) (by rw [HF.out, HRS.out.2])).mono ?_
      rintro e w1 ⟨a, rfl, ha, x1⟩
      go_wp2_with fail
      refine (small_calls ha.limbs (lmax_16 HDL.out)).mono ?_
      rintro e w2 ⟨rfl, rfl⟩
      rw [HSM.out, HSB.out]
      go_wp2_with fail
      refine (of_calls HN.out).mono ?_
      rintro e w3 ⟨b, rfl, hb, x3⟩
      go_wp2_with fail
      refine (show_str hb.limbs HDL.out s (by rw [val_dig]; exact HF.out)).mono ?_
      rintro e w4 ⟨rfl, x4⟩
      go_wp2_with fail
      refine (awake_calls _).mono ?_
      rintro e w5 ⟨rfl, x5⟩
      go_wp2_with fail
      go_ret
      exact ⟨rfl, (((hx.trans x1).trans x3).trans x4).trans x5⟩
end Go.Proofs.YtocaimhmgpacmaaDoor
