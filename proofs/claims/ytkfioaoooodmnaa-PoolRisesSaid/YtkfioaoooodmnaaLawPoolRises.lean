/- PoolRises answers true at all numbers, rows, strings. -/
import Derived.Test.YtkfioaoooodmnaaPoolRise
namespace Go.Proofs.Ytkfioaoooodmnaa
open Go Go.RowKit

set_option maxHeartbeats 2000000 in
set_option maxRecDepth 100000 in
theorem poolRises_long {w : World} {v : Value} {J : List Int} (k n : Int) (hJ : Ints w v J) (s : ByteArray) (h : 200 < J.length) :
    Calls Try.prog 5 #[.int .i64 k, .int .i64 n, v, .string s] w (Yes w) := by
  obtain ⟨a, cap, rfl, h1, h2, -⟩ := hJ.open
  unfold maxLen at h2
  obtain ⟨m, hm⟩ : ∃ m, J.length = m := ⟨_, rfl⟩
  rw [hm] at h h1 ⊢
  have t1 : (201 : Int) ≤ m := by omega
  have t2 : (m : Int) ≤ 9223372036854775807 := by omega
  clear hJ hm h h2 h1
  go_enter Try.func5, Try.ntmps5
  go_wp2_with fail
  refine (awake13_calls _).mono ?_
  rintro e w1 ⟨rfl, x1⟩
  go_wp2_with fail
  go_ret
  exact ⟨rfl, x1⟩

set_option maxHeartbeats 4000000 in
set_option maxRecDepth 100000 in
theorem poolRises_main {w : World} {v : Value} {J : List Int} (k n : Int) (hJ : Ints w v J) (s : ByteArray) (hs : s.size ≤ maxLen) (h : J.length ≤ 200) :
    Calls Try.prog 5 #[.int .i64 k, .int .i64 n, v, .string s] w (Yes w) := by
  obtain ⟨a, cap, rfl⟩ := hJ.slice
  have HJ := Lib.hid hJ
  obtain ⟨m, hm⟩ : ∃ m, J.length = m := ⟨_, rfl⟩
  rw [hm] at HJ
  rw [hm] at h ⊢
  have t1 : (m : Int) ≤ 200 := by omega
  have HS := Lib.hid hs
  obtain ⟨c, hc⟩ : ∃ c, errPool k n J = c := ⟨_, rfl⟩
  obtain ⟨R, hR⟩ : ∃ R, plR k n J = R := ⟨_, rfl⟩
  have HC := Lib.hid hc
  have HR := Lib.hid hR
  have HRI : Hid (c = 0 → Rise k n R) := fun e => by rw [← hR]; exact rise_row (by rw [hc, e])
  have HRN : Hid (c ≠ 0 → R = []) := fun e => by rw [← hR]; exact plR_no (by rw [hc]; exact e)
  have R64 : Hid (R.length ≤ 64) := by show _ ≤ _; rw [← hR]; exact plR_length
  clear hJ h hm hc hR hs
  go_enter Try.func5, Try.ntmps5
  go_wp2_with fail
  refine (awake13_calls _).mono ?_
  rintro e w1 ⟨rfl, x1⟩
  have X1 := Lib.hid x1
  clear x1
  go_wp2_with fail
  refine (plrow_all (HJ.out.ext X1.out) k n c HC.out R HR.out).mono ?_
  rintro e w2 ⟨r, rfl, o2, x2⟩
  obtain ⟨pa, pc, rfl⟩ := o2.slice13
  have O2 := Lib.hid o2
  have X2 := Lib.hid (X1.out.trans x2)
  clear o2 x2
  -- what follows is the same in both cases
  have REST : Hid (True) := trivial
  by_cases hc0 : c = 0
  · have RI := Lib.hid (HRI.out hc0)
    subst hc0
    go_wp2_with fail
    refine (rising_of O2.out.ints RI.out).mono ?_
    rintro e w3 ⟨rfl, x3⟩
    have X3 := Lib.hid (X2.out.trans x3)
    clear x3
    by_cases hb : okS s.data.toList = true
    · have HB := Lib.hid hb
      clear hb
      go_wp2_with fail
      refine (cnew_ok s _ HS.out HB.out).mono ?_
      rintro e w4 ⟨t, rfl, l4, c4, x4⟩
      have C4 := Lib.hid c4
      have X4 := Lib.hid (X3.out.trans x4)
      have LB : Hid (w.heap.size ≤ t) := Nat.le_trans X3.out.size l4
      clear c4 x4 l4
      obtain ⟨⟨L, y, a', ov'⟩, hdr⟩ : ∃ q, plRes s.data.toList k n 0 false = q := ⟨_, rfl⟩
      have HDR := Lib.hid hdr
      have HRR := Lib.hid (rise_res hdr)
      clear hdr
      go_wp2_with fail
      refine (pldraw_all C4.out HB.out (Nat.zero_le _) k n HDR.out).mono ?_
      rintro e w5 ⟨r5, rfl, o5, m5, c5⟩
      obtain ⟨pa5, pc5, rfl⟩ := o5.slice13
      have O5 := Lib.hid o5
      have X5 := Lib.hid (m5.ext X4.out LB.out)
      clear o5 m5 c5
      cases y
      · have e := HRR.out.2 rfl
        subst e
        go_wp2_with fail
        go_ret
        exact ⟨rfl, X5.out⟩
      · have RJ := Lib.hid (HRR.out.1 rfl)
        go_wp2_with fail
        refine (rising_of O5.out.ints RJ.out).mono ?_
        rintro e w6 ⟨rfl, x6⟩
        have X6 := Lib.hid (X5.out.trans x6)
        clear x6
        go_wp2_with fail
        go_ret
        exact ⟨rfl, X6.out⟩
    · have HB : Hid (okS s.data.toList = false) := by show _ = _; simpa using hb
      clear hb
      go_wp2_with fail
      refine (cnew_bad s _ HS.out HB.out).mono ?_
      rintro e w4 ⟨rfl, x4⟩
      have X4 := Lib.hid (X3.out.trans x4)
      clear x4
      go_wp2_with fail
      refine (pldraw_nil_any _ k n).mono ?_
      rintro e w5 ⟨r5, y5, rfl, x5⟩
      have X5 := Lib.hid (X4.out.trans x5)
      clear x5
      go_wp2_with fail
      go_ret
      exact ⟨rfl, X5.out⟩
  · have e := HRN.out hc0
    subst e
    have hcn : ((c : Int) == 0) = false := by rw [beq_eq_false_iff_ne]; omega
    have hcm : ((c : Int) != 0) = true := by rw [bne_iff_ne]; omega
    have hci : ¬ (c : Int) = 0 := by omega
    clear hc0
    by_cases hb : okS s.data.toList = true
    · have HB := Lib.hid hb
      clear hb
      go_wp2_with fail
      refine (cnew_ok s _ HS.out HB.out).mono ?_
      rintro e w4 ⟨t, rfl, l4, c4, x4⟩
      have C4 := Lib.hid c4
      have X4 := Lib.hid (X2.out.trans x4)
      have LB : Hid (w.heap.size ≤ t) := Nat.le_trans X2.out.size l4
      clear c4 x4 l4
      obtain ⟨⟨L, y, a', ov'⟩, hdr⟩ : ∃ q, plRes s.data.toList k n 0 false = q := ⟨_, rfl⟩
      have HDR := Lib.hid hdr
      have HRR := Lib.hid (rise_res hdr)
      clear hdr
      go_wp2_with fail
      refine (pldraw_all C4.out HB.out (Nat.zero_le _) k n HDR.out).mono ?_
      rintro e w5 ⟨r5, rfl, o5, m5, c5⟩
      obtain ⟨pa5, pc5, rfl⟩ := o5.slice13
      have O5 := Lib.hid o5
      have X5 := Lib.hid (m5.ext X4.out LB.out)
      clear o5 m5 c5
      cases y
      · have e := HRR.out.2 rfl
        subst e
        go_wp2_with fail
        go_ret
        exact ⟨rfl, X5.out⟩
      · have RJ := Lib.hid (HRR.out.1 rfl)
        go_wp2_with fail
        refine (rising_of O5.out.ints RJ.out).mono ?_
        rintro e w6 ⟨rfl, x6⟩
        have X6 := Lib.hid (X5.out.trans x6)
        clear x6
        go_wp2_with fail
        go_ret
        exact ⟨rfl, X6.out⟩
    · have HB : Hid (okS s.data.toList = false) := by show _ = _; simpa using hb
      clear hb
      go_wp2_with fail
      refine (cnew_bad s _ HS.out HB.out).mono ?_
      rintro e w4 ⟨rfl, x4⟩
      have X4 := Lib.hid (X2.out.trans x4)
      clear x4
      go_wp2_with fail
      refine (pldraw_nil_any _ k n).mono ?_
      rintro e w5 ⟨r5, y5, rfl, x5⟩
      have X5 := Lib.hid (X4.out.trans x5)
      clear x5
      go_wp2_with fail
      go_ret
      exact ⟨rfl, X5.out⟩

theorem poolRises_calls {w : World} {v : Value} {J : List Int} (k : Int) (_hk : -9223372036854775808 ≤ k ∧ k ≤ 9223372036854775807) (n : Int) (_hn : -9223372036854775808 ≤ n ∧ n ≤ 9223372036854775807) (hJ : Ints w v J) (s : ByteArray) (hs : s.size ≤ maxLen) :
    Calls Try.prog 5 #[.int .i64 k, .int .i64 n, v, .string s] w (Yes w) := by
  rcases Nat.lt_or_ge 200 J.length with h | h
  · exact poolRises_long k n hJ s h
  · exact poolRises_main k n hJ s hs h
end Go.Proofs.Ytkfioaoooodmnaa
