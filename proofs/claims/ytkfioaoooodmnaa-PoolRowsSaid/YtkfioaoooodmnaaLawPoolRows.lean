/- PoolRows answers true at all numbers, rows. -/
import Derived.Test.YtkfioaoooodmnaaPartJ
import Derived.Test.YtkfioaoooodmnaaRefPool
namespace Go.Proofs.Ytkfioaoooodmnaa
open Go Go.RowKit

set_option maxHeartbeats 2000000 in
set_option maxRecDepth 100000 in
theorem poolRows_out {w : World} {v : Value} {J : List Int} (k n : Int) (hJ : Ints w v J) (h : 200 < J.length) :
    Calls Try.prog 3 #[.int .i64 k, .int .i64 n, v] w (Yes w) := by
  obtain ⟨a, cap, rfl, h1, h2, -⟩ := hJ.open
  unfold maxLen at h2
  obtain ⟨m, hm⟩ : ∃ m, J.length = m := ⟨_, rfl⟩
  rw [hm] at h h1 ⊢
  have t1 : (201 : Int) ≤ m := by omega
  have t2 : (m : Int) ≤ 9223372036854775807 := by omega
  clear hJ hm h h2 h1
  go_enter Try.func3, Try.ntmps3
  go_wp2_with fail
  refine (awake13_calls _).mono ?_
  rintro e w1 ⟨rfl, x1⟩
  go_wp2_with fail
  go_ret
  exact ⟨rfl, x1⟩

set_option maxHeartbeats 4000000 in
set_option maxRecDepth 100000 in
theorem poolRows_main {w : World} {v : Value} {J : List Int} (k n : Int) (hJ : Ints w v J) (h : J.length ≤ 200) :
    Calls Try.prog 3 #[.int .i64 k, .int .i64 n, v] w (Yes w) := by
  obtain ⟨a, cap, rfl⟩ := hJ.slice
  have HJ := Lib.hid hJ
  obtain ⟨m, hm⟩ : ∃ m, J.length = m := ⟨_, rfl⟩
  have HM := Lib.hid hm
  rw [hm] at HJ h ⊢
  have t1 : (m : Int) ≤ 200 := by omega
  obtain ⟨c, hc⟩ : ∃ c, errPool k n J = c := ⟨_, rfl⟩
  obtain ⟨R, hR⟩ : ∃ R, plR k n J = R := ⟨_, rfl⟩
  have HC := Lib.hid hc
  have HR := Lib.hid hR
  obtain ⟨b, hb⟩ : ∃ b, R.length = b := ⟨_, rfl⟩
  have HB := Lib.hid hb
  have b64 : (b : Int) ≤ 64 := by rw [← hb, ← hR]; have := @plR_length k n J; omega
  have hcc : ((c : Int) != (c : Int)) = false := by simp
  have HLN : Hid (0 + J.length ≤ 100000) := by show _ ≤ 100000; omega
  have HI2 : Hid (Ints (w.alloc (.cells #[] 3)) (.slice a m cap) J) := HJ.out.ext ((Ext.refl w).alloc _)
  clear hJ hm h hc hR hb
  go_enter Try.func3, Try.ntmps3
  go_wp2_with (at_builtin; refine append_ints rfl _ _ 22 3 Try.underlying22 info_int rfl w.heap.size _ 0 [] rfl (World.ownsRow_made w #[] 0 (Nat.le_refl _) (Nat.zero_le _) rfl) (by simp) _ J rfl HI2.out HLN.out ?_; intro v3 w3 hown' hgrow; (simp only [Nat.zero_add, List.nil_append] at hown'); obtain ⟨va3, vc3, rfl⟩ := row_sliceI hown'; have HOWN3 := Lib.hid hown'; have HGROW3 := Lib.hid hgrow; clear hown' hgrow)
  have X3 : Hid (Ext w w3) := ((Ext.refl w).alloc (.cells #[] 3)).grown HGROW3.out (fun b hb => by injection hb with hb; subst hb; exact Nat.le_refl _)
  have I3 : Hid (Ints w3 (.slice va3 J.length vc3) J) := Own.sl (.inl HOWN3.out)
  clear HOWN3 HGROW3 HI2
  refine (rrow13_all (HJ.out.ext X3.out) k n c HC.out R HR.out).mono ?_
  rintro e w4 ⟨r4, rfl, o4, x4⟩
  obtain ⟨pa, pc, rfl⟩ := o4.slice13
  have O4 := Lib.hid o4.ints
  have I4 := Lib.hid (I3.out.ext x4)
  have X4 := Lib.hid (X3.out.trans x4)
  have J4 := Lib.hid (HJ.out.ext (X3.out.trans x4))
  clear o4 x4 I3 X3
  rw [HB.out] at O4 ⊢
  rw [HM.out] at I4 ⊢
  go_wp2_with fail
  go_loopw [10] (fun v10 wr => ∃ i : Nat, v10 = .int .i64 (i : Int) ∧ i ≤ 2 ∧ Ext w4 wr) (fun v10 _ => 2 - (intOf v10).toNat)
  case atStart => exact ⟨0, rfl, Nat.zero_le _, Ext.refl _⟩
  case round =>
    rename World => w5
    obtain ⟨i, rfl, hi, hx⟩ := hrel
    have X := Lib.hid hx
    clear hx
    by_cases hi2 : i < 2
    · have t2 : (i : Int) ≤ 1 := by omega
      have LT := Lib.hid hi2
      clear hi hi2
      go_wp2_with fail
      refine (plrow_all (I4.out.ext X.out) k n c HC.out R HR.out).mono ?_
      rintro e w6 ⟨r6, rfl, o6, x6⟩
      obtain ⟨la, lc, rfl⟩ := o6.slice13
      have O6 := Lib.hid o6
      have X6 := Lib.hid (X.out.trans x6)
      have S6 : Hid (w4.heap.size ≤ w5.heap.size) := X.out.size
      clear o6 x6
      rw [HB.out] at O6 ⊢
      go_wp2_with fail
      refine (same13_calls O6.out.ints (O4.out.ext X6.out) true (by simp)).mono ?_
      rintro e w7 ⟨rfl, x7⟩
      have O7 := Lib.hid (O6.out.ext x7)
      have X7 := Lib.hid (X6.out.trans x7)
      clear x7 O6 X6
      go_wp2_with fail
      refine (same13_calls (I4.out.ext X7.out) (J4.out.ext X7.out) true (by simp)).mono ?_
      rintro e w8 ⟨rfl, x8⟩
      have O8 : Hid (OwnI 3 w4.heap.size w8 (.slice la b lc) R) := (O7.out.ext x8).1.mono S6.out
      have X8 := Lib.hid (X7.out.trans x8)
      clear x8 O7 X7 X
      go_wp2_with fail
      go_loopw [13] (fun v13 wr => ∃ (q : Nat) (M : List Int), v13 = .int .i64 (q : Int) ∧ q ≤ b ∧ M.length = b ∧ OwnI 3 w4.heap.size wr (.slice la b lc) M ∧ Ext w4 wr) (fun v13 _ => b - (intOf v13).toNat)
      case atStart => exact ⟨0, R, rfl, Nat.zero_le _, HB.out, O8.out, X8.out⟩
      case round =>
        clear O8 X8
        obtain ⟨q, M, rfl, hq, hM, hO, hx⟩ := hrel
        have X := Lib.hid hx
        have LL := Lib.hid hM
        by_cases hqb : q < b
        · rcases hO with hown | ⟨_, -, h0, -⟩
          rotate_left
          · rw [LL.out] at h0; omega
          obtain ⟨g, cap2, e, hg, hrow⟩ := RowG.of hown (by rw [LL.out]; omega)
          rw [LL.out] at e
          obtain ⟨e1, e2⟩ : la = some ⟨g, 0, none⟩ ∧ lc = cap2 := by injection e with a b c; exact ⟨a, c⟩
          subst e1 e2
          have RW := Lib.hid hrow
          have HG := Lib.hid hg
          have LQ := Lib.hid hqb
          have hcc2 := RW.out.cell (j := q) (by rw [LL.out]; exact hqb)
          have hf := RW.out.free q
          have R6 : Hid (OwnI 3 w4.heap.size (wr.setCell ⟨g, q, none⟩ (.int .i64 (-1))) (.slice (some ⟨g, 0, none⟩) b lc) (M.set q (-1))) := by
            have := ((RW.out.set q (-1)).ownI).mono HG.out
            rw [List.length_set, LL.out] at this
            exact this
          have L6 : Hid ((M.set q (-1)).length = b) := by show _ = _; rw [List.length_set, LL.out]
          clear hown e hg hrow hM hx hq
          go_wp2_with fail
          exact ⟨⟨q + 1, _, by first | rfl | go_num, LQ.out, L6.out, R6.out, X.out.setCell HG.out _⟩, by simp [intOf]; have := LQ.out; omega⟩
        · obtain rfl : b = q := by omega
          clear hO hM hx hq hqb
          go_wp2_with fail
          exact ⟨⟨i + 1, by first | rfl | go_num, LT.out, X.out⟩, by simp [intOf]; have := LT.out; omega⟩
    · obtain rfl : i = 2 := by omega
      clear hi hi2
      go_wp2_with fail
      refine (awake13_calls _).mono ?_
      rintro e w6 ⟨rfl, x6⟩
      have X6 := Lib.hid (X4.out.trans (X.out.trans x6))
      clear x6
      go_wp2_with fail
      go_ret
      exact ⟨rfl, X6.out⟩

theorem poolRows_calls {w : World} {v : Value} {J : List Int} (k : Int) (_hk : -9223372036854775808 ≤ k ∧ k ≤ 9223372036854775807) (n : Int) (_hn : -9223372036854775808 ≤ n ∧ n ≤ 9223372036854775807) (hJ : Ints w v J) :
    Calls Try.prog 3 #[.int .i64 k, .int .i64 n, v] w (Yes w) := by
  rcases Nat.lt_or_ge 200 J.length with h | h
  · exact poolRows_out k n hJ h
  · exact poolRows_main k n hJ h
end Go.Proofs.Ytkfioaoooodmnaa
