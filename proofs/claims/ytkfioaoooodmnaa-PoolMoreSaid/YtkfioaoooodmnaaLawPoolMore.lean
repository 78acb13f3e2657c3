/- PoolMore answers true at all numbers, rows. -/
import Derived.Test.YtkfioaoooodmnaaPartJ
namespace Go.Proofs.Ytkfioaoooodmnaa
open Go Go.RowKit

set_option maxHeartbeats 2000000 in
set_option maxRecDepth 100000 in
theorem poolMore_out {w : World} {v : Value} {J : List Int} (k n : Int) (hJ : Ints w v J) (j : Nat) (h : 200 < J.length ∨ (J.length ≤ 200 ∧ 64 ≤ n)) :
    Calls Try.prog 8 #[.int .i64 k, .int .i64 n, v, .int .u8 (j : Int)] w (Yes w) := by
  obtain ⟨a, cap, rfl, h1, h2, -⟩ := hJ.open
  unfold maxLen at h2
  obtain ⟨m, hm⟩ : ∃ m, J.length = m := ⟨_, rfl⟩
  rw [hm] at h h1 ⊢
  rcases h with h | ⟨h, h'⟩
  · have t1 : (201 : Int) ≤ m := by omega
    have t2 : (m : Int) ≤ 9223372036854775807 := by omega
    clear hJ hm h h2 h1
    go_enter Try.func8, Try.ntmps8
    go_wp2_with fail
    refine (awake13_calls _).mono ?_
    rintro e w1 ⟨rfl, x1⟩
    go_wp2_with fail
    go_ret
    exact ⟨rfl, x1⟩
  · have t1 : (m : Int) ≤ 200 := by omega
    clear hJ hm h h2 h1
    go_enter Try.func8, Try.ntmps8
    go_wp2_with fail
    refine (awake13_calls _).mono ?_
    rintro e w1 ⟨rfl, x1⟩
    go_wp2_with fail
    go_ret
    exact ⟨rfl, x1⟩

set_option maxHeartbeats 2000000 in
set_option maxRecDepth 100000 in
theorem poolMore_no {w : World} {v : Value} {J : List Int} (k n : Int) (hJ : Ints w v J) (j : Nat) (h : J.length ≤ 200) (hn : n ≤ 63) (he : errPool k n J ≠ 0) :
    Calls Try.prog 8 #[.int .i64 k, .int .i64 n, v, .int .u8 (j : Int)] w (Yes w) := by
  obtain ⟨a, cap, rfl⟩ := hJ.slice
  have HJ := Lib.hid hJ
  obtain ⟨m, hm⟩ : ∃ m, J.length = m := ⟨_, rfl⟩
  rw [hm] at HJ h ⊢
  have t1 : (m : Int) ≤ 200 := by omega
  obtain ⟨c, hc⟩ : ∃ c, errPool k n J = c := ⟨_, rfl⟩
  have HC := Lib.hid hc
  rw [hc] at he
  have hcm : ((c : Int) != 0) = true := by rw [bne_iff_ne]; omega
  have hcn : ((c : Int) == 0) = false := by rw [beq_eq_false_iff_ne]; omega
  have hci : ¬ (c : Int) = 0 := by omega
  clear hJ hm h hc he
  go_enter Try.func8, Try.ntmps8
  go_wp2_with fail
  refine (awake13_calls _).mono ?_
  rintro e w1 ⟨rfl, x1⟩
  have X1 := Lib.hid x1
  clear x1
  go_wp2_with fail
  refine (plrow_all (HJ.out.ext X1.out) k n c HC.out _ rfl).mono ?_
  rintro e w2 ⟨r, rfl, -, x2⟩
  have X2 := Lib.hid (X1.out.trans x2)
  clear x2
  go_wp2_with fail
  go_ret
  exact ⟨rfl, X2.out⟩

theorem alloc_le (w : World) (o : Obj) : w.heap.size ≤ (w.alloc o).heap.size := by simp
theorem RowG.grown' {t : TypeId} {g cap : Nat} {L : List Int} {w w' : World} {row : Option Nat} (h : RowG t g cap L w) (hg : w.grownBy w' row) (hr : ∀ k, row = some k → g < k) : RowG t g cap L w' := by
  have hlt := h.lt
  obtain ⟨h1, h2⟩ := h
  refine ⟨h1, ?_⟩
  rcases h2 with h2 | ⟨g', cap', cur, e, hg', hh, rest⟩
  · exact .inl h2
  · injection e with e2 e3 e4
    injection e2 with e2
    injection e2 with e2
    subst e2
    exact .inr ⟨g, cap', cur, by rw [e4], hg', by rw [hg.block g hlt (fun e => Nat.lt_irrefl g (hr g e.symm))]; exact hh, rest⟩
theorem okJ_app {k : Nat} {J : List Int} {x : Int} (h : okJ k J) (h0 : 0 ≤ x) (h1 : x ≤ ((k + J.length : Nat) : Int)) : okJ k (J ++ [x]) := by
  refine okJ_of fun m hm => ?_
  rw [List.length_append, List.length_singleton] at hm
  by_cases e : m < J.length
  · rw [show (J ++ [x]).getD m 0 = J.getD m 0 by simp [List.getD, List.getElem?_append, e]]
    exact h.get e
  · obtain rfl : m = J.length := by omega
    rw [show (J ++ [x]).getD J.length 0 = x by simp [List.getD]]
    exact ⟨h0, h1⟩

set_option maxHeartbeats 4000000 in
set_option maxRecDepth 100000 in
theorem poolMore_main {w : World} {v : Value} {J : List Int} (k n : Nat) (hJ : Ints w v J) (j : Nat) (hj : j < 256) (hn : n ≤ 63) (hkn : k ≤ n) (hl : J.length = n - k) (ho : okJ k J) :
    Calls Try.prog 8 #[.int .i64 (k : Int), .int .i64 (n : Int), v, .int .u8 (j : Int)] w (Yes w) := by
  obtain ⟨a, cap, rfl⟩ := hJ.slice
  have HJ := Lib.hid hJ
  obtain ⟨m, hm⟩ : ∃ m, J.length = m := ⟨_, rfl⟩
  have HM := Lib.hid hm
  rw [hm] at HJ hl ⊢
  have t1 : (m : Int) ≤ 64 := by omega
  have k1 : (k : Int) ≤ 63 := by omega
  have n1 : (n : Int) ≤ 63 := by omega
  have j1 : (j : Int) ≤ 255 := by omega
  obtain ⟨p, hp⟩ : ∃ p, n + 1 = p := ⟨_, rfl⟩
  have hwp : IntKind.i64.wrap ((n : Int) + 1) = (p : Int) := by rw [IntWalk.i64_in _ (by omega)]; omega
  have p1 : (1 : Int) ≤ p := by omega
  have p2 : (p : Int) ≤ 64 := by omega
  obtain ⟨x, hx⟩ : ∃ x, j % p = x := ⟨_, rfl⟩
  have hxp : x < p := by rw [← hx]; exact Nat.mod_lt _ (by omega)
  have hjx : (j : Int) % (p : Int) = (x : Int) := by rw [← hx]; exact (Int.natCast_emod j p).symm
  have x1' : (x : Int) ≤ n := by omega
  have x2' : (x : Int) ≤ 63 := by omega
  have KN := Lib.hid hkn
  have N64 : Hid (n ≤ 64) := by show n ≤ 64; omega
  have P64 : Hid (p ≤ 64) := by show p ≤ 64; omega
  have KP : Hid (k ≤ p) := by show k ≤ p; omega
  have OK := Lib.hid ho
  have JL : Hid (J.length = n - k) := by show _ = _; rw [hm]; exact hl
  have KM : Hid (k + m = n) := by show _ = _; omega
  have OK2 : Hid (okJ k (J ++ [(x : Int)])) := okJ_app ho (by omega) (by rw [hm]; omega)
  have JL2 : Hid ((J ++ [(x : Int)]).length = p - k) := by show _ = _; rw [List.length_append, hm, List.length_singleton]; omega
  have HLN : Hid (0 + J.length ≤ 100000) := by show _ ≤ 100000; omega
  have HLN2 : Hid (J.length + [(x : Int)].length ≤ 100000) := by show _ ≤ 100000; simp; omega
  clear hJ hm hl ho hkn hn hj hp hx hxp
  go_enter Try.func8, Try.ntmps8
  go_wp2_with fail
  refine (awake13_calls _).mono ?_
  rintro e w1 ⟨rfl, x1⟩
  have X1 := Lib.hid x1
  clear x1
  go_wp2_with fail
  refine (plrow_ok (HJ.out.ext X1.out) k n KN.out N64.out JL.out OK.out).mono ?_
  rintro e w2 ⟨g, gc, rfl, hg, hr, x2⟩
  have R2 := Lib.hid hr.1
  have X2 := Lib.hid (X1.out.trans x2)
  have HG2 : Hid (w.heap.size ≤ g) := Nat.le_trans X1.out.size hg
  clear hr x2 hg
  have HI2 : Hid (Ints (w2.alloc (.cells #[] 3)) (.slice a m cap) J) := HJ.out.ext (X2.out.alloc _)
  have X2a : Hid (Ext w (w2.alloc (.cells #[] 3))) := X2.out.alloc _
  have R2a : Hid (RowG 3 g gc (poolF k J) (w2.alloc (.cells #[] 3))) := R2.out.ext ((Ext.refl _).alloc _)
  go_wp2_with (first
    | (at_builtin; refine append_ints rfl _ _ 22 3 Try.underlying22 info_int rfl w2.heap.size _ _ _ rfl W3a.out S3a.out _ [(x : Int)] rfl (ints_lit w3 [(x : Int)] _ rfl 1 rfl (by simp)) HLN2.out ?_; intro v4 w4 hown' hgrow; obtain ⟨va4, vc4, rfl⟩ := row_sliceI hown'; have HOWN4 := Lib.hid hown'; have HGROW4 := Lib.hid hgrow; clear hown' hgrow)
    | (at_builtin; refine append_ints rfl _ _ 22 3 Try.underlying22 info_int rfl w2.heap.size _ 0 [] rfl (World.ownsRow_made w2 #[] 0 (Nat.le_refl _) (Nat.zero_le _) rfl) (by simp) _ J rfl HI2.out HLN.out ?_; intro v3 w3 hown' hgrow; (simp only [Nat.zero_add, List.nil_append] at hown'); obtain ⟨va3, vc3, rfl⟩ := row_sliceI hown'; have HOWN3 := Lib.hid hown'; have HGROW3 := Lib.hid hgrow; have W3a := Lib.hid (ownsRow_ext' hown' ((Ext.refl w3).alloc (.cells #[.int .i64 (x : Int)] 3))); have S3a : Hid (w2.heap.size ≤ (w3.alloc (.cells #[.int .i64 (x : Int)] 3)).heap.size) := Nat.le_trans (Nat.le_trans (alloc_le w2 _) hgrow.size) (alloc_le w3 _); clear hown' hgrow))
  have X3 : Hid (Ext w w3) := X2a.out.grown HGROW3.out (fun b hb => by injection hb with hb; subst hb; exact X2.out.size)
  have R3 : Hid (RowG 3 g gc (poolF k J) w3) := R2a.out.grown' HGROW3.out (fun b hb => by injection hb with hb; subst hb; exact R2.out.lt)
  have X3a : Hid (Ext w (w3.alloc (.cells #[.int .i64 (x : Int)] 3))) := X3.out.alloc _
  have R3a : Hid (RowG 3 g gc (poolF k J) (w3.alloc (.cells #[.int .i64 (x : Int)] 3))) := R3.out.ext ((Ext.refl _).alloc _)
  have X4 : Hid (Ext w w4) := X3a.out.grown HGROW4.out (fun b hb => Nat.le_trans X2.out.size (W3a.out.lt b hb).1)
  have R4 : Hid (RowG 3 g gc (poolF k J) w4) := R3a.out.grown' HGROW4.out (fun b hb => Nat.lt_of_lt_of_le R2.out.lt (W3a.out.lt b hb).1)
  have I4 : Hid (Ints w4 (.slice va4 (J.length + [(x : Int)].length) vc4) (J ++ [(x : Int)])) := by
    have := Own.sl (.inl HOWN4.out)
    show Ints _ _ _
    unfold Ints
    rw [List.length_append, List.map_append]
    exact this
  clear HOWN3 HGROW3 HOWN4 HGROW4
  refine (plrow_ok I4.out k p KP.out P64.out JL2.out OK2.out).mono ?_
  rintro e w5 ⟨g5, gc5, rfl, hg5, hr5, x5⟩
  have R5 := Lib.hid hr5.1
  have X5 := Lib.hid (X4.out.trans x5)
  have R4 := Lib.hid (R4.out.ext x5)
  clear hr5 x5 hg5 X4 X3 X3a X2a R2a R3 R3a R2 W3a S3a HI2
  have IL : Hid (Ints w5 (.slice (some ⟨g, 0, none⟩) k gc) (poolF k J)) := by have := R4.out.ownI.ints; rwa [poolF_length] at this
  have IM : Hid (Ints w5 (.slice (some ⟨g5, 0, none⟩) k gc5) (poolF k (J ++ [(x : Int)]))) := by have := R5.out.ownI.ints; rwa [poolF_length] at this
  by_cases hxk : k ≤ x
  · have t9 : (k : Int) ≤ x := by omega
    have HD : Hid (decide (poolF k J = poolF k (J ++ [(x : Int)])) = true) := by show _ = _; rw [decide_eq_true_eq, more_stay (by omega)]
    clear hxk
    go_wp2_with fail
    refine (same13_calls IL.out IM.out true HD.out).mono ?_
    rintro e w6 ⟨rfl, x6⟩
    have X6 := Lib.hid (X5.out.trans x6)
    clear x6
    go_wp2_with fail
    go_ret
    exact ⟨rfl, X6.out⟩
  · have hxk' : x < k := by omega
    obtain ⟨d, hd, hgone⟩ := more_gone (J := J) hxk'
    have HGN := Lib.hid hgone
    have HLA : Hid ((poolF k (J ++ [(x : Int)])).getD (k - 1) 0 = (n : Int)) := by show _ = _; rw [more_last hxk', HM.out, KM.out]
    have t9 : (x : Int) + 1 ≤ k := by omega
    have e9 : decide (k ≤ x) = false := by rw [decide_eq_false_iff_not]; exact hxk
    have e9' : (k ≤ x) = False := eq_false hxk
    obtain ⟨q, hq⟩ : ∃ q, k - 1 = q := ⟨_, rfl⟩
    have hwq : IntKind.i64.wrap ((k : Int) - 1) = (q : Int) := by rw [IntWalk.i64_in _ (by omega)]; omega
    have hqk : q < k := by omega
    have clast := R5.out.cell (j := q) (by rw [poolF_length]; exact hqk)
    rw [← hq, HLA.out, hq] at clast
    have DK := Lib.hid hd
    clear hxk hxk' hgone hd hq
    go_wp2_with fail
    go_loopw [14, 15] (fun v14 v15 wr => ∃ i : Nat, v15 = .int .i64 (i : Int) ∧ i ≤ k ∧ v14 = .int .i64 (if d < i then 1 else 0) ∧ Ext w5 wr) (fun _ v15 _ => k - (intOf v15).toNat)
    case atStart => exact ⟨0, rfl, Nat.zero_le _, rfl, Ext.refl _⟩
    case round =>
      obtain ⟨i, rfl, hi, rfl, hx⟩ := hrel
      have X := Lib.hid hx
      clear hx clast
      by_cases hik : i < k
      · have LT := Lib.hid hik
        obtain ⟨y, hy⟩ : ∃ y, (poolF k J).getD i 0 = y := ⟨_, rfl⟩
        have HY := Lib.hid hy
        obtain ⟨c, hc⟩ : ∃ c : Int, (if d < i then (1 : Int) else 0) = c := ⟨_, rfl⟩
        have HC := Lib.hid hc
        have c1 : 0 ≤ c := by rw [← hc]; split <;> omega
        have c2 : c ≤ 1 := by rw [← hc]; split <;> omega
        rw [hc]
        clear hy hc
        go_wp2_with fail
        go_loopw [16, 17] (fun v16 v17 wr => ∃ (q : Nat) (b : Bool), v17 = .int .i64 (q : Int) ∧ q ≤ k ∧ v16 = .bool b ∧ Hid (b = true ↔ ∃ r, r < q ∧ (poolF k (J ++ [(x : Int)])).getD r 0 = y) ∧ Ext w5 wr) (fun _ v17 _ => k - (intOf v17).toNat)
        case atStart => exact ⟨0, false, rfl, Nat.zero_le _, rfl, ⟨fun h => (by cases h), fun ⟨r, h, _⟩ => by omega⟩, X.out⟩
        case round =>
          clear X
          obtain ⟨q, b, rfl, hq, rfl, hb, hx⟩ := hrel
          have X := Lib.hid hx
          clear hx
          by_cases hqk2 : q < k
          · have LQ := Lib.hid hqk2
            obtain ⟨z, hz⟩ : ∃ z, (poolF k (J ++ [(x : Int)])).getD q 0 = z := ⟨_, rfl⟩
            have cz := (R5.out.ext X.out).cell (j := q) (by rw [poolF_length]; exact hqk2)
            rw [hz] at cz
            have cy := (R4.out.ext X.out).cell (j := i) (by rw [poolF_length]; exact LT.out)
            rw [HY.out] at cy
            have HZ := Lib.hid hz
            clear hz hq
            cases b with
            | true =>
              have HB2 : Hid (true = true ↔ ∃ r, r < q + 1 ∧ (poolF k (J ++ [(x : Int)])).getD r 0 = y) := ⟨fun h => (by obtain ⟨r, h1, h2⟩ := hb.out.1 h; exact ⟨r, by omega, h2⟩), fun _ => rfl⟩
              clear hb
              go_wp2_with fail
              go_quiet (fail)
              go_wp2_with fail
              exact ⟨⟨q + 1, true, by first | rfl | go_num, LQ.out, rfl, ⟨fun _ => HB2.out.1 trivial, fun _ => rfl⟩, X.out.drewN _⟩, by simp [intOf]; have := LQ.out; omega⟩
            | false =>
              by_cases hzy : z = y
              · have HB2 : Hid (true = true ↔ ∃ r, r < q + 1 ∧ (poolF k (J ++ [(x : Int)])).getD r 0 = y) := ⟨fun _ => ⟨q, by omega, by rw [HZ.out, hzy]⟩, fun _ => rfl⟩
                have ez : (z == y) = true := by rw [beq_iff_eq]; exact hzy
                clear hb
                go_wp2_with fail
                go_quiet (fail)
                go_wp2_with fail
                exact ⟨⟨q + 1, true, by first | rfl | go_num, LQ.out, rfl, ⟨fun _ => HB2.out.1 trivial, fun _ => rfl⟩, X.out.drewN _⟩, by simp [intOf]; have := LQ.out; omega⟩
              · have HB2 : Hid (false = true ↔ ∃ r, r < q + 1 ∧ (poolF k (J ++ [(x : Int)])).getD r 0 = y) := ⟨fun h => (by cases h), fun ⟨r, h1, h2⟩ => by
                  by_cases e : r < q
                  · exact hb.out.2 ⟨r, e, h2⟩
                  · obtain rfl : r = q := by omega
                    exact absurd (HZ.out.symm.trans h2) hzy⟩
                have ez : (z == y) = false := by rw [beq_eq_false_iff_ne]; exact hzy
                clear hb
                go_wp2_with fail
                go_quiet (fail)
                go_wp2_with fail
                exact ⟨⟨q + 1, false, by first | rfl | go_num, LQ.out, rfl, HB2.out, X.out.drewN _⟩, by simp [intOf]; have := LQ.out; omega⟩
          · obtain rfl : k = q := by omega
            have HIN : Hid (b = true ↔ i ≠ d) := by
              have h1 := HGN.out i LT.out
              rw [HY.out] at h1
              rw [← h1]
              refine hb.out.trans ⟨fun ⟨r, h2, h3⟩ => ?_, fun h2 => ?_⟩
              · rw [← h3, getD_in (by rw [poolF_length]; exact h2)]; exact List.getElem_mem _
              · obtain ⟨r, hr, e⟩ := List.getElem_of_mem h2
                exact ⟨r, by rw [poolF_length] at hr; exact hr, by rw [getD_in hr]; exact e⟩
            clear hb hqk2 hq
            cases b with
            | true =>
              have HC2 : Hid ((if d < i + 1 then (1 : Int) else 0) = c) := by
                show _ = _
                rw [← HC.out]
                have := HIN.out.1 rfl
                by_cases e : d < i
                · rw [if_pos e, if_pos (by omega)]
                · rw [if_neg e, if_neg (by omega)]
              clear HIN
              go_wp2_with fail
              exact ⟨⟨i + 1, by go_num, LT.out, by rw [HC2.out], X.out⟩, by simp [intOf]; have := LT.out; omega⟩
            | false =>
              have hid : i = d := by
                by_cases e : i = d
                · exact e
                · exact absurd (HIN.out.2 e) (by simp)
              have HC2 : Hid (c = 0) := by show _ = _; rw [← HC.out, if_neg (by omega)]
              have HC3 : Hid ((if d < i + 1 then (1 : Int) else 0) = 1) := by show _ = _; rw [if_pos (by omega)]
              have HC4 : Hid (c + 1 = 1) := by show _ = _; rw [HC2.out]; rfl
              have hwc : IntKind.i64.wrap (c + 1) = 1 := by rw [HC4.out]; rfl
              clear HIN hid
              go_wp2_with fail
              exact ⟨⟨i + 1, by go_num, LT.out, by rw [HC3.out], X.out⟩, by simp [intOf]; have := LT.out; omega⟩
      · obtain rfl : k = i := by omega
        have HC : Hid ((if d < k then (1 : Int) else 0) = 1) := by show _ = _; rw [if_pos DK.out]
        rw [HC.out]
        clear hik hi
        go_wp2_with fail
        go_ret
        exact ⟨rfl, X5.out.trans X.out⟩

theorem poolMore_calls {w : World} {v : Value} {J : List Int} (k : Int) (_hk : -9223372036854775808 ≤ k ∧ k ≤ 9223372036854775807) (n : Int) (_hn : -9223372036854775808 ≤ n ∧ n ≤ 9223372036854775807) (hJ : Ints w v J) (j : Nat) (hj : j < 256) :
    Calls Try.prog 8 #[.int .i64 k, .int .i64 n, v, .int .u8 (j : Int)] w (Yes w) := by
  rcases Nat.lt_or_ge 200 J.length with h | h
  · exact poolMore_out k n hJ j (.inl h)
  by_cases hn : 64 ≤ n
  · exact poolMore_out k n hJ j (.inr ⟨h, hn⟩)
  by_cases he : errPool k n J = 0
  · obtain ⟨h1, h2, h3⟩ := errPool_ok he
    unfold mayP at h1
    obtain ⟨kk, rfl⟩ : ∃ kk : Nat, k = (kk : Int) := ⟨k.toNat, by omega⟩
    obtain ⟨nn, rfl⟩ : ∃ nn : Nat, n = (nn : Int) := ⟨n.toNat, by omega⟩
    exact poolMore_main kk nn hJ j hj (by omega) (by omega) (by omega) (by simpa using h3)
  · exact poolMore_no k n hJ j h (by omega) he
end Go.Proofs.Ytkfioaoooodmnaa
