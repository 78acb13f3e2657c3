/- The laws on decimal digits, first part: DecShows, DecBack, DecOrder, DecMany answer true. -/
import Derived.Test.YtocaimhmgpacmaaDoorAwake04
namespace Go.Proofs.YtocaimhmgpacmaaDoor
open Go Go.RowKit

theorem long1_calls {w : World} {v : Value} {A : List Nat} (hA : Limbs w v A) (b : Bool) (hb : decide (24 < A.length) = b) :
    Calls Tryd.prog 12 #[.slice (some ⟨w.heap.size, 0, none⟩) 1 1] (w.alloc (.cells #[v] 23)) fun e w' => e = .returned (.bool b) ∧ w.alloc (.cells #[v] 23) = w' := by
  have h := long_calls (Ls := [A]) (sl_lit w 23 #[v] 1 rfl (by unfold maxLen; omega)) rfl (fun i hi => by
    have hi' : i < 1 := hi
    obtain rfl : i = 0 := by omega
    exact ⟨A, rfl, hA.ext ((Ext.refl w).alloc _)⟩)
  refine h.mono fun e w' ⟨h1, h2⟩ => ⟨by rw [h1, ← hb]; simp [longL], h2⟩
theorem long2_calls {w : World} {v u : Value} {A B : List Nat} (hA : Limbs w v A) (hB : Limbs w u B) (b : Bool) (hb : (decide (24 < A.length) || decide (24 < B.length)) = b) :
    Calls Tryd.prog 12 #[.slice (some ⟨w.heap.size, 0, none⟩) 2 2] (w.alloc (.cells #[v, u] 23)) fun e w' => e = .returned (.bool b) ∧ w.alloc (.cells #[v, u] 23) = w' := by
  have h := long_calls (Ls := [A, B]) (sl_lit w 23 #[v, u] 2 rfl (by unfold maxLen; omega)) rfl (fun i hi => by
    have hi' : i < 2 := hi
    by_cases h0 : i = 0
    · subst h0; exact ⟨A, rfl, hA.ext ((Ext.refl w).alloc _)⟩
    · obtain rfl : i = 1 := by omega
      exact ⟨B, rfl, hB.ext ((Ext.refl w).alloc _)⟩)
  refine h.mono fun e w' ⟨h1, h2⟩ => ⟨by rw [h1, ← hb]; simp [longL], h2⟩

theorem refshow_str {w : World} {v : Value} {A : List Nat} (hA : Limbs w v A) (hln : A.length ≤ 65536) (s : ByteArray) (hs : s.data.toList = showL (val A)) :
    Calls Tryd.prog 15 #[v] w fun e w' => e = .returned (.string s) ∧ Ext w w' :=
  (refshow_calls hA hln).mono fun _ _ ⟨h1, h2⟩ => ⟨by rw [h1, mk_of hs], h2⟩
theorem refmany_int {w : World} {v : Value} {A : List Nat} (hA : Limbs w v A) (hln : A.length ≤ 65536) (n : Int) (hn : n = ((showL (val A)).length : Nat)) :
    Calls Tryd.prog 17 #[v] w fun e w' => e = .returned (.int .i64 n) ∧ Ext w w' :=
  (refmany_calls hA hln).mono fun _ _ ⟨h1, h2⟩ => ⟨by rw [h1, hn], h2⟩

theorem str_of (l : List UInt8) : ∃ s : ByteArray, s.data.toList = l := ⟨⟨l.toArray⟩, rfl⟩

set_option maxHeartbeats 1000000 in
theorem decShows_calls {w : World} {v : Value} {A : List Nat} (hA : Limbs w v A) : Calls Tryd.prog 3 #[v] w (Yes w) := by
  obtain ⟨pa, pc, rfl, -, -, -⟩ := hA.open
  by_cases h24 : 24 < A.length
  · go_enter Tryd.func3, Tryd.ntmps3
    go_wp2_with fail
    refine (long1_calls hA true (by simpa using h24)).mono ?_
    rintro e w0 ⟨rfl, rfl⟩
    go_wp2_with fail
    refine (awake_calls _).mono ?_
    rintro e w1 ⟨rfl, x1⟩
    go_wp2_with fail
    go_ret
    exact ⟨rfl, ((Ext.refl w).alloc _).trans x1⟩
  · obtain ⟨s, hs⟩ := str_of (showL (val A))
    have HS := Lib.hid hs
    have hln : A.length ≤ 65536 := by omega
    obtain ⟨k, hk⟩ : ∃ k : Int, k = ((showL (val A)).length : Nat) := ⟨_, rfl⟩
    have HK := Lib.hid hk
    clear hs hk
    go_enter Tryd.func3, Tryd.ntmps3
    go_wp2_with fail
    refine (long1_calls hA false (by simpa using h24)).mono ?_
    rintro e w0 ⟨rfl, rfl⟩
    have y0 := (Ext.refl w).alloc (.cells #[.slice pa A.length pc] 23)
    go_wp2_with fail
    refine (show_str (hA.ext y0) hln s HS.out).mono ?_
    rintro e w1 ⟨rfl, x1⟩
    have y1 := y0.trans x1
    go_wp2_with fail
    refine (refshow_str (hA.ext y1) hln s HS.out).mono ?_
    rintro e w2 ⟨rfl, x2⟩
    have y2 := y1.trans x2
    go_wp2_with fail
    refine (many_int (hA.ext y2) hln k HK.out).mono ?_
    rintro e w3 ⟨rfl, x3⟩
    have y3 := y2.trans x3
    go_wp2_with fail
    refine (refmany_int (hA.ext y3) hln k HK.out).mono ?_
    rintro e w4 ⟨rfl, x4⟩
    have y4 := y3.trans x4
    go_wp2_with fail
    refine (awake_calls _).mono ?_
    rintro e w5 ⟨rfl, x5⟩
    go_wp2_with fail
    go_ret
    exact ⟨rfl, y4.trans x5⟩

theorem showL_600 {A : List Nat} (hA : ∀ x ∈ A, x < Bs) (h : A.length ≤ 24) : (showL (val A)).length ≤ 480 := by
  have h1 : val A < Bs ^ 24 := Nat.lt_of_lt_of_le (val_lt hA) (Nat.pow_le_pow_right Bs_pos h)
  refine (showL_len (by omega)).2 (Nat.lt_trans h1 ?_)
  rw [Bs_def]; decide +kernel

theorem ten_bs (n : Nat) : 10 ^ n ≤ Bs ^ n := Nat.pow_le_pow_left (by rw [Bs_def]; omega) n
theorem dig_lmax {n k : Nat} (h : n < Bs ^ k) (hk : k ≤ 65536) : (dig n).length ≤ 65536 := Nat.le_trans (dig_len_le h) hk

set_option maxHeartbeats 2000000 in
theorem decBack_calls {w : World} {v : Value} {A : List Nat} (hA : Limbs w v A) (s : ByteArray) (hsz : s.size ≤ maxLen) : Calls Tryd.prog 6 #[v, .string s] w (Yes w) := by
  obtain ⟨pa, pc, rfl, -, -, -⟩ := hA.open
  by_cases h24 : 24 < A.length
  · go_enter Tryd.func6, Tryd.ntmps6
    go_wp2_with fail
    refine (long1_calls hA true (by simpa using h24)).mono ?_
    rintro e w0 ⟨rfl, rfl⟩
    go_wp2_with fail
    refine (awake_calls _).mono ?_
    rintro e w1 ⟨rfl, x1⟩
    go_wp2_with fail
    go_ret
    exact ⟨rfl, ((Ext.refl w).alloc _).trans x1⟩
  by_cases h500 : 500 < s.size
  · unfold maxLen at hsz
    go_enter Tryd.func6, Tryd.ntmps6
    go_wp2_with fail
    refine (long1_calls hA false (by simpa using h24)).mono ?_
    rintro e w0 ⟨rfl, rfl⟩
    go_wp2_with fail
    refine (awake_calls _).mono ?_
    rintro e w1 ⟨rfl, x1⟩
    go_wp2_with fail
    go_ret
    exact ⟨rfl, ((Ext.refl w).alloc _).trans x1⟩
  have hln : A.length ≤ 65536 := by omega
  have hlm : A.length ≤ Lmax := by rw [Lmax_def]; omega
  obtain ⟨t, ht⟩ := str_of (showL (val A))
  have hRS := read_show (n := val A) (by have := showL_600 hA.2 (by omega); omega)
  have HT := Lib.hid ht
  have htz : t.size ≤ maxLen := by rw [Lib.size_eq, ht]; have := showL_600 hA.2 (by omega); unfold maxLen; omega
  have HTZ := Lib.hid htz
  have HRS := Lib.hid hRS
  have HSZ := Lib.hid hsz
  clear ht htz hRS hsz
  go_enter Tryd.func6, Tryd.ntmps6
  go_wp2_with fail
  refine (long1_calls hA false (by simpa using h24)).mono ?_
  rintro e w0 ⟨rfl, rfl⟩
  have y0 := (Ext.refl w).alloc (.cells #[.slice pa A.length pc] 23)
  go_wp2_with fail
  refine (awake_calls _).mono ?_
  rintro e w1 ⟨rfl, x1⟩
  have y1 := y0.trans x1
  go_wp2_with fail
  refine (show_str (hA.ext y1) hln t HT.out).mono ?_
  rintro e w2 ⟨rfl, x2⟩
  have y2 := y1.trans x2
  go_wp2_with fail
  refine (read_str t _ HTZ.out 0 (val A) (by rw [HT.out, HRS.out.1]; rfl) (by rw [HT.out, HRS.out.2])).mono ?_
  rintro e w3 ⟨b, rfl, hb, x3⟩
  have y3 := y2.trans x3
  go_wp2_with fail
  refine (trim_calls (hA.ext y3) hlm).mono ?_
  rintro e w4 ⟨c, rfl, hc, x4⟩
  have y4 := y3.trans x4
  go_wp2_with fail
  refine (same_true (hb.limbs.ext x4) hc.limbs rfl).mono ?_
  rintro e w5 ⟨rfl, x5⟩
  have y5 := y4.trans x5
  by_cases hE : errR s.data.toList = 0
  · obtain ⟨k, hk⟩ : ∃ k, k = readN s.data.toList := ⟨_, rfl⟩
    have HSR : Hid (s.data.toList = showL k) := by show _ = _; rw [hk]; exact (show_read hE).symm
    have HE : Hid (((errR s.data.toList : Nat) : Int) = 0) := by show _ = _; rw [hE]; rfl
    have HK := Lib.hid hk
    have hkl : (dig k).length ≤ 65536 := by
      have h1 := showL_lt k
      rw [← HSR.out, ← Lib.size_eq] at h1
      exact dig_lmax (Nat.lt_of_lt_of_le h1 (ten_bs _)) (by omega)
    have HM : Hid ((s.size : Int) = ((showL (val (dig k))).length : Nat)) := by show _ = _; rw [val_dig, ← HSR.out, Lib.size_eq]
    clear hE hk
    go_wp2_with fail
    refine (read_str s _ HSZ.out 0 k HE.out HK.out.symm).mono ?_
    rintro e w6 ⟨d, rfl, hd, x6⟩
    go_wp2_with fail
    refine (show_str hd.limbs hkl s (by rw [val_dig]; exact HSR.out)).mono ?_
    rintro e w7 ⟨rfl, x7⟩
    go_wp2_with fail
    refine (many_int (hd.limbs.ext x7) hkl _ HM.out).mono ?_
    rintro e w8 ⟨rfl, x8⟩
    go_wp2_with fail
    go_ret
    exact ⟨rfl, ((y5.trans x6).trans x7).trans x8⟩
  · obtain ⟨k, hk⟩ : ∃ k : Int, ((errR s.data.toList : Nat) : Int) = k := ⟨_, rfl⟩
    have HK := Lib.hid hk
    have hk0 : (k == 0) = false := by rw [beq_eq_false_iff_ne]; omega
    have hk1 : (k != 0) = true := by rw [bne_iff_ne]; omega
    have HR : Hid (readN s.data.toList = 0) := by show readN _ = 0; rw [readN, if_neg hE]
    clear hE hk
    go_wp2_with fail
    refine (read_str s _ HSZ.out k 0 HK.out HR.out).mono ?_
    rintro e w6 ⟨d, rfl, hd, x6⟩
    obtain ⟨da, dc, rfl, -, -, -⟩ := hd.limbs.open
    have hz : (dig 0).length = 0 := by rw [dig_zero]; rfl
    go_wp2_with fail
    go_ret
    exact ⟨rfl, y5.trans x6⟩

theorem cmp_eq_of {a b : Nat} (h : showL a = showL b) : cmpN a b = 0 := cmpN_eq (showL_inj h)

set_option maxHeartbeats 2000000 in
theorem decOrder_calls {w : World} {v u : Value} {A B : List Nat} (hA : Limbs w v A) (hB : Limbs w u B) : Calls Tryd.prog 7 #[v, u] w (Yes w) := by
  obtain ⟨pa, pc, rfl, -, -, -⟩ := hA.open
  obtain ⟨qa, qc, rfl, -, -, -⟩ := hB.open
  by_cases h24 : (decide (24 < A.length) || decide (24 < B.length)) = true
  · go_enter Tryd.func7, Tryd.ntmps7
    go_wp2_with fail
    refine (long2_calls hA hB true h24).mono ?_
    rintro e w0 ⟨rfl, rfl⟩
    go_wp2_with fail
    refine (awake_calls _).mono ?_
    rintro e w1 ⟨rfl, x1⟩
    go_wp2_with fail
    go_ret
    exact ⟨rfl, ((Ext.refl w).alloc _).trans x1⟩
  have h24' : (decide (24 < A.length) || decide (24 < B.length)) = false := by simpa using h24
  have hlA : A.length ≤ 24 := by simp at h24'; omega
  have hlB : B.length ≤ 24 := by simp at h24'; omega
  obtain ⟨s, hs⟩ := str_of (showL (val A))
  obtain ⟨t, ht⟩ := str_of (showL (val B))
  have HS := Lib.hid hs
  have HT := Lib.hid ht
  have H24 := Lib.hid h24'
  have zs : s.size ≤ 480 := by rw [Lib.size_eq, hs]; exact showL_600 hA.2 hlA
  have zt : t.size ≤ 480 := by rw [Lib.size_eq, ht]; exact showL_600 hB.2 hlB
  obtain ⟨c, hc⟩ : ∃ c, c = cmpN (val A) (val B) := ⟨_, rfl⟩
  have HC := Lib.hid hc
  have HBL : Hid (s.size = t.size → Op.bytesLess s.toList t.toList = decide (val A < val B)) := by
    intro e
    rw [Lib.toList_data, Lib.toList_data, hs, ht, bytesLess_dval _ _ (by rw [← hs, ← ht, ← Lib.size_eq, ← Lib.size_eq]; exact e) (showL_all _) (showL_all _), dval_showL, dval_showL]
  have HEQ : Hid ((s.toList == t.toList) = decide (val A = val B)) := by
    show (s.toList == t.toList) = _
    rw [Lib.toList_data, Lib.toList_data, hs, ht, Bool.eq_iff_iff]
    simp only [beq_iff_eq, decide_eq_true_eq]
    exact ⟨showL_inj, fun e => by rw [e]⟩
  have HL1 : Hid (s.size < t.size → val A < val B) := fun h => showL_len_lt (by rw [← hs, ← ht, ← Lib.size_eq, ← Lib.size_eq]; exact h)
  have HL2 : Hid (t.size < s.size → val B < val A) := fun h => showL_len_lt (by rw [← hs, ← ht, ← Lib.size_eq, ← Lib.size_eq]; exact h)
  clear hs ht h24 h24' hc
  go_enter Tryd.func7, Tryd.ntmps7
  go_wp2_with fail
  refine (long2_calls hA hB false H24.out).mono ?_
  rintro e w0 ⟨rfl, rfl⟩
  have y0 := (Ext.refl w).alloc (.cells #[.slice pa A.length pc, .slice qa B.length qc] 23)
  go_wp2_with fail
  refine (awake_calls _).mono ?_
  rintro e w1 ⟨rfl, x1⟩
  have y1 := y0.trans x1
  go_wp2_with fail
  refine (show_str (hA.ext y1) (by omega) s HS.out).mono ?_
  rintro e w2 ⟨rfl, x2⟩
  have y2 := y1.trans x2
  go_wp2_with fail
  refine (show_str (hB.ext y2) (by omega) t HT.out).mono ?_
  rintro e w3 ⟨rfl, x3⟩
  have y3 := y2.trans x3
  go_wp2_with fail
  refine (cmp_calls (hA.ext y3) (hB.ext y3) (by rw [Lmax_def]; omega) (by rw [Lmax_def]; omega)).mono ?_
  rintro e w4 ⟨rfl, rfl⟩
  rw [← HC.out]
  rcases Nat.lt_trichotomy s.size t.size with g | g | g
  · have hc : c = -1 := by rw [HC.out]; exact cmpN_lt (HL1.out g)
    have g1 : ((s.size : Int) != (t.size : Int)) = true := by rw [bne_iff_ne]; omega
    have g2 : decide ((s.size : Int) < (t.size : Int)) = true := by simpa using g
    subst hc
    go_wp2_with fail
    go_ret
    exact ⟨rfl, y3⟩
  · have g1 : ((s.size : Int) != (t.size : Int)) = false := by rw [bne_eq_false_iff_eq]; omega
    have h1 := HBL.out g
    have h2 := HEQ.out
    rcases Nat.lt_trichotomy (val A) (val B) with k | k | k
    · have hc : c = -1 := by rw [HC.out]; exact cmpN_lt k
      have e1 : Op.bytesLess s.toList t.toList = true := by rw [h1]; simpa using k
      have e2 : (s.toList == t.toList) = false := by rw [h2]; simp; omega
      subst hc
      clear h1 h2 k g
      go_wp2_with fail
      go_ret
      exact ⟨rfl, y3⟩
    · have hc : c = 0 := by rw [HC.out]; exact cmpN_eq k
      have e1 : Op.bytesLess s.toList t.toList = false := by rw [h1]; simp; omega
      have e2 : (s.toList == t.toList) = true := by rw [h2]; simpa using k
      subst hc
      clear h1 h2 k g
      go_wp2_with fail
      go_ret
      exact ⟨rfl, y3⟩
    · have hc : c = 1 := by rw [HC.out]; exact cmpN_gt k
      have e1 : Op.bytesLess s.toList t.toList = false := by rw [h1]; simp; omega
      have e2 : (s.toList == t.toList) = false := by rw [h2]; simp; omega
      subst hc
      clear h1 h2 k g
      go_wp2_with fail
      go_ret
      exact ⟨rfl, y3⟩
  · have hc : c = 1 := by rw [HC.out]; exact cmpN_gt (HL2.out g)
    have g1 : ((s.size : Int) != (t.size : Int)) = true := by rw [bne_iff_ne]; omega
    have g2 : decide (s.size < t.size) = false := by simp; omega
    subst hc
    go_wp2_with fail
    go_ret
    exact ⟨rfl, y3⟩
end Go.Proofs.YtocaimhmgpacmaaDoor
