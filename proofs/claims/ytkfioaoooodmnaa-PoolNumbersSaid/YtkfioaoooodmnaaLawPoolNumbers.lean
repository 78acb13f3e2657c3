/- PoolNumbers answers true at all strings, numbers. -/
import Derived.Test.YtkfioaoooodmnaaPartJ
namespace Go.Proofs.Ytkfioaoooodmnaa
open Go Go.RowKit

set_option maxHeartbeats 1000000 in
set_option maxRecDepth 100000 in
theorem ccopy_calls {S : ByteArray} {s a : Nat} {ov : Bool} {w : World} (h : Cur S s a ov w) :
    Calls Try.prog 32 #[.pointer (some ⟨s, 0, none⟩)] w fun e w' => ∃ t, e = .returned (.pointer (some ⟨t, 0, none⟩)) ∧ w.heap.size ≤ t ∧ Cur S t a ov w' ∧ Ext w w' := by
  have c0 := h.c0.1
  have c1 := h.c1.1
  have c2 := h.c2.1
  go_enter Try.func32, Try.ntmps32
  go_wp2_with fail
  go_ret
  exact ⟨_, rfl, Nat.le_refl _, ⟨At.n0 (by rfl), At.n0 (by rfl), At.n0 (by rfl), Bx.n0 3 ⟨rfl, by decide⟩ (by decide) (by simp [NoI])⟩, (Ext.refl _).alloc _⟩

set_option maxHeartbeats 2000000 in
set_option maxRecDepth 100000 in
theorem poolNumbers_out1 (w : World) (s b : ByteArray) (hs : s.size ≤ maxLen) (k n : Int) (h : okS s.data.toList = false) :
    Calls Try.prog 10 #[.string s, .string b, .int .i64 k, .int .i64 n] w (Yes w) := by
  have HS := Lib.hid hs
  have HB := Lib.hid h
  clear hs h
  go_enter Try.func10, Try.ntmps10
  go_wp2_with fail
  refine (bits_is s _ HS.out false HB.out).mono ?_
  rintro e w1 ⟨rfl, rfl⟩
  go_wp2_with fail
  refine (awake13_calls _).mono ?_
  rintro e w2 ⟨rfl, x2⟩
  go_wp2_with fail
  go_ret
  exact ⟨rfl, x2⟩
set_option maxHeartbeats 2000000 in
set_option maxRecDepth 100000 in
theorem poolNumbers_out2 (w : World) (s b : ByteArray) (hs : s.size ≤ maxLen) (hb : b.size ≤ maxLen) (k n : Int) (h : okS s.data.toList = true) (h' : okS b.data.toList = false) :
    Calls Try.prog 10 #[.string s, .string b, .int .i64 k, .int .i64 n] w (Yes w) := by
  have HS := Lib.hid hs
  have HB := Lib.hid h
  have HS2 := Lib.hid hb
  have HB2 := Lib.hid h'
  clear hs h hb h'
  go_enter Try.func10, Try.ntmps10
  go_wp2_with fail
  refine (bits_is s _ HS.out true HB.out).mono ?_
  rintro e w1 ⟨rfl, rfl⟩
  go_wp2_with fail
  refine (bits_is b _ HS2.out false HB2.out).mono ?_
  rintro e w1 ⟨rfl, rfl⟩
  go_wp2_with fail
  refine (awake13_calls _).mono ?_
  rintro e w2 ⟨rfl, x2⟩
  go_wp2_with fail
  go_ret
  exact ⟨rfl, x2⟩
set_option maxHeartbeats 2000000 in
set_option maxRecDepth 100000 in
theorem poolNumbers_out3 (w : World) (s b : ByteArray) (hs : s.size ≤ maxLen) (hb : b.size ≤ maxLen) (k n : Int) (h : okS s.data.toList = true) (h' : okS b.data.toList = true) (hc : 1024 < s.size + b.size ∨ (s.size + b.size ≤ 1024 ∧ n < 0) ∨ (s.size + b.size ≤ 1024 ∧ 0 ≤ n ∧ 64 < n) ∨ (s.size + b.size ≤ 1024 ∧ 0 ≤ n ∧ n ≤ 64 ∧ k < 0) ∨ (s.size + b.size ≤ 1024 ∧ 0 ≤ n ∧ n ≤ 64 ∧ 0 ≤ k ∧ n < k)) :
    Calls Try.prog 10 #[.string s, .string b, .int .i64 k, .int .i64 n] w (Yes w) := by
  have HS := Lib.hid hs
  have HB := Lib.hid h
  have HS2 := Lib.hid hb
  have HB2 := Lib.hid h'
  have l1 := (okS_len h).1
  have l2 := (okS_len h').1
  obtain ⟨p, hp⟩ : ∃ p, s.size + b.size = p := ⟨_, rfl⟩
  have hwp : IntKind.i64.wrap ((s.size : Int) + b.size) = (p : Int) := by rw [IntWalk.i64_in _ (by omega)]; omega
  rw [hp] at hc
  clear hs h hb h' l1 l2
  rcases hc with h1 | ⟨h1, h2⟩ | ⟨h1, h2, h3⟩ | ⟨h1, h2, h3, h4⟩ | ⟨h1, h2, h3, h4, h5⟩
  · have t1 : (1025 : Int) ≤ p := by omega
    clear hp h1
    go_enter Try.func10, Try.ntmps10
    go_wp2_with fail
    refine (bits_is s _ HS.out true HB.out).mono ?_
    rintro e w1 ⟨rfl, rfl⟩
    go_wp2_with fail
    refine (bits_is b _ HS2.out true HB2.out).mono ?_
    rintro e w1 ⟨rfl, rfl⟩
    go_wp2_with fail
    refine (awake13_calls _).mono ?_
    rintro e w2 ⟨rfl, x2⟩
    go_wp2_with fail
    go_ret
    exact ⟨rfl, x2⟩
  all_goals
    have t1 : (p : Int) ≤ 1024 := by omega
    clear hp h1
    go_enter Try.func10, Try.ntmps10
    go_wp2_with fail
    refine (bits_is s _ HS.out true HB.out).mono ?_
    rintro e w1 ⟨rfl, rfl⟩
    go_wp2_with fail
    refine (bits_is b _ HS2.out true HB2.out).mono ?_
    rintro e w1 ⟨rfl, rfl⟩
    go_wp2_with fail
    refine (awake13_calls _).mono ?_
    rintro e w2 ⟨rfl, x2⟩
    go_wp2_with fail
    go_ret
    exact ⟨rfl, x2⟩

/-- bits that were read, and others behind -/
theorem okS_mix {l r : List UInt8} {b : Nat} (hl : okS l = true) (hr : okS r = true) (hb : b + r.length ≤ 1024) : okS (l.take b ++ r) = true := by
  unfold okS at hl hr ⊢
  simp only [Bool.and_eq_true, decide_eq_true_eq, Bool.not_eq_true'] at hl hr ⊢
  refine ⟨by simp; omega, ?_⟩
  have h1 := hl.2
  have h2 := hr.2
  unfold oddL at h1 h2 ⊢
  rw [List.any_append, h2, Bool.or_false, List.any_eq_false]
  intro x hx
  exact List.any_eq_false.1 h1 x (List.mem_of_mem_take hx)

theorem OwnI.mvo {ty : TypeId} {B t : Nat} {w w' : World} {v : Value} {L : List Int} (h : OwnI ty B w v L) (m : Mv t w w') (hB : t < B) : OwnI ty B w' v L := by
  rcases h with ⟨h1, h2⟩ | ⟨a, e1, e2, e3, h4⟩
  · refine .inl ⟨h1, ?_⟩
    rcases h2 with h2 | ⟨g, cap, cur, e, hg, hh, rest⟩
    · exact .inl h2
    · exact .inr ⟨g, cap, cur, e, hg, by rw [m.oth g (Array.getElem?_eq_some_iff.1 hh).1 (by omega)]; exact hh, rest⟩
  · exact .inr ⟨a, e1, e2, e3, fun p hp => ⟨(h4 p hp).1, Nat.lt_of_lt_of_le (h4 p hp).2 m.size⟩⟩
theorem mix_list (s b : ByteArray) (c : Nat) : (s.extract 0 c ++ b).data.toList = s.data.toList.take c ++ b.data.toList := by
  rw [ByteArray.data_append, Array.toList_append, ByteArray.data_extract]
  simp
/-- in the midst of the loop over the numbers -/
structure NuMem (S : ByteArray) (w : World) (t a : Nat) (out : List Nat) (v : Value) (wr : World) : Prop where
  row : wr.ownsRow w.heap.size 3 1 v (intsU out).length ((intsU out).map zv)
  mv : Mv t w wr
  cur : Cur S t a false wr
  lt : t < w.heap.size
theorem NuMem.move {S : ByteArray} {w : World} {t a a' : Nat} {out : List Nat} {v : Value} {wr w1 : World} (h : NuMem S w t a out v wr) (m : Mv t wr w1) (c : Cur S t a' false w1) : NuMem S w t a' out v w1 := by
  refine ⟨?_, h.mv.trans m, c, h.lt⟩
  obtain ⟨h1, h2⟩ := h.row
  refine ⟨h1, ?_⟩
  rcases h2 with h2 | ⟨g, cap, cur, e, hg, hh, rest⟩
  · exact .inl h2
  · exact .inr ⟨g, cap, cur, e, hg, by rw [m.oth g (Array.getElem?_eq_some_iff.1 hh).1 (by have := h.lt; omega)]; exact hh, rest⟩
theorem Mv.grown' {t : Nat} {w wr w' : World} {row : Option Nat} (h : Mv t w wr) (ht : t ≤ w.heap.size) (hg : wr.grownBy w' row) (hr : ∀ k, row = some k → w.heap.size ≤ k) : Mv t w w' :=
  ⟨Below.grown h.blw hg (Nat.le_trans ht h.size) (fun k hk => Nat.le_trans ht (hr k hk)), fun b hb hn => (hg.block b (Nat.lt_of_lt_of_le hb h.size) (fun e => by have := hr b e.symm; omega)).trans (h.oth b hb hn)⟩
theorem Cur.grown' {S : ByteArray} {s a : Nat} {ov : Bool} {w w' : World} {row : Option Nat} (h : Cur S s a ov w) (hg : w.grownBy w' row) (hr : ∀ k, row = some k → s < k) : Cur S s a ov w' :=
  ⟨h.c0.grown hg hr, h.c1.grown hg hr, h.c2.grown hg hr, h.bx.grown hg hr⟩
theorem NuMem.grow {S : ByteArray} {w : World} {t a d : Nat} {out : List Nat} {v v' : Value} {wr w1 w' : World} (h : NuMem S w t a out v wr) (k : Ext wr w1) {C : List Value} (h1 : w'.ownsRow w.heap.size 3 1 v' ((intsU out).length + 1) ((intsU out).map zv ++ C)) (hC : C = [zv (d : Int)]) (hg : w1.grownBy w' v.ownBlock) :
    NuMem S w t a (out ++ [d]) v' w' := by
  subst hC
  have e : intsU (out ++ [d]) = intsU out ++ [(d : Int)] := by simp [intsU]
  have hr : ∀ b, v.ownBlock = some b → w.heap.size ≤ b := fun b hb => (h.row.lt b hb).1
  refine ⟨?_, (h.mv.tail' k (Nat.le_of_lt h.cur.lt)).grown' (Nat.le_of_lt h.lt) hg hr, (h.cur.ext k).grown' hg (fun b hb => Nat.lt_of_lt_of_le h.lt (hr b hb)), h.lt⟩
  rw [e, List.length_append, List.map_append]; exact h1

set_option maxHeartbeats 4000000 in
set_option maxRecDepth 100000 in
theorem poolNumbers_main (w : World) (s b : ByteArray) (hs : s.size ≤ maxLen) (hb : b.size ≤ maxLen) (k n : Nat) (h : okS s.data.toList = true) (h' : okS b.data.toList = true) (hsum : s.size + b.size ≤ 1024) (hkn : k ≤ n) (hn : n ≤ 64) :
    Calls Try.prog 10 #[.string s, .string b, .int .i64 (k : Int), .int .i64 (n : Int)] w (Yes w) := by
  have HS := Lib.hid hs
  have HB := Lib.hid h
  have HS2 := Lib.hid hb
  have HB2 := Lib.hid h'
  obtain ⟨q, hq⟩ : ∃ q, s.size + b.size = q := ⟨_, rfl⟩
  have hwq : IntKind.i64.wrap ((s.size : Int) + b.size) = (q : Int) := by rw [IntWalk.i64_in _ (by omega)]; omega
  have q1 : (q : Int) ≤ 1024 := by omega
  have k1 : (k : Int) ≤ n := by omega
  have n1 : (n : Int) ≤ 64 := by omega
  have KN := Lib.hid hkn
  have N64 := Lib.hid hn
  have SUM := Lib.hid hsum
  have SS : Hid (s.size = s.data.toList.length) := Lib.size_eq s
  obtain ⟨m, hm⟩ : ∃ m, n - k = m := ⟨_, rfl⟩
  have KM : Hid (k + m = n) := by show _ = _; omega
  have MK : Hid (n - k = m) := hm
  obtain ⟨p, c, hd⟩ : ∃ p c, upB s.data.toList m k 0 = (p, c) := ⟨_, _, rfl⟩
  have HD := Lib.hid hd
  have hle := upB_le (l := s.data.toList) m k 0 (Nat.zero_le _)
  rw [hd] at hle
  have CS : Hid (c ≤ s.size) := by show _ ≤ _; rw [SS.out]; exact hle.2
  have HDN : Hid (upB s.data.toList (n - k) k 0 = (p, c)) := by show _ = _; rw [hm]; exact hd
  clear hs h hb h' hsum hkn hn hm hd hle hq
  go_enter Try.func10, Try.ntmps10
  go_wp2_with fail
  refine (bits_is s _ HS.out true HB.out).mono ?_
  rintro e w1 ⟨rfl, rfl⟩
  go_wp2_with fail
  refine (bits_is b _ HS2.out true HB2.out).mono ?_
  rintro e w1 ⟨rfl, rfl⟩
  go_wp2_with fail
  refine (awake13_calls _).mono ?_
  rintro e w2 ⟨rfl, x2⟩
  have X2 := Lib.hid x2
  clear x2 hwq
  go_wp2_with fail
  refine (cnew_ok s _ HS.out HB.out).mono ?_
  rintro e w3 ⟨t1, rfl, l3, c3, x3⟩
  have C3 := Lib.hid c3
  have X3 := Lib.hid (X2.out.trans x3)
  have L1 : Hid (w.heap.size ≤ t1) := Nat.le_trans X2.out.size l3
  clear c3 x3 l3
  go_wp2_with fail
  refine (ccopy_calls C3.out).mono ?_
  rintro e w4 ⟨t2, rfl, l4, c4, x4⟩
  have D4 := Lib.hid c4
  have C4 := Lib.hid (C3.out.ext x4)
  have T2S : Hid (t2 < w4.heap.size) := c4.lt
  have X4 := Lib.hid (X3.out.trans x4)
  have L2 : Hid (w.heap.size ≤ t2) := Nat.le_trans X3.out.size l4
  have T12 : Hid (t1 < t2) := Nat.lt_of_lt_of_le C3.out.lt l4
  clear c4 x4 l4 X3 C3
  go_wp2_with fail
  refine (pldraw_up C4.out HB.out (Nat.zero_le _) k n KN.out N64.out HDN.out).mono ?_
  rintro e w5 ⟨r5, rfl, o5, m5, c5⟩
  obtain ⟨pa5, pc5, rfl⟩ := o5.slice13
  obtain ⟨R, hR⟩ : ∃ R, upR k p = R := ⟨_, rfl⟩
  rw [hR] at o5 ⊢
  have HR := Lib.hid hR
  have O5 := Lib.hid o5.1
  have C5 := Lib.hid c5
  have D5 := Lib.hid (D4.out.mvo m5 (by have := T12.out; omega))
  have X5 := Lib.hid (m5.ext X4.out L1.out)
  clear o5 m5 c5 D4 C4 X4 hR
  have P0 : Hid (NuMem s w5 t2 0 [] (.slice none 0 0) w5) := ⟨World.ownsRow_nil .., Mv.refl _ _, D5.out, D5.out.lt⟩
  go_wp2_with fail
  go_loopw [14, 15] (fun v14 v15 wr => ∃ (i a : Nat) (out : List Nat), v15 = .int .i64 ((k + i : Nat) : Int) ∧ i ≤ m ∧ a ≤ s.size ∧ Hid (upB s.data.toList m k 0 = preU out (upB s.data.toList (m - i) (k + i) a) ∧ out.length = i) ∧ NuMem s w5 t2 a out v14 wr) (fun _ v15 _ => n - (intOf v15).toNat)
  case atStart => exact ⟨0, 0, [], rfl, Nat.zero_le _, Nat.zero_le _, ⟨(preU_nil _).symm, rfl⟩, P0.out⟩
  case round =>
    obtain ⟨i, a, out, rfl, him, haS, hp, hP⟩ := hrel
    have PM := Lib.hid hP
    have HCS := Lib.hid haS
    obtain ⟨va, vc, rfl⟩ := row_sliceI hP.row
    have CX := Lib.hid (C5.out.mvo hP.mv (by have := T12.out; omega))
    have OX := Lib.hid (O5.out.mvo hP.mv T2S.out)
    have XX : Hid (Ext w wr) := hP.mv.ext X5.out L2.out
    clear hP haS
    by_cases hi : i < m
    · obtain ⟨j, hj⟩ : ∃ j, m - i = j + 1 := ⟨m - i - 1, by omega⟩
      obtain ⟨M, hM⟩ : ∃ M, k + i + 1 = M := ⟨_, rfl⟩
      obtain ⟨z, hz⟩ : ∃ z, k + i = z := ⟨_, rfl⟩
      obtain ⟨x, y, a', hdr⟩ := drawIs s.data.toList (k + i + 1) a
      have hx := hdr.lt (by omega)
      have hle := hdr.le (by rw [← SS.out]; exact HCS.out)
      have hkm := KM.out
      have hn64 := N64.out
      have hwM : IntKind.i64.wrap ((z : Int) + 1) = (M : Int) := by rw [IntWalk.i64_in _ (by omega)]; omega
      have hMz : (M : Int) = ((k + (i + 1) : Nat) : Int) := by omega
      have hM1 : (M : Int) ≤ 64 := by omega
      have hx1 : (x : Int) ≤ 64 := by omega
      have hzn : z < n := by omega
      have MB : Hid (M < Bs) := by show M < Bs; rw [Bs_def]; omega
      have M1 : Hid (1 ≤ M) := by show 1 ≤ M; omega
      have HDR : Hid (DrawIs s.data.toList M a x y a') := by rw [← hM]; exact hdr
      have LT : Hid (i + 1 ≤ m) := hi
      have HMK := Lib.hid hMz
      have HZ := Lib.hid hz
      rw [hz]
      cases y
      case false =>
        have HE : Hid (p = none ∧ c = a') := by
          have e := hp.out.1
          rw [hj, upB_no hdr, HD.out] at e
          injection e with e1 e2
          exact ⟨e1, e2⟩
        obtain ⟨e1, e2⟩ := HE.out
        subst e1 e2
        have HRE : Hid (R = []) := HR.out.symm
        have e := HRE.out
        subst e
        clear hdr hle hj hM hx hp hz hkm hn64 hi him HE hMz
        go_wp2_with fail
        refine (bdraw_ok PM.out.cur HB.out HCS.out M MB.out M1.out HDR.out).mono ?_
        rintro e w6 ⟨rfl, mv6, d6⟩
        have C6 := Lib.hid (CX.out.mvo mv6 (by have := T12.out; omega))
        have D6 := Lib.hid d6
        have X6 := Lib.hid (mv6.ext XX.out L2.out)
        clear mv6 d6 hwM
        go_wp2_with fail
        refine (cover_calls C6.out).mono ?_
        rintro e w7 ⟨rfl, x7⟩
        have C7 := Lib.hid (C6.out.ext x7)
        have D7 := Lib.hid (D6.out.ext x7)
        have X7 := Lib.hid (X6.out.trans x7)
        clear x7
        go_wp2_with fail
        refine (cat_calls C7.out).mono ?_
        rintro e w8 ⟨rfl, x8⟩
        have D8 := Lib.hid (D7.out.ext x8)
        have X8 := Lib.hid (X7.out.trans x8)
        clear x8
        go_wp2_with fail
        refine (cat_calls D8.out).mono ?_
        rintro e w9 ⟨rfl, x9⟩
        have X9 := Lib.hid (X8.out.trans x9)
        clear x9
        go_wp2_with fail
        go_ret
        exact ⟨rfl, X9.out⟩
      have HREL : Hid (upB s.data.toList m k 0 = preU (out ++ [x]) (upB s.data.toList (m - (i + 1)) (k + (i + 1)) a') ∧ (out ++ [x]).length = i + 1) := by
        refine ⟨?_, by simp [hp.out.2]⟩
        rw [hp.out.1, hj, upB_yes hdr, preU_app, show m - (i + 1) = j by omega]
        rfl
      have HCS' : Hid (a' ≤ s.size) := by show _ ≤ _; rw [SS.out]; exact hle.2
      have HLN : Hid ((intsU out).length + [((x : Nat) : Int)].length ≤ 100000) := by show _ ≤ 100000; rw [intsU_length, hp.out.2]; simp; omega
      clear hdr hle hj hM hx hp hz hkm hn64 hi him hMz
      go_wp2_with fail
      refine (bdraw_ok PM.out.cur HB.out HCS.out M MB.out M1.out HDR.out).mono ?_
      rintro e w6 ⟨rfl, mv6, d6⟩
      have PM6 := Lib.hid (PM.out.move mv6 d6)
      have HEX := Lib.hid ((Ext.refl w6).alloc (.cells #[.int .i64 (x : Int)] 3))
      have HRW := Lib.hid (ownsRow_ext' PM6.out.row HEX.out)
      have HBS : Hid (w5.heap.size ≤ (w6.alloc (.cells #[.int .i64 (x : Int)] 3)).heap.size) := Nat.le_trans PM6.out.mv.size HEX.out.size
      clear mv6 d6
      go_wp2_with (at_builtin; refine append_ints rfl _ _ 22 3 Try.underlying22 info_int rfl w5.heap.size _ _ _ rfl HRW.out HBS.out _ [(x : Int)] rfl (ints_lit w6 [(x : Int)] _ rfl 1 rfl (by simp)) HLN.out ?_; intro v' w' hown' hgrow; have HN2 := Lib.hid (PM6.out.grow HEX.out hown' rfl hgrow); clear hown' hgrow)
      rw [HMK.out]
      exact ⟨⟨i + 1, a', out ++ [x], by first | rfl | go_num, LT.out, HCS'.out, HREL.out, HN2.out⟩, by simp [intOf]; have := HZ.out; omega⟩
    · have ei : i = m := by omega
      subst ei
      have HE : Hid (p = some out ∧ c = a) := by
        have e := hp.out.1
        rw [Nat.sub_self, HD.out] at e
        simp only [upB, preU, List.append_nil] at e
        injection e with e1 e2
        exact ⟨e1, e2⟩
      obtain ⟨e1, e2⟩ := HE.out
      subst e1 e2
      have hok := upB_ok i k 0 HD.out
      have OKJ := Lib.hid hok.2
      have OL := Lib.hid hok.1
      have HRE : Hid (poolF k (intsU out) = R) := HR.out
      have JL : Hid ((intsU out).length = n - k) := by show _ = _; rw [intsU_length, OL.out, MK.out]
      have ROW : Hid (Ints wr (.slice va (intsU out).length vc) (intsU out)) := Own.sl (.inl PM.out.row)
      have DX := Lib.hid PM.out.cur
      have RL : Hid (R.length = k) := by show _ = _; rw [← HRE.out, poolF_length]
      have hzn : (n : Int) ≤ ((k + i : Nat) : Int) := by have := KM.out; omega
      obtain ⟨z, hz⟩ : ∃ z, k + i = z := ⟨_, rfl⟩
      rw [hz] at hzn ⊢
      have cs1 : (c : Int) ≤ s.size := by have := CS.out; omega
      have ss1 : (s.size : Int) ≤ 1024 := by have := SUM.out; omega
      clear hp hok hi him HE hz
      go_wp2_with fail
      refine (plrow_ok ROW.out k n KN.out N64.out JL.out OKJ.out).mono ?_
      rintro e w6 ⟨g6, gc6, rfl, hg6, hr6, x6⟩
      rw [HRE.out] at hr6
      have I6 : Hid (Ints w6 (.slice (some ⟨g6, 0, none⟩) k gc6) R) := by have := hr6.1.ownI.ints; rwa [RL.out] at this
      have IR6 : Hid (Ints w6 (.slice pa5 R.length pc5) R) := (OX.out.ext x6).ints
      have C6 := Lib.hid (CX.out.ext x6)
      have D6 := Lib.hid (DX.out.ext x6)
      have X6 := Lib.hid (XX.out.trans x6)
      clear hr6 x6 hg6 PM ROW OX CX DX XX
      go_wp2_with fail
      refine (same13_calls IR6.out I6.out true (by simp)).mono ?_
      rintro e w7 ⟨rfl, x7⟩
      have IR7 := Lib.hid (IR6.out.ext x7)
      have C7 := Lib.hid (C6.out.ext x7)
      have D7 := Lib.hid (D6.out.ext x7)
      have X7 := Lib.hid (X6.out.trans x7)
      clear x7 I6 IR6 C6 D6 X6
      go_wp2_with fail
      refine (cat_calls C7.out).mono ?_
      rintro e w8 ⟨rfl, x8⟩
      have IR8 := Lib.hid (IR7.out.ext x8)
      have C8 := Lib.hid (C7.out.ext x8)
      have D8 := Lib.hid (D7.out.ext x8)
      have X8 := Lib.hid (X7.out.trans x8)
      clear x8 IR7 C7 D7 X7
      go_wp2_with fail
      refine (cat_calls D8.out).mono ?_
      rintro e w9 ⟨rfl, x9⟩
      have IR9 := Lib.hid (IR8.out.ext x9)
      have C9 := Lib.hid (C8.out.ext x9)
      have X9 := Lib.hid (X8.out.trans x9)
      clear x9 IR8 C8 D8 X8
      go_wp2_with fail
      refine (cover_calls C9.out).mono ?_
      rintro e wa ⟨rfl, xa⟩
      have IRa := Lib.hid (IR9.out.ext xa)
      have Ca := Lib.hid (C9.out.ext xa)
      have Xa := Lib.hid (X9.out.trans xa)
      clear xa IR9 C9 X9
      go_wp2_with fail
      refine (cat_calls Ca.out).mono ?_
      rintro e wb ⟨rfl, xb⟩
      have IRb := Lib.hid (IRa.out.ext xb)
      have Cb := Lib.hid (Ca.out.ext xb)
      have Xb := Lib.hid (Xa.out.trans xb)
      clear xb IRa Ca Xa
      go_wp2_with fail
      refine (cat_calls Cb.out).mono ?_
      rintro e wc ⟨rfl, xc⟩
      have IRc := Lib.hid (IRb.out.ext xc)
      have Cc := Lib.hid (Cb.out.ext xc)
      have Xc := Lib.hid (Xb.out.trans xc)
      clear xc IRb Cb Xb
      go_wp2_with fail
      refine (cat_calls Cc.out).mono ?_
      rintro e wd ⟨rfl, xd⟩
      have IRd := Lib.hid (IRc.out.ext xd)
      have Cd := Lib.hid (Cc.out.ext xd)
      have Xd := Lib.hid (Xc.out.trans xd)
      clear xd IRc Cc Xc
      obtain ⟨S2, hS2⟩ : ∃ S2, s.extract 0 c ++ b = S2 := ⟨_, rfl⟩
      have hml := mix_list s b c
      rw [hS2] at hml
      have OK2 : Hid (okS S2.data.toList = true) := by
        show _ = _
        rw [hml]
        refine okS_mix HB.out HB2.out ?_
        have h1 := CS.out
        have h2 := SUM.out
        rw [Lib.size_eq b] at h2
        omega
      have SZ2 : Hid (S2.size ≤ maxLen) := by
        have := (okS_len OK2.out).1
        show _ ≤ maxLen
        unfold maxLen
        omega
      have HU2 : Hid (upB S2.data.toList (n - k) k 0 = (some out, c)) := by
        show _ = _
        rw [hml, MK.out]
        exact upB_pre (by rw [← SS.out]; exact CS.out) i k 0 (Nat.zero_le _) HD.out (Nat.le_refl _)
      have HS22 := Lib.hid hS2
      clear hml hS2
      go_wp2_with fail
      · exfalso
        rename_i hh
        have := SUM.out
        have := CS.out
        omega
      rw [HS22.out]
      refine (cnew_ok S2 _ SZ2.out OK2.out).mono ?_
      rintro e we ⟨t3, rfl, l3, c3, xe⟩
      have IRe := Lib.hid (IRd.out.ext xe)
      have Ce := Lib.hid (Cd.out.ext xe)
      have Xe := Lib.hid (Xd.out.trans xe)
      have E3 := Lib.hid c3
      have T13 : Hid (t1 < t3) := Nat.lt_of_lt_of_le Cd.out.lt l3
      have L3 : Hid (w.heap.size ≤ t3) := Nat.le_trans Xd.out.size l3
      have IRo : Hid (∀ W, Mv t3 we W → Ints W (.slice pa5 R.length pc5) R) := fun W hW => by
        have h1 : Ints wd (.slice pa5 R.length pc5) R := IRd.out
        have h2 : Ext wd W := hW.ext xe l3
        exact h1.ext h2
      clear xe c3 l3 IRd Cd Xd
      go_wp2_with fail
      refine (pldraw_up E3.out OK2.out (Nat.zero_le _) k n KN.out N64.out HU2.out).mono ?_
      rintro e wf ⟨rf, rfl, of, mf, cf⟩
      obtain ⟨paf, pcf, rfl⟩ := of.slice13
      rw [show upR k (some out) = R from HRE.out] at of ⊢
      have IF := Lib.hid of.ints
      have IRf := Lib.hid (IRo.out wf mf)
      have Cf := Lib.hid (Ce.out.mvo mf (by have := T13.out; omega))
      have Ef := Lib.hid cf
      have Xf := Lib.hid (mf.ext Xe.out L3.out)
      clear of mf cf IRo Ce Xe E3 IRe
      go_wp2_with fail
      refine (same13_calls IF.out IRf.out true (by simp)).mono ?_
      rintro e wg ⟨rfl, xg⟩
      have Cg := Lib.hid (Cf.out.ext xg)
      have Eg := Lib.hid (Ef.out.ext xg)
      have Xg := Lib.hid (Xf.out.trans xg)
      clear xg IF IRf Cf Ef Xf
      go_wp2_with fail
      refine (cat_calls Eg.out).mono ?_
      rintro e wh ⟨rfl, xh⟩
      have Ch := Lib.hid (Cg.out.ext xh)
      have Xh := Lib.hid (Xg.out.trans xh)
      clear xh Cg Eg Xg
      go_wp2_with fail
      refine (cat_calls Ch.out).mono ?_
      rintro e wi ⟨rfl, xi⟩
      have Xi := Lib.hid (Xh.out.trans xi)
      clear xi Ch Xh
      go_wp2_with fail
      go_ret
      exact ⟨rfl, Xi.out⟩

theorem poolNumbers_calls (w : World) (s : ByteArray) (hs : s.size ≤ maxLen) (b : ByteArray) (hb : b.size ≤ maxLen) (k : Int) (_hk : -9223372036854775808 ≤ k ∧ k ≤ 9223372036854775807) (n : Int) (_hn : -9223372036854775808 ≤ n ∧ n ≤ 9223372036854775807) :
    Calls Try.prog 10 #[.string s, .string b, .int .i64 k, .int .i64 n] w (Yes w) := by
  by_cases h : okS s.data.toList = true
  · by_cases h' : okS b.data.toList = true
    · by_cases hc : s.size + b.size ≤ 1024 ∧ (0 ≤ n ∧ n ≤ 64) ∧ 0 ≤ k ∧ k ≤ n
      · obtain ⟨h1, h2, h3⟩ := hc
        obtain ⟨kk, rfl⟩ : ∃ kk : Nat, k = (kk : Int) := ⟨k.toNat, by omega⟩
        obtain ⟨nn, rfl⟩ : ∃ nn : Nat, n = (nn : Int) := ⟨n.toNat, by omega⟩
        exact poolNumbers_main w s b hs hb kk nn h h' h1 (by omega) (by omega)
      · exact poolNumbers_out3 w s b hs hb k n h h' (by omega)
    · exact poolNumbers_out2 w s b hs hb k n h (by simpa using h')
  · exact poolNumbers_out1 w s b hs k n (by simpa using h)
end Go.Proofs.Ytkfioaoooodmnaa
