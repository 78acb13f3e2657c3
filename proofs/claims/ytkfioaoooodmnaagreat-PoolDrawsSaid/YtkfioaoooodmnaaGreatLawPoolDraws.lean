/- PoolDraws answers true at all strings, numbers. -/
import Derived.Test.YtkfioaoooodmnaaGreatRefPoolD
namespace Go.Proofs.YtkfioaoooodmnaaGreat
open Go Go.RowKit

theorem plRes_le {l : List UInt8} {k n : Int} {a a' : Nat} {ov ov' y : Bool} {R : List Int} (h : plRes l k n a ov = (R, y, a', ov')) (ha : a ≤ l.length) : a' ≤ l.length ∧ R.length ≤ 64 := by
  unfold plRes at h
  split at h
  · simp only [Prod.mk.injEq] at h; obtain ⟨rfl, -, rfl, -⟩ := h; exact ⟨ha, by simp⟩
  rename_i hm
  have hm := Decidable.of_not_not hm
  unfold mayP at hm
  split at h
  · simp only [Prod.mk.injEq] at h; obtain ⟨rfl, -, rfl, -⟩ := h; exact ⟨ha, by rw [poolF_length]; omega⟩
  split at h
  · simp only [Prod.mk.injEq] at h; obtain ⟨rfl, -, rfl, -⟩ := h; exact ⟨ha, by simp⟩
  have hle := upB_le (l := l) (n.toNat - k.toNat) k.toNat a ha
  rcases hq : upB l (n.toNat - k.toNat) k.toNat a with ⟨_ | vs, b⟩
  · rw [hq] at h hle; simp only [Prod.mk.injEq] at h; obtain ⟨rfl, -, rfl, -⟩ := h; exact ⟨hle.2, by simp⟩
  · rw [hq] at h hle; simp only [Prod.mk.injEq] at h; obtain ⟨rfl, -, rfl, -⟩ := h; exact ⟨hle.2, by rw [poolF_length]; omega⟩

set_option maxHeartbeats 2000000 in
set_option maxRecDepth 100000 in
theorem poolDraws_form (w : World) (s : ByteArray) (hs : s.size ≤ maxLen) (k n : Int) (hb : okS s.data.toList = false) :
    Calls Tryz.prog 4 #[.string s, .int .i64 k, .int .i64 n] w (Yes w) := by
  have HS := Lib.hid hs
  have HB := Lib.hid hb
  clear hs hb
  go_enter Tryz.func4, Tryz.ntmps4
  go_wp2_with fail
  refine (cnew_bad s _ HS.out HB.out).mono ?_
  rintro e w1 ⟨rfl, x1⟩
  have X1 := Lib.hid x1
  clear x1
  go_wp2_with fail
  refine (rnew_bad s _ HS.out HB.out).mono ?_
  rintro e w2 ⟨rfl, x2⟩
  have X2 := Lib.hid (X1.out.trans x2)
  clear x2
  go_wp2_with fail
  refine (awake13_calls _).mono ?_
  rintro e w3 ⟨rfl, x3⟩
  have X3 := Lib.hid (X2.out.trans x3)
  clear x3
  go_wp2_with fail
  go_ret
  exact ⟨rfl, X3.out⟩

set_option maxHeartbeats 4000000 in
set_option maxRecDepth 100000 in
theorem poolDraws_main (w : World) (s : ByteArray) (hs : s.size ≤ maxLen) (k n : Int) (hb : okS s.data.toList = true) :
    Calls Tryz.prog 4 #[.string s, .int .i64 k, .int .i64 n] w (Yes w) := by
  have HS := Lib.hid hs
  have HB := Lib.hid hb
  have t1 : (s.size : Int) ≤ 1024 := by have := (okS_len hb).1; omega
  clear hs hb
  go_enter Tryz.func4, Tryz.ntmps4
  go_wp2_with fail
  refine (cnew_ok s _ HS.out HB.out).mono ?_
  rintro e w1 ⟨c1, rfl, l1, cc1, x1⟩
  have C1 := Lib.hid cc1
  have L1 := Lib.hid l1
  have X1 := Lib.hid x1
  clear cc1 l1 x1
  go_wp2_with fail
  refine (rnew_ok s _ HS.out HB.out).mono ?_
  rintro e w2 ⟨c2, rfl, l2, cc2, x2⟩
  have CA := Lib.hid (C1.out.ext x2)
  have CB := Lib.hid cc2
  have NE : Hid (c1 < c2) := Nat.lt_of_lt_of_le C1.out.lt l2
  have L2 : Hid (w.heap.size ≤ c2) := Nat.le_trans X1.out.size l2
  have X2 := Lib.hid (X1.out.trans x2)
  clear cc2 l2 x2 C1 X1
  go_wp2_with fail
  go_loopw [11] (fun v11 wr => ∃ (i p : Nat) (ov : Bool), v11 = .int .i64 (i : Int) ∧ i ≤ 2 ∧ p ≤ s.size ∧ Cur s c1 p ov wr ∧ Cur s c2 p ov wr ∧ Ext w wr) (fun v11 _ => 2 - (intOf v11).toNat)
  case atStart => exact ⟨0, 0, false, rfl, Nat.zero_le _, Nat.zero_le _, CA.out, CB.out, X2.out⟩
  case round =>
    clear CA CB X2
    rename World => w3
    obtain ⟨i, p, ov, rfl, hi, hp, ca, cb, hx⟩ := hrel
    have CA := Lib.hid ca
    have CB := Lib.hid cb
    have X3 := Lib.hid hx
    have HP_ := Lib.hid hp
    clear ca cb hx hp
    by_cases hin : i < 2
    · have LT := Lib.hid hin
      have i1 : (i : Int) ≤ 1 := by omega
      obtain ⟨⟨R, y, p', ov'⟩, hdr⟩ : ∃ q, plRes s.data.toList k n p ov = q := ⟨_, rfl⟩
      have HDR := Lib.hid hdr
      have hyy : (y != y) = false := by simp
      clear hdr hin hi
      go_wp2_with fail
      refine (pldraw_all CA.out HB.out HP_.out k n HDR.out).mono ?_
      rintro e w4 ⟨r4, rfl, o4, m4, c4⟩
      obtain ⟨pa4, pc4, rfl⟩ := o4.slice13
      have O4 := Lib.hid o4.1
      have C2S : Hid (c2 < w3.heap.size) := CB.out.lt
      have C1S : Hid (c1 < w3.heap.size) := CA.out.lt
      have CB4 := Lib.hid (CB.out.mvo m4 (by have := NE.out; omega))
      have CA4 := Lib.hid c4
      have X4 := Lib.hid (m4.ext X3.out L1.out)
      clear m4 c4 o4
      go_wp2_with fail
      refine (rpl_all CB4.out HB.out HP_.out k n HDR.out).mono ?_
      rintro e w5 ⟨r5, rfl, o5, m5, c5⟩
      obtain ⟨pa5, pc5, rfl⟩ := o5.slice13
      have O5 := Lib.hid o5.ints
      have CA5 := Lib.hid (CA4.out.mvo m5 (by have := NE.out; omega))
      have CB5 := Lib.hid c5
      have X5 := Lib.hid (m5.ext X4.out L2.out)
      have O4 := Lib.hid (O4.out.mvo m5 C2S.out)
      clear m5 c5 o5
      have ca1 := CA5.out.c1.1
      have ca2 := CA5.out.c2.1
      have cb1 := CB5.out.c1.1
      have cb2 := CB5.out.c2.1
      go_wp2_with fail
      have Y0 : Ext w5 w5.drew := (Ext.refl w5).drew
      have z0 := Y0
      (try simp only [List.append_eq, List.cons_append, List.nil_append])
      go_region_held3 (fun W => W.cell? ⟨c2, 1, none⟩ = some (.int .i64 (p' : Int)) ∧ W.cell? ⟨c2, 2, none⟩ = some (.bool ov')) (go_keep)
        (first
          | (have pre := z2; go_at_call 18; refine (cover_calls (CA5.out.ext Y2)).mono ?_; rintro e a3 ⟨rfl, z3⟩; have Y3 := Y2.trans z3; have g1 := (CB5.out.ext Y3).c1.1; have g2 := (CB5.out.ext Y3).c2.1)
          | (have pre := z1; go_at_call 17; refine (cat_calls (CA5.out.ext Y1)).mono ?_; rintro e a2 ⟨rfl, z2⟩; have Y2 := Y1.trans z2; have g1 := (CB5.out.ext Y2).c1.1; have g2 := (CB5.out.ext Y2).c2.1)
          | (have pre := z0; go_at_call 16; refine (same13_calls (O4.out.ints.ext Y0) (O5.out.ext Y0) true (by simp)).mono ?_; rintro e a1 ⟨rfl, z1⟩; have Y1 := Y0.trans z1; have g1 := (CB5.out.ext Y1).c1.1; have g2 := (CB5.out.ext Y1).c2.1))
      have HY3 := Lib.hid Y3
      clear Y0 Y1 Y2 Y3 z0 z1 z2 z3 ca1 ca2 cb1 cb2
      have CA6 := Lib.hid (CA5.out.ext HY3.out)
      have CB6 := Lib.hid (CB5.out.ext HY3.out)
      have O6 := Lib.hid (O4.out.ext HY3.out)
      have X6 := Lib.hid (X5.out.trans HY3.out)
      have W3S : Hid (w.heap.size ≤ w3.heap.size) := X3.out.size
      have HPP : Hid (p' ≤ s.size) := by have := plRes_le HDR.out (by rw [← Lib.size_eq s]; exact HP_.out); rw [← Lib.size_eq s] at this; exact this.1
      obtain ⟨b, hb⟩ : ∃ b, R.length = b := ⟨_, rfl⟩
      have b64 : (b : Int) ≤ 64 := by have := (plRes_le HDR.out (by rw [← Lib.size_eq s]; exact HP_.out)).2; omega
      have HBL := Lib.hid hb
      rw [hb] at O6 ⊢
      clear hb hyy O4 O5 CA5 CB5 CA4 CB4 X5 X4
      go_wp2_with fail
      go_loopw [16] (fun v16 wr => ∃ (q : Nat) (M : List Int), v16 = .int .i64 (q : Int) ∧ q ≤ b ∧ M.length = b ∧ OwnI 3 w3.heap.size wr (.slice pa4 b pc4) M ∧ Cur s c1 p' ov' wr ∧ Cur s c2 p' ov' wr ∧ Ext w wr) (fun v16 _ => b - (intOf v16).toNat)
      case atStart => exact ⟨0, R, rfl, Nat.zero_le _, HBL.out, O6.out, CA6.out, CB6.out, X6.out⟩
      case round =>
        clear O6 CA6 CB6 X6
        obtain ⟨q, M, rfl, hq, hM, hO, ha, hb, hx⟩ := hrel
        have X := Lib.hid hx
        have LL := Lib.hid hM
        have AA := Lib.hid ha
        have BB := Lib.hid hb
        by_cases hqb : q < b
        · rcases hO with hown | ⟨_, -, h0, -⟩
          rotate_left
          · rw [LL.out] at h0; omega
          obtain ⟨g, cap2, e, hg, hrow⟩ := RowG.of hown (by rw [LL.out]; omega)
          rw [LL.out] at e
          obtain ⟨e1, e2⟩ : pa4 = some ⟨g, 0, none⟩ ∧ pc4 = cap2 := by injection e with a b c; exact ⟨a, c⟩
          subst e1 e2
          have RW := Lib.hid hrow
          have HG := Lib.hid hg
          have LQ := Lib.hid hqb
          have hcc2 := RW.out.cell (j := q) (by rw [LL.out]; exact hqb)
          have hf := RW.out.free q
          have R6 : Hid (OwnI 3 w3.heap.size (wr.setCell ⟨g, q, none⟩ (.int .i64 (-1))) (.slice (some ⟨g, 0, none⟩) b pc4) (M.set q (-1))) := by
            have := ((RW.out.set q (-1)).ownI).mono HG.out
            rw [List.length_set, LL.out] at this
            exact this
          have L6 : Hid ((M.set q (-1)).length = b) := by show _ = _; rw [List.length_set, LL.out]
          have AA6 := Lib.hid (AA.out.mvo (Mv.set g q (.int .i64 (-1)) wr) (by have := C1S.out; have := HG.out; omega))
          have BB6 := Lib.hid (BB.out.mvo (Mv.set g q (.int .i64 (-1)) wr) (by have := C2S.out; have := HG.out; omega))
          have X6 : Hid (Ext w (wr.setCell ⟨g, q, none⟩ (.int .i64 (-1)))) := X.out.setCell (p := ⟨g, q, none⟩) (Nat.le_trans W3S.out HG.out) _
          clear hown e hg hrow hM hx hq ha hb hqb
          go_wp2_with fail
          exact ⟨⟨q + 1, _, by first | rfl | go_num, LQ.out, L6.out, R6.out, AA6.out, BB6.out, X6.out⟩, by simp [intOf]; have := LQ.out; omega⟩
        · obtain rfl : b = q := by omega
          clear hO hM hx hq hqb ha hb
          go_wp2_with fail
          exact ⟨⟨i + 1, p', ov', by first | rfl | go_num, LT.out, HPP.out, AA.out, BB.out, X.out⟩, by simp [intOf]; have := LT.out; omega⟩
    · obtain rfl : i = 2 := by omega
      clear hi hin
      go_wp2_with fail
      refine (awake13_calls _).mono ?_
      rintro e w4 ⟨rfl, x4⟩
      have X4 := Lib.hid (X3.out.trans x4)
      clear x4
      go_wp2_with fail
      go_ret
      exact ⟨rfl, X4.out⟩

theorem poolDraws_calls (w : World) (s : ByteArray) (hs : s.size ≤ maxLen) (k : Int) (_hk : -9223372036854775808 ≤ k ∧ k ≤ 9223372036854775807) (n : Int) (_hn : -9223372036854775808 ≤ n ∧ n ≤ 9223372036854775807) :
    Calls Tryz.prog 4 #[.string s, .int .i64 k, .int .i64 n] w (Yes w) := by
  by_cases hb : okS s.data.toList = true
  · exact poolDraws_main w s hs k n hb
  · exact poolDraws_form w s hs k n (by simpa using hb)
end Go.Proofs.YtkfioaoooodmnaaGreat
