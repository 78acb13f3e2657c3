/- PermDraws answers true at all strings and numbers. -/
import Derived.Test.YtkfioaoooodmnaaGreatDoorPermDr
namespace Go.Proofs.YtkfioaoooodmnaaGreatDoor
open Go Go.RowKit

set_option maxHeartbeats 2000000 in
set_option maxRecDepth 100000 in
theorem permDraws_long {w : World} {v : Value} {L : List Int} (s : ByteArray) (hs : s.size ≤ maxLen) (hL : Ints w v L) (h : 2000 < s.size ∨ 20 < L.length) :
    Calls Tryz.prog 7 #[.string s, v] w (Yes w) := by
  obtain ⟨a, cap, rfl, h1, h2, -⟩ := hL.open
  unfold maxLen at h2 hs
  obtain ⟨n, hn⟩ : ∃ n, L.length = n := ⟨_, rfl⟩
  rw [hn] at h h1 ⊢
  clear hL hn
  by_cases hs2 : 2000 < s.size
  · have t1 : (2001 : Int) ≤ s.size := by omega
    clear h hs2
    go_enter Tryz.func7, Tryz.ntmps7
    go_wp2_with fail
    refine (awake12_calls _).mono ?_
    rintro e w1 ⟨rfl, x1⟩
    go_wp2_with fail
    go_ret
    exact ⟨rfl, x1⟩
  · have t1 : (s.size : Int) ≤ 2000 := by omega
    have t2 : (21 : Int) ≤ n := by omega
    clear h hs2
    go_enter Tryz.func7, Tryz.ntmps7
    go_wp2_with fail
    refine (awake12_calls _).mono ?_
    rintro e w1 ⟨rfl, x1⟩
    go_wp2_with fail
    go_ret
    exact ⟨rfl, x1⟩

set_option maxHeartbeats 2000000 in
set_option maxRecDepth 100000 in
theorem permDraws_form {w : World} {v : Value} {L : List Int} (s : ByteArray) (hs : s.size ≤ maxLen) (hL : Ints w v L) (hs2 : s.size ≤ 2000) (hl : L.length ≤ 20) (hb : okS s.data.toList = false) :
    Calls Tryz.prog 7 #[.string s, v] w (Yes w) := by
  obtain ⟨a, cap, rfl, h1, h2, -⟩ := hL.open
  have HS := Lib.hid hs
  have HB := Lib.hid hb
  obtain ⟨n, hn⟩ : ∃ n, L.length = n := ⟨_, rfl⟩
  rw [hn] at hl ⊢
  have t1 : (s.size : Int) ≤ 2000 := by omega
  have t2 : (n : Int) ≤ 20 := by omega
  clear hL hn h1 h2 hs hb hs2 hl
  go_enter Tryz.func7, Tryz.ntmps7
  go_wp2_with fail
  refine (cnew_bad s _ HS.out HB.out).mono ?_
  rintro e w1 ⟨rfl, x1⟩
  have X1 := Lib.hid x1
  clear x1
  go_wp2_with fail
  refine (rnew_bad s _ HS.out HB.out).mono ?_
  rintro e w2 ⟨rfl, x2⟩
  have X2 := Lib.hid (X1.out.trans x2)
  clear x2
  go_wp2_with fail
  refine (awake12_calls _).mono ?_
  rintro e w3 ⟨rfl, x3⟩
  have X3 := Lib.hid (X2.out.trans x3)
  clear x3
  go_wp2_with fail
  go_ret
  exact ⟨rfl, X3.out⟩

theorem drRes_ok {l : List UInt8} {x : Int} {a a' : Nat} {ov ov' y : Bool} {R : List Int} (h : drRes l x a ov = (R, y, a', ov')) (ha : a ≤ l.length) : a' ≤ l.length ∧ R.length ≤ 64 := by
  unfold drRes at h
  split at h
  · simp only [Prod.mk.injEq] at h; obtain ⟨rfl, -, rfl, -⟩ := h; exact ⟨ha, by simp⟩
  split at h
  · simp only [Prod.mk.injEq] at h; obtain ⟨rfl, -, rfl, -⟩ := h; exact ⟨ha, by simp⟩
  split at h
  · simp only [Prod.mk.injEq] at h; obtain ⟨rfl, -, rfl, -⟩ := h; exact ⟨ha, by simp⟩
  split at h
  · simp only [Prod.mk.injEq] at h; obtain ⟨rfl, -, rfl, -⟩ := h; exact ⟨ha, by simp⟩
  have hle := drawsB_le (l := l) x.toNat a ha
  rcases hd : drawsB l x.toNat a with ⟨_ | vs, b⟩
  · rw [hd] at h hle
    simp only [Prod.mk.injEq] at h; obtain ⟨rfl, -, rfl, -⟩ := h; exact ⟨hle.2, by simp⟩
  · rw [hd] at h hle
    simp only [Prod.mk.injEq] at h; obtain ⟨rfl, -, rfl, -⟩ := h; exact ⟨hle.2, by rw [rowF_length, things_length]; omega⟩

set_option maxHeartbeats 4000000 in
set_option maxRecDepth 100000 in
theorem permDraws_main {w : World} {v : Value} {L : List Int} (s : ByteArray) (hs : s.size ≤ maxLen) (hL : Ints w v L) (hl : L.length ≤ 20) (hb : okS s.data.toList = true) :
    Calls Tryz.prog 7 #[.string s, v] w (Yes w) := by
  obtain ⟨a, cap, rfl, h1, h2, h3⟩ := hL.open
  have H3 := Lib.hid h3
  have HS := Lib.hid hs
  have HB := Lib.hid hb
  have t1 : (s.size : Int) ≤ 1024 := by have := (okS_len hb).1; omega
  obtain ⟨n, hn⟩ : ∃ n, L.length = n := ⟨_, rfl⟩
  have HN := Lib.hid hn
  rw [hn] at hl ⊢
  have t2 : (n : Int) ≤ 20 := by omega
  clear hL hn h1 h2 h3 hs hb hl
  go_enter Tryz.func7, Tryz.ntmps7
  go_wp2_with fail
  refine (cnew_ok s _ HS.out HB.out).mono ?_
  rintro e w1 ⟨c1, rfl, l1, cc1, x1⟩
  have C1 := Lib.hid cc1
  have L1 := Lib.hid l1
  have X1 := Lib.hid x1
  clear cc1 l1 x1
  go_wp2_with fail
  refine (rnew_ok s _ HS.out HB.out).mono ?_
  rintro e w2 ⟨c2, rfl, l2, cc2, x2⟩
  have CA := Lib.hid (C1.out.ext x2)
  have CB := Lib.hid cc2
  have NE : Hid (c1 < c2) := Nat.lt_of_lt_of_le C1.out.lt l2
  have L2 : Hid (w.heap.size ≤ c2) := Nat.le_trans X1.out.size l2
  have X2 := Lib.hid (X1.out.trans x2)
  clear cc2 l2 x2
  go_wp2_with fail
  go_loopw [9] (fun v9 wr => ∃ (i p : Nat) (ov : Bool), v9 = .int .i64 (i : Int) ∧ i ≤ n ∧ p ≤ s.size ∧ Cur s c1 p ov wr ∧ Cur s c2 p ov wr ∧ Ext w wr) (fun v9 _ => n - (intOf v9).toNat)
  case atStart => exact ⟨0, 0, false, rfl, Nat.zero_le _, Nat.zero_le _, CA.out, CB.out, X2.out⟩
  case round =>
    clear CA CB X2 C1 X1
    rename World => w3
    obtain ⟨i, p, ov, rfl, hi, hp, ca, cb, hx⟩ := hrel
    have CA := Lib.hid ca
    have CB := Lib.hid cb
    have X3 := Lib.hid hx
    have HP_ := Lib.hid hp
    clear ca cb hx hp
    by_cases hin : i < n
    · have LT := Lib.hid hin
      obtain ⟨b, o, rfl, hb, hc⟩ := H3.out i (by rw [HN.out]; exact hin)
      obtain ⟨x, hx⟩ : ∃ x, L.getD i 0 = x := ⟨_, rfl⟩
      have hcd : w3.cell? ⟨b, o + i, none⟩ = some (.int .i64 x) := by rw [Below.cell X3.out (p := ⟨b, o + i, none⟩) hb, hc i (by rw [HN.out]; exact hin), hx]
      have HC0 : Hid (At b (o + i) (.int .i64 x) w) := ⟨by rw [hc i (by rw [HN.out]; exact hin), hx], hb⟩
      obtain ⟨⟨R, y, p', ov'⟩, hdr⟩ : ∃ q, drRes s.data.toList x p ov = q := ⟨_, rfl⟩
      have HDR := Lib.hid hdr
      clear hc hx hdr hb
      go_wp2_with fail
      refine (pdraw_all CA.out HB.out HP_.out x HDR.out).mono ?_
      rintro e w4 ⟨r4, rfl, o4, m4, c4⟩
      obtain ⟨pa4, pc4, rfl⟩ := o4.slice
      have G4 : Gr w3 w4 := CA.out.mvgr m4 c4
      have hne : c2 ≠ c1 := by have := NE.out; omega
      have CB4 : Hid (Cur s c2 p ov w4) := ⟨m4.at hne CB.out.c0, m4.at hne CB.out.c1, m4.at hne CB.out.c2, CB.out.bx.gr G4⟩
      have CA4 := Lib.hid c4
      have X4 := Lib.hid (m4.ext X3.out L1.out)
      have O4 := Lib.hid o4
      have hcd := (HC0.out.ext X4.out).1
      clear m4 c4 o4 G4 hne
      go_wp2_with fail
      refine (rpdraw_all CB4.out HB.out HP_.out x HDR.out).mono ?_
      rintro e w5 ⟨r5, rfl, o5, m5, c5⟩
      obtain ⟨pa5, pc5, rfl⟩ := o5.slice
      have G5 : Gr w4 w5 := CB4.out.mvgr m5 c5
      have hne : c1 ≠ c2 := by have := NE.out; omega
      have CA5 : Hid (Cur s c1 p' ov' w5) := ⟨m5.at hne CA4.out.c0, m5.at hne CA4.out.c1, m5.at hne CA4.out.c2, CA4.out.bx.gr G5⟩
      have CB5 := Lib.hid c5
      have X5 := Lib.hid (m5.ext X4.out L2.out)
      have O5 := Lib.hid o5
      have O4 := Lib.hid (O4.out.gr G5)
      clear m5 c5 o5 G5 hne hcd
      have ca1 := CA5.out.c1.1
      have ca2 := CA5.out.c2.1
      have cb1 := CB5.out.c1.1
      have cb2 := CB5.out.c2.1
      go_wp2_with fail
      have Y0 : Ext w5 w5.drew := (Ext.refl w5).drew
      have z0 := Y0
      (try simp only [List.append_eq, List.cons_append, List.nil_append])
      go_region_held3 (fun W => W.cell? ⟨c2, 1, none⟩ = some (.int .i64 (p' : Int)) ∧ W.cell? ⟨c2, 2, none⟩ = some (.bool ov')) (go_keep)
        (first
          | (have pre := z2; go_at_call 29; refine (cover_calls (CA5.out.ext Y2)).mono ?_; rintro e a3 ⟨rfl, z3⟩; have Y3 := Y2.trans z3; have g1 := (CB5.out.ext Y3).c1.1; have g2 := (CB5.out.ext Y3).c2.1)
          | (have pre := z1; go_at_call 28; refine (cat_calls (CA5.out.ext Y1)).mono ?_; rintro e a2 ⟨rfl, z2⟩; have Y2 := Y1.trans z2; have g1 := (CB5.out.ext Y2).c1.1; have g2 := (CB5.out.ext Y2).c2.1)
          | (have pre := z0; go_at_call 44; refine (same12_calls (O4.out.ext Y0).ints (O5.out.ext Y0).ints true (by simp)).mono ?_; rintro e a1 ⟨rfl, z1⟩; have Y1 := Y0.trans z1; have g1 := (CB5.out.ext Y1).c1.1; have g2 := (CB5.out.ext Y1).c2.1))
      have HY3 := Lib.hid Y3
      clear Y0 Y1 Y2 Y3 z0 z1 z2 z3 ca1 ca2 cb1 cb2
      have CA6 := Lib.hid (CA5.out.ext HY3.out)
      have CB6 := Lib.hid (CB5.out.ext HY3.out)
      have O6 := Lib.hid (O4.out.ext HY3.out)
      have X6 := Lib.hid (X5.out.trans HY3.out)
      have HPP : Hid (p' ≤ s.size) := by have := drRes_ok HDR.out (by rw [← Lib.size_eq s]; exact HP_.out); rw [← Lib.size_eq s] at this; exact this.1
      have HRL : Hid (R.length ≤ 64) := (drRes_ok HDR.out (by rw [← Lib.size_eq s]; exact HP_.out)).2
      rcases Nat.eq_zero_or_pos R.length with hR | hR
      · rw [hR]
        go_wp2_with fail
        refine (spoil_none _ _ _).mono ?_
        rintro e w7 ⟨rfl, x7⟩
        have X7 := Lib.hid x7
        clear x7
        go_wp2_with fail
        exact ⟨⟨i + 1, p', ov', by go_num, LT.out, HPP.out, CA6.out.ext X7.out, CB6.out.ext X7.out, X6.out.trans X7.out⟩, by simp [intOf]; have := LT.out; omega⟩
      · rcases O6.out.1 with h | ⟨_, -, h, -⟩
        rotate_left
        · omega
        obtain ⟨g, gc, eg, hg, hrow⟩ := RowG.of h hR
        obtain ⟨epa, epc⟩ : pa4 = some ⟨g, 0, none⟩ ∧ pc4 = gc := by injection eg with a b c; exact ⟨a, c⟩
        subst epa epc
        have RW := Lib.hid hrow
        have N1 : Hid (c1 ≠ g) := by have := CA.out.lt; show _ ≠ _; omega
        have N2 : Hid (c2 ≠ g) := by have := CB.out.lt; show _ ≠ _; omega
        have BG : Hid (w.heap.size ≤ g) := Nat.le_trans X3.out.size hg
        clear h eg hg hrow
        go_wp2_with fail
        refine (spoil_row RW.out rfl HRL.out).mono ?_
        rintro e w7 ⟨rfl, m7⟩
        have CA7 : Hid (Cur s c1 p' ov' w7) := ⟨m7.at N1.out CA6.out.c0, m7.at N1.out CA6.out.c1, m7.at N1.out CA6.out.c2, by have h := CA6.out.bx; unfold Bx at h ⊢; rw [m7.oth _ CA6.out.lt N1.out]; exact h⟩
        have CB7 : Hid (Cur s c2 p' ov' w7) := ⟨m7.at N2.out CB6.out.c0, m7.at N2.out CB6.out.c1, m7.at N2.out CB6.out.c2, by have h := CB6.out.bx; unfold Bx at h ⊢; rw [m7.oth _ CB6.out.lt N2.out]; exact h⟩
        have X7 := Lib.hid (m7.ext X6.out BG.out)
        clear m7
        go_wp2_with fail
        exact ⟨⟨i + 1, p', ov', by go_num, LT.out, HPP.out, CA7.out, CB7.out, X7.out⟩, by simp [intOf]; have := LT.out; omega⟩
    · have e : n = i := by omega
      subst e
      go_wp2_with fail
      refine (awake12_calls _).mono ?_
      rintro e w4 ⟨rfl, x4⟩
      have X4 := Lib.hid (X3.out.trans x4)
      clear x4
      go_wp2_with fail
      go_ret
      exact ⟨rfl, X4.out⟩

theorem permDraws_calls {w : World} {v : Value} {L : List Int} (s : ByteArray) (hs : s.size ≤ maxLen) (hL : Ints w v L) :
    Calls Tryz.prog 7 #[.string s, v] w (Yes w) := by
  by_cases h : 2000 < s.size ∨ 20 < L.length
  · exact permDraws_long s hs hL h
  · have h1 : s.size ≤ 2000 := by omega
    have h2 : L.length ≤ 20 := by omega
    by_cases hb : okS s.data.toList = true
    · exact permDraws_main s hs hL h2 hb
    · exact permDraws_form s hs hL h1 h2 (by simpa using hb)
end Go.Proofs.YtkfioaoooodmnaaGreatDoor
