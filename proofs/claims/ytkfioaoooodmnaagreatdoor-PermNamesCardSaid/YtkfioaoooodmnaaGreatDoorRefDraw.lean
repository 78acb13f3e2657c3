/- The reference's numbers drawn below others: Width, Draw. -/
import Derived.Test.YtkfioaoooodmnaaGreatDoorRefCur
namespace Go.Proofs.YtkfioaoooodmnaaGreatDoor
open Go Go.RowKit

set_option maxHeartbeats 1000000 in
set_option maxRecDepth 100000 in
theorem rwidth_calls (w : World) (m : Nat) (hm : m < Bs) (q : Nat) (hq : wid m = q) :
    Calls Tryz.prog 88 #[.int .u64 (m : Int)] w fun e w' => e = .returned (.int .i64 (q : Int)) ∧ Ext w w' := by
  obtain ⟨k, hk⟩ : ∃ k, m - 1 = k := ⟨_, rfl⟩
  have hmax : (max (m : Int) 1) = (k : Int) + 1 ∨ m = 0 := by omega
  have hm64 : (m : Int) ≤ 18446744073709551615 := by rw [Bs_def] at hm; omega
  have hq64 := wid_le hm
  rw [hq] at hq64
  have q1 : (q : Int) ≤ 64 := by omega
  have HB : Hid (bl k = q) := by
    show _ = _
    rw [← hq, ← hk]
    unfold wid
    by_cases h0 : m = 0
    · rw [if_pos h0, h0]; rfl
    · rw [if_neg h0]
  have hw : IntKind.u64.wrap (max (m : Int) 1 - 1) = (k : Int) := by rw [wraps_u64 _ (by omega) (by omega)]; omega
  have hk64 : (k : Int) ≤ 18446744073709551615 := by omega
  clear hm hk hq hmax hq64
  go_enter Tryz.func88, Tryz.ntmps88
  go_wp2_with fail
  clear hw
  go_loopw [3, 4] (fun v3 v4 wr => ∃ n x : Nat, v3 = .int .i64 (n : Int) ∧ v4 = .int .u64 (x : Int) ∧ n + bl x = q ∧ x ≤ k ∧ Ext w wr) (fun _ v4 _ => (intOf v4).toNat)
  case atStart => exact ⟨0, k, rfl, rfl, by rw [HB.out]; omega, Nat.le_refl _, Ext.refl _⟩
  case round =>
    obtain ⟨n, x, rfl, rfl, hn, hx, hxx⟩ := hrel
    have X := Lib.hid hxx
    have HN := Lib.hid hn
    clear hxx
    by_cases h0 : x = 0
    · subst h0
      have e : n = q := by have := HN.out; rw [bl_zero] at this; omega
      subst e
      clear hn
      go_wp2_with fail
      go_ret
      exact ⟨rfl, X.out⟩
    · have x1 : (1 : Int) ≤ x := by omega
      have hb := bl_half h0
      have HN2 : Hid (n + 1 + bl (x / 2) = q) := by have := HN.out; show _ = _; omega
      have HLT : Hid (x / 2 < x) := by show _ < _; omega
      have hn1 : (n : Int) + 1 ≤ 64 := by have := HN2.out; omega
      obtain ⟨y, hy⟩ : ∃ y, x / 2 = y := ⟨_, rfl⟩
      have HDV : Hid ((x : Int) / 2 = (y : Int)) := by show _ = _; omega
      rw [hy] at HN2 HLT
      have HYK : Hid (y ≤ k) := by show y ≤ k; omega
      clear hb hn h0 hy
      have hx64 : (x : Int) ≤ 18446744073709551615 := by omega
      go_wp2_with fail
      rw [HDV.out]
      exact ⟨⟨n + 1, y, by go_num, by go_num, HN2.out, HYK.out, X.out⟩, by simp [intOf]; have := HLT.out; omega⟩

set_option maxHeartbeats 2000000 in
set_option maxRecDepth 100000 in
theorem rdraw_ok {S : ByteArray} {s a x a' : Nat} {y : Bool} {w : World} (h : Cur S s a false w) (ho : okS S.data.toList = true) (ha : a ≤ S.size) (m : Nat) (hm : m < Bs) (h1 : 1 ≤ m) (hd : DrawIs S.data.toList m a x y a') :
    Calls Tryz.prog 58 #[.pointer (some ⟨s, 0, none⟩), .int .u64 (m : Int)] w (RetD S s x y a' w) := by
  refine Calls.mono (R := RetDraw S s m a w) ?_ fun e w' hr => hr.d hd
  obtain ⟨hS, hodd⟩ := okS_len ho
  have hsz : S.size = S.data.toList.length := Lib.size_eq S
  have hw := wid_le hm
  obtain ⟨q, hq⟩ : ∃ q, wid m = q := ⟨_, rfl⟩
  have HQ := Lib.hid hq
  have HM := Lib.hid hm
  have H1 := Lib.hid h1
  have HO := Lib.hid ho
  have HS := Lib.hid hS
  have HD := Lib.hid hodd
  have HZ := Lib.hid hsz
  have HC := Lib.hid h
  have HA := Lib.hid ha
  have hq64 : (q : Int) ≤ 64 := by omega
  have t1 : ((m : Int) == 0) = false := by rw [beq_eq_false_iff_ne]; omega
  clear hq hm ho hS hodd hsz h hw ha h1 hd
  go_enter Tryz.func58, Tryz.ntmps58
  go_wp2_with fail
  go_loopg [6] (S.size - a) (fun g _ wr => ∃ b : Nat, g = S.size - b ∧ b ≤ S.size ∧ Hid (drawF S.data.toList m b = drawF S.data.toList m a) ∧ Mv s w wr ∧ Cur S s b false wr)
  case atStart => exact ⟨a, rfl, HA.out, rfl, Mv.refl _ _, HC.out⟩
  case round =>
    obtain ⟨b, hg, hb, hd, hmv, hc⟩ := hrel
    have HG := Lib.hid hg
    have HB := Lib.hid hb
    have MV := Lib.hid hmv
    have CU := Lib.hid hc
    clear hg hb hmv hc
    go_wp2_with fail
    refine (rwidth_calls _ m HM.out q HQ.out).mono ?_
    rintro e w1 ⟨rfl, x1⟩
    have CU1 := Lib.hid (CU.out.ext x1)
    have MV1 := Lib.hid (MV.out.trans (x1.mv (Nat.le_of_lt CU.out.lt)))
    clear x1
    by_cases hl : S.size < b + q
    · have HF : Hid (drawF S.data.toList m a = (none, b)) := by
        show _ = _
        rw [← hd.out]; exact drawF_short (by rw [HQ.out, ← HZ.out]; exact hl)
      have HL := Lib.hid hl
      clear hl
      go_wp2_with fail
      refine (rtake_short CU1.out HB.out HS.out q (by omega) HL.out).mono ?_
      rintro e w2 ⟨rfl, m2, c2⟩
      have M2 := Lib.hid m2
      have C2 := Lib.hid c2
      clear m2 c2
      go_wp2_with fail
      go_ret2
      exact ⟨by rw [HF.out]; rfl, MV1.out.trans M2.out, by rw [HF.out]; exact C2.out⟩
    · obtain ⟨v, hv⟩ : ∃ v, bitsAt S.data.toList b q = v := ⟨_, rfl⟩
      have HL : Hid (b + q ≤ S.size) := Nat.not_lt.1 hl
      have HV := Lib.hid hv
      clear hl hv
      by_cases hvm : v < m
      · have HF : Hid (drawF S.data.toList m a = (some v, b + q)) := by
          show _ = _
          rw [← hd.out, drawF_hit (v := v) (by rw [HQ.out, ← HZ.out]; exact HL.out) (by rw [HQ.out]; exact HV.out) hvm, HQ.out]
        go_wp2_with fail
        refine (rtake_ok CU1.out HO.out q (by omega) HL.out v HV.out).mono ?_
        rintro e w2 ⟨rfl, m2, c2⟩
        have M2 := Lib.hid m2
        have C2 := Lib.hid c2
        clear m2 c2
        go_wp2_with fail
        go_ret2
        exact ⟨by rw [HF.out]; rfl, MV1.out.trans M2.out, by rw [HF.out]; exact C2.out⟩
      · have HQ1 : Hid (1 ≤ q) := by
          show 1 ≤ q
          rcases Nat.eq_zero_or_pos q with h0 | h0
          · have h2 := HV.out
            rw [h0, bitsAt_zero] at h2
            have := H1.out
            omega
          · exact h0
        have HF : Hid (drawF S.data.toList m (b + q) = drawF S.data.toList m a) := by
          show _ = _
          rw [← hd.out, drawF_miss (a := b) (v := v) (by rw [HQ.out, ← HZ.out]; exact HL.out) (by rw [HQ.out]; exact HV.out) (by omega) (by rw [HQ.out]; exact HQ1.out), HQ.out]
        go_wp2_with fail
        refine (rtake_ok CU1.out HO.out q (by omega) HL.out v HV.out).mono ?_
        rintro e w2 ⟨rfl, m2, c2⟩
        have M2 := Lib.hid m2
        have C2 := Lib.hid c2
        clear m2 c2
        go_wp2_with fail
        go_roundg (S.size - (b + q))
        case rel => exact ⟨b + q, rfl, HL.out, HF, MV1.out.trans M2.out, C2.out⟩
        case measure => have h1 := HQ1.out; have h2 := HL.out; have h3 := HG.out; omega

set_option maxHeartbeats 1000000 in
set_option maxRecDepth 100000 in
theorem rdraw_over {S : ByteArray} {s a : Nat} {w : World} (h : Cur S s a true w) (m : Nat) (hm : m < Bs) (h1 : 1 ≤ m) :
    Calls Tryz.prog 58 #[.pointer (some ⟨s, 0, none⟩), .int .u64 (m : Int)] w fun e w' => e = .returned (.tuple #[.int .u64 0, .bool false]) ∧ Ext w w' := by
  have HC := Lib.hid h
  have HW := Lib.hid (wid_le hm)
  have HM := Lib.hid hm
  have t1 : ((m : Int) == 0) = false := by rw [beq_eq_false_iff_ne]; omega
  clear hm h1 h
  go_enter Tryz.func58, Tryz.ntmps58
  go_wp2_with fail
  obtain ⟨q, hq⟩ : ∃ q, wid m = q := ⟨_, rfl⟩
  have HQ : Hid (0 ≤ (q : Int) ∧ (q : Int) ≤ 64) := by have := HW.out; rw [hq] at this; exact ⟨by omega, by omega⟩
  have HQQ := Lib.hid hq
  clear hq
  refine wp_loop_rounds 1 ?_
  rw [rounds_succ]
  go_wp2_with fail
  refine (rwidth_calls _ m HM.out q HQQ.out).mono ?_
  rintro e w1 ⟨rfl, x1⟩
  have X1 := Lib.hid x1
  have HC1 := Lib.hid (HC.out.ext x1)
  clear x1
  go_wp2_with fail
  refine (rtake_over HC1.out (q : Int) HQ.out).mono ?_
  rintro e w2 ⟨rfl, x2⟩
  have X2 := Lib.hid x2
  clear x2
  go_wp2_with fail
  go_ret2
  exact ⟨rfl, X1.out.trans X2.out⟩
end Go.Proofs.YtkfioaoooodmnaaGreatDoor
