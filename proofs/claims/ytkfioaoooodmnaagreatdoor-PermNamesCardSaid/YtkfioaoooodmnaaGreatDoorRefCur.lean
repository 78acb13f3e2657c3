/- Cursors of the reference: New, Take; numbers drawn below others: Width, Draw. -/
import Derived.Test.YtkfioaoooodmnaaGreatDoorInts2
namespace Go.Proofs.YtkfioaoooodmnaaGreatDoor
open Go Go.RowKit

set_option maxHeartbeats 1000000 in
set_option maxRecDepth 100000 in
theorem rbits_is (s : ByteArray) (w : World) (hs : s.size ≤ maxLen) (b : Bool) (hb : okS s.data.toList = b) :
    Calls Tryz.prog 56 #[.string s] w fun e w' => e = .returned (.bool b) ∧ w = w' := by
  unfold maxLen at hs
  obtain ⟨l, hl⟩ : ∃ l, l = s.data.toList := ⟨_, rfl⟩
  have hsz : s.size = l.length := by rw [hl]; exact Lib.size_eq s
  have hget : ∀ i (h : i < s.size), ((s[i]'h).toNat : Int) = (bn l i : Int) := fun i h => by rw [hl]; exact bn_get s i h
  rw [← hl] at hb
  have HSZ := Lib.hid hsz
  have HB := Lib.hid hb
  clear hl hsz hb
  go_enter Tryz.func56, Tryz.ntmps56
  go_wp2_with fail
  go_loop [3] (fun v3 => ∃ k : Nat, v3 = .int .i64 (k : Int) ∧ k ≤ s.size ∧ ∀ i, i < k → bn l i = 48 ∨ bn l i = 49) (fun v3 => s.size - (intOf v3).toNat)
  case atStart => exact ⟨0, rfl, Nat.zero_le _, fun i hi => by omega⟩
  case round =>
    obtain ⟨k, rfl, hk, hall⟩ := hrel
    have HA := Lib.hid hall
    clear hall
    by_cases hks : k < s.size
    · by_cases h1 : bn l k = 48
      · have t1 : ((bn l k : Int) != 48) = false := by rw [bne_eq_false_iff_eq]; omega
        go_wp2_with fail
        refine ⟨⟨k + 1, by go_num, by omega, fun i hi => ?_⟩, by simp [intOf]; omega⟩
        by_cases hik : i < k
        · exact HA.out i hik
        · obtain rfl : i = k := by omega
          exact .inl h1
      · by_cases h2 : bn l k = 49
        · have t1 : ((bn l k : Int) != 48) = true := by rw [bne_iff_ne]; omega
          have t2 : ((bn l k : Int) != 49) = false := by rw [bne_eq_false_iff_eq]; omega
          clear h1
          go_wp2_with fail
          refine ⟨⟨k + 1, by go_num, by omega, fun i hi => ?_⟩, by simp [intOf]; omega⟩
          by_cases hik : i < k
          · exact HA.out i hik
          · obtain rfl : i = k := by omega
            exact .inr h2
        · have HE : Hid (b = false) := by
            show _ = _
            have h3 := oddL_at (by rw [← HSZ.out]; exact hks) h1 h2
            rw [← HB.out]; unfold okS; rw [h3]; simp
          have t1 : ((bn l k : Int) != 48) = true := by rw [bne_iff_ne]; omega
          have t2 : ((bn l k : Int) != 49) = true := by rw [bne_iff_ne]; omega
          clear h1 h2
          go_wp2_with fail
          go_ret
          exact ⟨by rw [HE.out]; rfl, rfl⟩
    · have e : s.size = k := by omega
      have HO : Hid (oddL l = false) := oddL_none fun i hi => HA.out i (by rw [← e, HSZ.out]; exact hi)
      subst e
      by_cases h : s.size ≤ 1024
      · have HE : Hid (b = true) := by show _ = _; rw [← HB.out]; unfold okS; rw [HO.out, ← HSZ.out]; simp [h]
        have h1 : (s.size : Int) ≤ 1024 := by omega
        clear h
        go_wp2_with fail
        go_ret
        exact ⟨by rw [HE.out]; rfl, rfl⟩
      · have HE : Hid (b = false) := by show _ = _; rw [← HB.out]; unfold okS; rw [← HSZ.out]; simp [h]
        have h2 : decide ((s.size : Int) ≤ 1024) = false := by simp; omega
        have h1 : (1025 : Int) ≤ s.size := by omega
        clear h
        go_wp2_with fail
        go_ret
        exact ⟨by rw [HE.out]; rfl, rfl⟩

set_option maxHeartbeats 1000000 in
set_option maxRecDepth 100000 in
theorem rnew_ok (s : ByteArray) (w : World) (hs : s.size ≤ maxLen) (hb : okS s.data.toList = true) :
    Calls Tryz.prog 25 #[.string s] w (RetCur s w) := by
  have HS := Lib.hid hs
  have HB := Lib.hid hb
  clear hs hb
  go_enter Tryz.func25, Tryz.ntmps25
  go_wp2_with (go_at_call 56; refine (rbits_is s _ HS.out true HB.out).mono ?_; rintro e w' ⟨rfl, rfl⟩)
  go_ret2
  exact ⟨_, rfl, Nat.le_refl _, ⟨At.n0 (by rfl), At.n0 (by rfl), At.n0 (by rfl), Bx.n0 3 ⟨rfl, by decide⟩ (by decide) (by simp [NoI])⟩, (Ext.refl _).alloc _⟩

set_option maxHeartbeats 1000000 in
set_option maxRecDepth 100000 in
theorem rnew_bad (s : ByteArray) (w : World) (hs : s.size ≤ maxLen) (hb : okS s.data.toList = false) :
    Calls Tryz.prog 25 #[.string s] w fun e w' => e = .returned (.tuple #[.pointer none, .int .i64 3]) ∧ Ext w w' := by
  have HS := Lib.hid hs
  have HB := Lib.hid hb
  clear hs hb
  go_enter Tryz.func25, Tryz.ntmps25
  go_wp2_with (go_at_call 56; refine (rbits_is s _ HS.out false HB.out).mono ?_; rintro e w' ⟨rfl, rfl⟩)
  go_ret2
  exact ⟨rfl, Ext.refl _⟩

set_option maxHeartbeats 1000000 in
set_option maxRecDepth 100000 in
theorem rtake_over {S : ByteArray} {s at_ : Nat} {w : World} (h : Cur S s at_ true w) (n : Int) (hn : 0 ≤ n ∧ n ≤ 64) :
    Calls Tryz.prog 87 #[.pointer (some ⟨s, 0, none⟩), .int .i64 n] w fun e w' => e = .returned (.tuple #[.int .u64 0, .bool false]) ∧ Ext w w' := by
  have c2 := h.c2.1
  obtain ⟨h1, h2⟩ := hn
  go_enter Tryz.func87, Tryz.ntmps87
  go_wp2_with fail
  go_ret2
  exact ⟨rfl, Ext.refl _⟩

set_option maxHeartbeats 1000000 in
set_option maxRecDepth 100000 in
theorem rtake_short {S : ByteArray} {s at_ : Nat} {w : World} (h : Cur S s at_ false w) (ha : at_ ≤ S.size) (_hS : S.size ≤ 1024) (n : Nat) (hn : n ≤ 64) (hl : S.size < at_ + n) :
    Calls Tryz.prog 87 #[.pointer (some ⟨s, 0, none⟩), .int .i64 (n : Int)] w fun e w' => e = .returned (.tuple #[.int .u64 0, .bool false]) ∧ Mv s w w' ∧ Cur S s at_ true w' := by
  have c0 := h.c0.1
  have c1 := h.c1.1
  have c2 := h.c2.1
  have h1 : (n : Int) ≤ 64 := by omega
  obtain ⟨k, hk⟩ : ∃ k, S.size - at_ = k := ⟨_, rfl⟩
  have h2 : (k : Int) + 1 ≤ n := by omega
  have hw : IntKind.i64.wrap ((S.size : Int) - (at_ : Int)) = (k : Int) := by rw [IntWalk.i64_in _ (by omega)]; omega
  have hf := h.bx.free 2
  have HC := Lib.hid h
  clear hk hl ha hn _hS h
  go_enter Tryz.func87, Tryz.ntmps87
  go_wp2_with fail
  go_quiet (fail)
  have E6 := Lib.hid ((Ext.refl w).drewN nq)
  have HC1 := Lib.hid (HC.out.ext E6.out)
  have d2 := HC1.out.c2.1
  have hf1 := HC1.out.bx.free 2
  clear c0 c1 c2 hf hw
  go_wp2_with fail
  go_ret2
  exact ⟨rfl, (E6.out.mv (Nat.le_of_lt HC.out.lt)).trans (Mv.set s 2 _ _), HC1.out.stop⟩

set_option maxHeartbeats 2000000 in
set_option maxRecDepth 100000 in
theorem rtake_ok {S : ByteArray} {s at_ : Nat} {w : World} (h : Cur S s at_ false w) (ho : okS S.data.toList = true) (n : Nat) (hn : n ≤ 64) (hl : at_ + n ≤ S.size) (v : Nat) (hv : bitsAt S.data.toList at_ n = v) :
    Calls Tryz.prog 87 #[.pointer (some ⟨s, 0, none⟩), .int .i64 (n : Int)] w fun e w' => e = .returned (.tuple #[.int .u64 (v : Int), .bool true]) ∧ Mv s w w' ∧ Cur S s (at_ + n) false w' := by
  obtain ⟨hS, hodd⟩ := okS_len ho
  have c0 := h.c0.1
  have c1 := h.c1.1
  have c2 := h.c2.1
  obtain ⟨l, hl2⟩ : ∃ l, l = S.data.toList := ⟨_, rfl⟩
  have hsz : S.size = l.length := by rw [hl2]; exact Lib.size_eq S
  have hget : ∀ i (h : i < S.size), ((S[i]'h).toNat : Int) = (bn l i : Int) := fun i h => by rw [hl2]; exact bn_get S i h
  rw [← hl2] at hv hodd
  obtain ⟨k, hk⟩ : ∃ k, S.size - at_ = k := ⟨_, rfl⟩
  have h1 : (n : Int) ≤ 64 := by omega
  have h2 : (n : Int) ≤ k := by omega
  have h3 : (at_ : Int) + n ≤ 1024 := by omega
  have hw : IntKind.i64.wrap ((S.size : Int) - (at_ : Int)) = (k : Int) := by rw [IntWalk.i64_in _ (by omega)]; omega
  have HC := Lib.hid h
  have HSZ := Lib.hid hsz
  have HODD := Lib.hid hodd
  have HL : Hid (at_ + n ≤ S.size) := hl
  have HV := Lib.hid hv
  clear hk hl hn hS h hl2 ho hsz hodd hv
  go_enter Tryz.func87, Tryz.ntmps87
  go_wp2_with fail
  go_quiet (fail)
  have E6 := Lib.hid ((Ext.refl w).drewN nq)
  have HC1 := Lib.hid (HC.out.ext E6.out)
  clear c0 c1 c2 hw
  go_wp2_with fail
  go_loopw [6, 7] (fun v6 v7 wr => ∃ i : Nat, v7 = .int .i64 (i : Int) ∧ i ≤ n ∧ v6 = .int .u64 (bitsAt l at_ i : Nat) ∧ Ext w wr) (fun _ v7 _ => n - (intOf v7).toNat)
  case atStart => exact ⟨0, rfl, Nat.zero_le _, by rw [bitsAt_zero]; rfl, E6.out⟩
  case round =>
    obtain ⟨i, rfl, hi, rfl, hx⟩ := hrel
    have HC2 := Lib.hid (HC.out.ext hx)
    have HX := Lib.hid hx
    clear hx
    by_cases hin : i < n
    · have e0 := HC2.out.c0.1
      have e1 := HC2.out.c1.1
      obtain ⟨j, hj⟩ : ∃ j, j = at_ + i := ⟨_, rfl⟩
      have hlt : j < S.size := by have := HL.out; omega
      have HB : Hid (bitsAt l at_ (i + 1) = 2 * bitsAt l at_ i + (bn l j - 48)) := by rw [hj]; exact bitsAt_succ (by rw [← HSZ.out, ← hj]; exact hlt)
      have hb := oddL_get HODD.out (i := j) (by rw [← HSZ.out]; exact hlt)
      have hx63 := bitsAt_64 HODD.out (a := at_) (k := i) (by rw [← HSZ.out]; omega) (by omega)
      obtain ⟨x, hxx⟩ : ∃ x, bitsAt l at_ i = x := ⟨_, rfl⟩
      rw [hxx] at hx63 HB
      rw [hxx]
      obtain ⟨y, hy⟩ : ∃ y, 2 * x = y := ⟨_, rfl⟩
      have hw2 : IntKind.u64.wrap (2 * (x : Int)) = (y : Int) := by rw [wraps_u64 _ (by omega) (by omega)]; omega
      have hw3 : IntKind.u64.wrap ((y : Int) + 1) = ((y + 1 : Nat) : Int) := by rw [wraps_u64 _ (by omega) (by omega)]; omega
      have hw1 : IntKind.i64.wrap ((at_ : Int) + i) = (j : Int) := by rw [IntWalk.i64_in _ (by omega)]; omega
      rw [hy] at HB
      clear hj hy hxx hx63
      by_cases hbit : bn l j = 49
      · have t1 : ((bn l j : Int) == 49) = true := by rw [beq_iff_eq]; omega
        have HB2 : Hid (bitsAt l at_ (i + 1) = y + 1) := by show _ = _; rw [HB.out, hbit]
        clear hb hbit
        go_wp2_with fail
        go_quiet (fail)
        go_wp2_with fail
        refine ⟨⟨i + 1, by go_num, by omega, ?_, HX.out.drewN _⟩, by simp [intOf]; omega⟩
        rw [HB2.out]; rfl
      · have t1 : ((bn l j : Int) == 49) = false := by rw [beq_eq_false_iff_ne]; omega
        have HB2 : Hid (bitsAt l at_ (i + 1) = y) := by show _ = _; rw [HB.out]; omega
        clear hb hbit
        go_wp2_with fail
        go_quiet (fail)
        go_wp2_with fail
        refine ⟨⟨i + 1, by go_num, by omega, ?_, HX.out.drewN _⟩, by simp [intOf]; omega⟩
        rw [HB2.out]
    · obtain rfl : i = n := by omega
      have e1 := HC2.out.c1.1
      have hf := HC2.out.bx.free 1
      have hw1 : IntKind.i64.wrap ((at_ : Int) + i) = ((at_ + i : Nat) : Int) := by rw [IntWalk.i64_in _ (by omega)]; omega
      go_wp2_with fail
      go_ret2
      refine ⟨?_, (HX.out.mv (Nat.le_of_lt HC.out.lt)).trans (Mv.set s 1 _ _), ?_⟩
      · rw [HV.out]; rfl
      · have := HC2.out.set (at_ + i)
        rw [Int.natCast_add] at this
        exact this
end Go.Proofs.YtkfioaoooodmnaaGreatDoor
