/- rising; what is drawn rises. -/
import Derived.Test.YtkfioaoooodmnaaPartJ
namespace Go.Proofs.Ytkfioaoooodmnaa
open Go Go.RowKit

set_option maxHeartbeats 2000000 in
set_option maxRecDepth 100000 in
theorem rising_yes {w : World} {v : Value} {L : List Int} (h : Ints w v L) (n : Int) (m : Nat) (hm : L.length = m) (hl : m ≤ 64) (hb : ∀ i, i < m → 0 ≤ L.getD i 0 ∧ L.getD i 0 < n) (hu : ∀ i, i + 1 < m → L.getD i 0 < L.getD (i + 1) 0) :
    Calls Try.prog 19 #[v, .int .i64 (m : Int), .int .i64 n] w fun e w' => e = .returned (.bool true) ∧ Ext w w' := by
  obtain ⟨p1, c1, rfl, g1, g2, g3⟩ := h.open
  unfold maxLen at g2
  have G3 := Lib.hid g3
  have HM := Lib.hid hm
  have HB := Lib.hid hb
  have HU := Lib.hid hu
  rw [hm] at g1 ⊢
  have t1 : (m : Int) ≤ 64 := by omega
  clear h hm hl hb hu g3 g2
  go_enter Try.func19, Try.ntmps19
  go_wp2_with fail
  go_loopw [7] (fun v7 wr => ∃ i : Nat, v7 = .int .i64 (i : Int) ∧ i ≤ m ∧ Ext w wr) (fun v7 _ => m - (intOf v7).toNat)
  case atStart => exact ⟨0, rfl, Nat.zero_le _, Ext.refl _⟩
  case round =>
    obtain ⟨i, rfl, hi, hx⟩ := hrel
    have X := Lib.hid hx
    clear hx
    by_cases him : i < m
    · obtain ⟨b1, o1, rfl, q1, q2⟩ := G3.out i (by rw [HM.out]; exact him)
      obtain ⟨x, hx⟩ : ∃ x, L.getD i 0 = x := ⟨_, rfl⟩
      have cx : wr.cell? ⟨b1, o1 + i, none⟩ = some (.int .i64 x) := by rw [Below.cell X.out (p := ⟨b1, o1 + i, none⟩) q1, q2 i (by rw [HM.out]; exact him), hx]
      obtain ⟨hx0, hxn⟩ := HB.out i him
      rw [hx] at hx0 hxn
      have LT := Lib.hid him
      have e1 : decide (x < 0) = false := by rw [decide_eq_false_iff_not]; omega
      have e2 : decide (n ≤ x) = false := by rw [decide_eq_false_iff_not]; omega
      have e1' : ¬ x < 0 := by omega
      have e2' : ¬ n ≤ x := by omega
      rcases Nat.eq_zero_or_pos i with h0 | h0
      · subst h0
        rw [Nat.add_zero] at cx
        clear q2 hx hx0 hxn
        go_wp2_with fail
        (try simp only [List.append_eq, List.cons_append, List.nil_append])
        go_quiet (fail)
        go_wp2_with fail
        exact ⟨⟨0 + 1, by go_num, LT.out, X.out.drewN _⟩, by simp [intOf]; have := LT.out; omega⟩
      · obtain ⟨q, hqi⟩ : ∃ q, q + 1 = i := ⟨i - 1, by omega⟩
        obtain ⟨y, hy⟩ : ∃ y, L.getD q 0 = y := ⟨_, rfl⟩
        have cy : wr.cell? ⟨b1, o1 + q, none⟩ = some (.int .i64 y) := by rw [Below.cell X.out (p := ⟨b1, o1 + q, none⟩) q1, q2 q (by rw [HM.out]; omega), hy]
        have hyx : y < x := by rw [← hx, ← hy, ← hqi]; exact HU.out q (by omega)
        have hw1 : IntKind.i64.wrap ((i : Int) - 1) = (q : Int) := by rw [IntWalk.i64_in _ (by omega)]; omega
        have hqm : q < m := by omega
        have e3 : decide (x ≤ y) = false := by rw [decide_eq_false_iff_not]; omega
        have e3' : ¬ x ≤ y := by omega
        have e4 : decide (0 < (i : Int)) = true := by rw [decide_eq_true_eq]; omega
        have e4' : 0 < (i : Int) := by omega
        clear q2 hx hy hqi hyx hx0 hxn
        go_wp2_with fail
        (try simp only [List.append_eq, List.cons_append, List.nil_append])
        go_quiet (fail)
        go_wp2_with fail
        exact ⟨⟨i + 1, by go_num, LT.out, X.out.drewN _⟩, by simp [intOf]; have := LT.out; omega⟩
    · obtain rfl : m = i := by omega
      clear him
      go_wp2_with fail
      go_ret
      exact ⟨rfl, X.out⟩

set_option maxHeartbeats 2000000 in
set_option maxRecDepth 100000 in
/-- by nobody's cursor: something, and nothing turns -/
theorem pldraw_nil_any (w : World) (k n : Int) :
    Calls Try.prog 21 #[.pointer none, .int .i64 k, .int .i64 n] w fun e w' => ∃ r y, e = .returned (.tuple #[r, .bool y]) ∧ Ext w w' := by
  by_cases h : mayP k n
  · have h' := h
    unfold mayP at h'
    obtain ⟨kk, rfl⟩ : ∃ kk : Nat, k = (kk : Int) := ⟨k.toNat, by omega⟩
    obtain ⟨nn, rfl⟩ : ∃ nn : Nat, n = (nn : Int) := ⟨n.toNat, by omega⟩
    by_cases e : kk = nn
    · subst e
      exact (pldraw_full w _ kk (by omega)).mono fun e w' ⟨r, h1, _, h3⟩ => ⟨_, _, h1, h3⟩
    · exact (pldraw_nil w kk nn (by omega) (by omega)).mono fun e w' ⟨h1, h2⟩ => ⟨_, _, h1, h2⟩
  · exact (pldraw_bad w _ k n h).mono fun e w' ⟨h1, h2⟩ => ⟨_, _, h1, h2⟩
/-- so many numbers, rising -/
def Rise (k n : Int) (L : List Int) : Prop := (L.length : Int) = k ∧ L.length ≤ 64 ∧ (∀ i, i < L.length → 0 ≤ L.getD i 0 ∧ L.getD i 0 < n) ∧ ∀ i, i + 1 < L.length → L.getD i 0 < L.getD (i + 1) 0
theorem rise_pool {k n : Nat} {J : List Int} (hk : k ≤ n) (hn : n ≤ 64) (hl : J.length = n - k) : Rise (k : Int) (n : Int) (poolF k J) := by
  unfold Rise
  rw [poolF_length]
  refine ⟨rfl, by omega, fun i hi => ?_, fun i hi => poolF_up k J hi⟩
  have := poolF_in k J hi
  omega
theorem rise_row {k n : Int} {J : List Int} (h : errPool k n J = 0) : Rise k n (plR k n J) := by
  obtain ⟨h1, h2, h3⟩ := errPool_ok h
  rw [plR_ok h]
  unfold mayP at h1
  obtain ⟨kk, rfl⟩ : ∃ kk : Nat, k = (kk : Int) := ⟨k.toNat, by omega⟩
  obtain ⟨nn, rfl⟩ : ∃ nn : Nat, n = (nn : Int) := ⟨n.toNat, by omega⟩
  exact rise_pool (by omega) (by omega) (by omega)
theorem rise_res {l : List UInt8} {k n : Int} {a a' : Nat} {ov ov' y : Bool} {L : List Int} (h : plRes l k n a ov = (L, y, a', ov')) : (y = true → Rise k n L) ∧ (y = false → L = []) := by
  unfold plRes at h
  split at h
  · simp only [Prod.mk.injEq] at h; obtain ⟨rfl, rfl, -⟩ := h; exact ⟨fun h => (by cases h), fun _ => rfl⟩
  rename_i hm
  have hm := Decidable.of_not_not hm
  unfold mayP at hm
  obtain ⟨kk, rfl⟩ : ∃ kk : Nat, k = (kk : Int) := ⟨k.toNat, by omega⟩
  obtain ⟨nn, rfl⟩ : ∃ nn : Nat, n = (nn : Int) := ⟨n.toNat, by omega⟩
  split at h
  · rename_i e
    have e : kk = nn := by omega
    subst e
    simp only [Prod.mk.injEq] at h; obtain ⟨rfl, rfl, -⟩ := h
    exact ⟨fun _ => rise_pool (Nat.le_refl _) (by omega) (by simp), fun h => (by cases h)⟩
  split at h
  · simp only [Prod.mk.injEq] at h; obtain ⟨rfl, rfl, -⟩ := h; exact ⟨fun h => (by cases h), fun _ => rfl⟩
  simp only [Int.toNat_natCast] at h
  rcases hq : upB l (nn - kk) kk a with ⟨_ | vs, b⟩
  · rw [hq] at h; simp only [Prod.mk.injEq] at h; obtain ⟨rfl, rfl, -⟩ := h; exact ⟨fun h => (by cases h), fun _ => rfl⟩
  · rw [hq] at h; simp only [Prod.mk.injEq] at h; obtain ⟨rfl, rfl, -⟩ := h
    exact ⟨fun _ => rise_pool (by omega) (by omega) (by rw [intsU_length, (upB_ok _ _ _ hq).1]), fun h => (by cases h)⟩
theorem rising_of {w : World} {v : Value} {L : List Int} {k n : Int} (h : Ints w v L) (hr : Rise k n L) :
    Calls Try.prog 19 #[v, .int .i64 k, .int .i64 n] w fun e w' => e = .returned (.bool true) ∧ Ext w w' := by
  obtain ⟨h1, h2, h3, h4⟩ := hr
  subst h1
  exact rising_yes h n _ rfl h2 h3 h4
end Go.Proofs.Ytkfioaoooodmnaa
