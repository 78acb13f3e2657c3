/- RatNames answers true: texts that are fractions or none; what is refused; powers, halves, numbers at their ends. -/
import Derived.Test.YtaklejkdmfgplaaGreatDoorRatNam
namespace Go.Proofs.YtaklejkdmfgplaaGreatDoor
open Go Go.RowKit

theorem rpow_q {w : World} {ba : Bool} {va ua : Value} {k : Nat} {a : Rat} (ha : InR w ba va ua k a) (hk : k ≤ 30000) (n : Nat) (hn : n ≤ 1048576) (hb1 : bl a.num.natAbs * n ≤ 1048576) (hb2 : bl a.den * n ≤ 1048576) (q : Rat) (hq : a ^ n = q) (m : Int) (hm : (n : Int) = m) :
    Calls Tryz.prog 41 #[.agg #[.bool ba, va, ua], .int .i64 m] w (RetR0 w q) := by
  subst hm hq; exact rpow_is ha hk n hn hb1 hb2
theorem nlen_of {w : World} {v : Value} {d : Nat} (h : Limbs w v (dig d)) (hl : (dig d).length ≤ Lmax) (k : Int) (hk : ((bl d : Nat) : Int) = k) :
    Calls Tryz.prog 42 #[v] w fun e w' => e = .returned (.int .i64 k) ∧ Ext w w' := by
  refine (natlen_calls h hl).mono ?_
  rintro e w' ⟨rfl, rfl⟩
  exact ⟨by rw [val_dig, hk], Ext.refl _⟩
theorem rsum_nil (w : World) : Calls Tryz.prog 44 #[.slice none 0 0] w (RetR w 0) :=
  rsum_is (K := 1) (qs := []) ⟨none, 0, rfl, Nat.le_refl _, Nat.zero_le _, fun i hi => absurd hi (Nat.not_lt_zero _)⟩ (by decide) (by decide)
theorem mk_nil : mkRat (iv false []) (val []) = 0 := by rw [show val [] = 0 from rfl, Rat.mkRat_zero]
theorem may_nil : decide (val [] ≠ 0 ∧ decide ((0 : Rat).num < 0) = false ∧ dig (0 : Rat).num.natAbs = [] ∧ dig (0 : Rat).den = []) = false := by rw [decide_eq_false_iff_not]; rintro ⟨h, -⟩; exact h rfl
theorem val_four : val [4] = 4 := by simp [val]
theorem val_two0 : val [2, 0] = 2 := by simp [val]
theorem half_raw : mkRat (iv true [2, 0]) (val [4]) = mkRat (-1) 2 := by
  unfold iv; rw [val_four, val_two0]; decide +kernel
theorem half_may : decide (val [4] ≠ 0 ∧ decide ((mkRat (-1) 2).num < 0) = true ∧ dig (mkRat (-1) 2).num.natAbs = [2, 0] ∧ dig (mkRat (-1) 2).den = [4]) = false := by
  rw [decide_eq_false_iff_not]
  rintro ⟨-, -, h, -⟩
  rw [show (mkRat (-1) 2).num.natAbs = 1 by decide +kernel, dig_one one_lt_Bs (by decide)] at h
  exact absurd h (by decide)
theorem neg_pow : ((-1 : Int) : Rat) ^ 1048576 = 1 := by
  have h : ∀ n : Nat, ((-1 : Int) : Rat) ^ (2 * n) = 1 := by
    intro n
    induction n with
    | zero => rfl
    | succ n ih =>
      rw [show 2 * (n + 1) = 2 * n + 1 + 1 by omega, Rat.pow_succ, Rat.pow_succ, ih]
      decide +kernel
  exact h 524288
theorem half_den6 (n : Nat) : (mkRat 1 (2 ^ n)).den = 2 ^ n := by
  have h2 : 2 ^ n ≠ 0 := Nat.pos_iff_ne_zero.1 (Nat.pow_pos (by decide))
  rw [mk_den h2]; simp
theorem bl_pow6 (n : Nat) : bl (2 ^ n) = n + 1 := bl_eq (Nat.le_refl _) (Nat.pow_lt_pow_right (by decide) (Nat.lt_succ_self _))
theorem pow_lt6 {n k : Nat} (h : n < 64 * k) : 2 ^ n < Bs ^ k := by
  rw [Bs_eq, ← Nat.pow_mul]; exact Nat.pow_lt_pow_right (by decide) h
theorem len_pow6 {d n k : Nat} (hd : d = 2 ^ n) (h : n < 64 * k) : (dig d).length ≤ k := dig_len_le (by rw [hd]; exact pow_lt6 h)
theorem readQ_len6 {l : List UInt8} {n : Nat} (h : l.length ≤ n) (hn : 1 ≤ n) : LenR n (readQ l) := by
  unfold readQ
  split
  · exact lenR_zero.mono hn
  · split
    · exact LenR.int (readI_lt h hn) hn
    · exact LenR.mk hn (readI_lt (by rw [List.length_take]; omega) hn) (readN_lt (by rw [List.length_drop]; omega) hn)
/-- a table of texts and of why they are none -/
def TabN (g : Nat) (w : World) : Prop := ∃ (C : Array Value) (ty : TypeId), w.heap[g]? = some (.cells C ty (0, 0)) ∧
  ∀ i, i < 16 → ∃ (s : ByteArray) (c : Nat), C[i * 2]? = some (.string s) ∧ C[i * 2 + 1]? = some (.int .i64 (c : Int)) ∧ s.size ≤ 100 ∧ errQ s.data.toList = c
theorem TabN.ext {g : Nat} {w w' : World} (h : TabN g w) (x : Ext w w') : TabN g w' := by
  obtain ⟨C, ty, h1, h2⟩ := h
  exact ⟨C, ty, by rw [x.block g (Array.getElem?_eq_some_iff.1 h1).1]; exact h1, h2⟩
theorem TabN.cell {g : Nat} {w : World} (h : TabN g w) {i : Nat} (hi : i < 16) : ∃ (s : ByteArray) (c : Nat), w.cell? ⟨g, i * 2, none⟩ = some (.string s) ∧ w.cell? ⟨g, i * 2 + 1, none⟩ = some (.int .i64 (c : Int)) ∧ s.size ≤ 100 ∧ errQ s.data.toList = c := by
  obtain ⟨C, ty, h1, h2⟩ := h
  obtain ⟨s, c, k1, k2, k3, k4⟩ := h2 i hi
  exact ⟨s, c, by rw [cell_of_row w g _ C ty (0, 0) h1]; exact k1, by rw [cell_of_row w g _ C ty (0, 0) h1]; exact k2, k3, k4⟩
theorem tabN_get : ∀ i, i < 16 → ∃ (s : ByteArray) (c : Nat), (#[.string ⟨#[]⟩, .int .i64 4, .string ⟨#[49, 47]⟩, .int .i64 4, .string ⟨#[49, 47, 49]⟩, .int .i64 3, .string ⟨#[49, 47, 48]⟩, .int .i64 3, .string ⟨#[48, 47, 50]⟩, .int .i64 3, .string ⟨#[49, 47, 48, 50]⟩, .int .i64 3, .string ⟨#[50, 47, 52]⟩, .int .i64 3, .string ⟨#[45, 48]⟩, .int .i64 3, .string ⟨#[49, 47, 45, 50]⟩, .int .i64 3, .string ⟨#[49, 47, 50, 47, 51]⟩, .int .i64 3, .string ⟨#[43, 49]⟩, .int .i64 3, .string ⟨#[49, 32, 47, 50]⟩, .int .i64 3, .string ⟨#[49, 47, 50]⟩, .int .i64 0, .string ⟨#[45, 51]⟩, .int .i64 0, .string ⟨#[48]⟩, .int .i64 0, .string ⟨#[49, 56, 52, 52, 54, 55, 52, 52, 48, 55, 51, 55, 48, 57, 53, 53, 49, 54, 49, 54, 47, 51]⟩, .int .i64 0] : Array Value)[i * 2]? = some (.string s) ∧ (#[.string ⟨#[]⟩, .int .i64 4, .string ⟨#[49, 47]⟩, .int .i64 4, .string ⟨#[49, 47, 49]⟩, .int .i64 3, .string ⟨#[49, 47, 48]⟩, .int .i64 3, .string ⟨#[48, 47, 50]⟩, .int .i64 3, .string ⟨#[49, 47, 48, 50]⟩, .int .i64 3, .string ⟨#[50, 47, 52]⟩, .int .i64 3, .string ⟨#[45, 48]⟩, .int .i64 3, .string ⟨#[49, 47, 45, 50]⟩, .int .i64 3, .string ⟨#[49, 47, 50, 47, 51]⟩, .int .i64 3, .string ⟨#[43, 49]⟩, .int .i64 3, .string ⟨#[49, 32, 47, 50]⟩, .int .i64 3, .string ⟨#[49, 47, 50]⟩, .int .i64 0, .string ⟨#[45, 51]⟩, .int .i64 0, .string ⟨#[48]⟩, .int .i64 0, .string ⟨#[49, 56, 52, 52, 54, 55, 52, 52, 48, 55, 51, 55, 48, 57, 53, 53, 49, 54, 49, 54, 47, 51]⟩, .int .i64 0] : Array Value)[i * 2 + 1]? = some (.int .i64 (c : Int)) ∧ s.size ≤ 100 ∧ errQ s.data.toList = c
  | 0, _ => ⟨⟨#[]⟩, 4, rfl, rfl, by decide, by decide +kernel⟩
  | 1, _ => ⟨⟨#[49, 47]⟩, 4, rfl, rfl, by decide, by decide +kernel⟩
  | 2, _ => ⟨⟨#[49, 47, 49]⟩, 3, rfl, rfl, by decide, by decide +kernel⟩
  | 3, _ => ⟨⟨#[49, 47, 48]⟩, 3, rfl, rfl, by decide, by decide +kernel⟩
  | 4, _ => ⟨⟨#[48, 47, 50]⟩, 3, rfl, rfl, by decide, by decide +kernel⟩
  | 5, _ => ⟨⟨#[49, 47, 48, 50]⟩, 3, rfl, rfl, by decide, by decide +kernel⟩
  | 6, _ => ⟨⟨#[50, 47, 52]⟩, 3, rfl, rfl, by decide, by decide +kernel⟩
  | 7, _ => ⟨⟨#[45, 48]⟩, 3, rfl, rfl, by decide, by decide +kernel⟩
  | 8, _ => ⟨⟨#[49, 47, 45, 50]⟩, 3, rfl, rfl, by decide, by decide +kernel⟩
  | 9, _ => ⟨⟨#[49, 47, 50, 47, 51]⟩, 3, rfl, rfl, by decide, by decide +kernel⟩
  | 10, _ => ⟨⟨#[43, 49]⟩, 3, rfl, rfl, by decide, by decide +kernel⟩
  | 11, _ => ⟨⟨#[49, 32, 47, 50]⟩, 3, rfl, rfl, by decide, by decide +kernel⟩
  | 12, _ => ⟨⟨#[49, 47, 50]⟩, 0, rfl, rfl, by decide, by decide +kernel⟩
  | 13, _ => ⟨⟨#[45, 51]⟩, 0, rfl, rfl, by decide, by decide +kernel⟩
  | 14, _ => ⟨⟨#[48]⟩, 0, rfl, rfl, by decide, by decide +kernel⟩
  | 15, _ => ⟨⟨#[49, 56, 52, 52, 54, 55, 52, 52, 48, 55, 51, 55, 48, 57, 53, 53, 49, 54, 49, 54, 47, 51]⟩, 0, rfl, rfl, by decide, by decide +kernel⟩
  | n + 16, h => absurd h (by omega)

set_option maxHeartbeats 4000000 in
set_option maxRecDepth 1000000 in
theorem ratNames_calls (w : World) : Calls Tryz.prog 6 #[] w (Yes w) := by
  obtain ⟨m, hm⟩ : ∃ m : Nat, m = 65536 := ⟨_, rfl⟩
  obtain ⟨qh, hqh⟩ : ∃ q, mkRat 1 (2 ^ m) = q := ⟨_, rfl⟩
  have hden : qh.den = 2 ^ m := by rw [← hqh]; exact half_den6 m
  have HBL : Hid (((bl qh.den : Nat) : Int) = 65537) := by show _ = _; rw [hden, bl_pow6, hm]; rfl
  have HNL : Hid ((dig qh.den).length ≤ Lmax) := lmax_16 (Nat.le_trans (len_pow6 (k := 1025) hden (by omega)) (by decide))
  have HQH : Hid (mkRat 1 (2 ^ ((65536 : Int)).toNat) = qh) := by
    show _ = _
    rw [show ((65536 : Int)).toNat = m by rw [hm]; rfl]; exact hqh
  have HRQ := Lib.hid half_raw
  have HMC := Lib.hid half_may
  clear hqh hden hm
  go_enter Tryz.func6, Tryz.ntmps6
  go_wp2_with fail
  refine (awake06_calls _).mono ?_
  rintro e w1 ⟨rfl, x1⟩
  go_wp2_with fail
  have TB : Hid (TabN w1.heap.size (w1.alloc (.cells #[.string ⟨#[]⟩, .int .i64 4, .string ⟨#[49, 47]⟩, .int .i64 4, .string ⟨#[49, 47, 49]⟩, .int .i64 3, .string ⟨#[49, 47, 48]⟩, .int .i64 3, .string ⟨#[48, 47, 50]⟩, .int .i64 3, .string ⟨#[49, 47, 48, 50]⟩, .int .i64 3, .string ⟨#[50, 47, 52]⟩, .int .i64 3, .string ⟨#[45, 48]⟩, .int .i64 3, .string ⟨#[49, 47, 45, 50]⟩, .int .i64 3, .string ⟨#[49, 47, 50, 47, 51]⟩, .int .i64 3, .string ⟨#[43, 49]⟩, .int .i64 3, .string ⟨#[49, 32, 47, 50]⟩, .int .i64 3, .string ⟨#[49, 47, 50]⟩, .int .i64 0, .string ⟨#[45, 51]⟩, .int .i64 0, .string ⟨#[48]⟩, .int .i64 0, .string ⟨#[49, 56, 52, 52, 54, 55, 52, 52, 48, 55, 51, 55, 48, 57, 53, 53, 49, 54, 49, 54, 47, 51]⟩, .int .i64 0] 50))) := ⟨_, _, heap_alloc_new _ _, tabN_get⟩
  have EW : Hid (Ext w (w1.alloc (.cells #[.string ⟨#[]⟩, .int .i64 4, .string ⟨#[49, 47]⟩, .int .i64 4, .string ⟨#[49, 47, 49]⟩, .int .i64 3, .string ⟨#[49, 47, 48]⟩, .int .i64 3, .string ⟨#[48, 47, 50]⟩, .int .i64 3, .string ⟨#[49, 47, 48, 50]⟩, .int .i64 3, .string ⟨#[50, 47, 52]⟩, .int .i64 3, .string ⟨#[45, 48]⟩, .int .i64 3, .string ⟨#[49, 47, 45, 50]⟩, .int .i64 3, .string ⟨#[49, 47, 50, 47, 51]⟩, .int .i64 3, .string ⟨#[43, 49]⟩, .int .i64 3, .string ⟨#[49, 32, 47, 50]⟩, .int .i64 3, .string ⟨#[49, 47, 50]⟩, .int .i64 0, .string ⟨#[45, 51]⟩, .int .i64 0, .string ⟨#[48]⟩, .int .i64 0, .string ⟨#[49, 56, 52, 52, 54, 55, 52, 52, 48, 55, 51, 55, 48, 57, 53, 53, 49, 54, 49, 54, 47, 51]⟩, .int .i64 0] 50))) := x1.alloc _
  obtain ⟨W4, hW⟩ : ∃ W, W = w1.alloc (.cells #[.string ⟨#[]⟩, .int .i64 4, .string ⟨#[49, 47]⟩, .int .i64 4, .string ⟨#[49, 47, 49]⟩, .int .i64 3, .string ⟨#[49, 47, 48]⟩, .int .i64 3, .string ⟨#[48, 47, 50]⟩, .int .i64 3, .string ⟨#[49, 47, 48, 50]⟩, .int .i64 3, .string ⟨#[50, 47, 52]⟩, .int .i64 3, .string ⟨#[45, 48]⟩, .int .i64 3, .string ⟨#[49, 47, 45, 50]⟩, .int .i64 3, .string ⟨#[49, 47, 50, 47, 51]⟩, .int .i64 3, .string ⟨#[43, 49]⟩, .int .i64 3, .string ⟨#[49, 32, 47, 50]⟩, .int .i64 3, .string ⟨#[49, 47, 50]⟩, .int .i64 0, .string ⟨#[45, 51]⟩, .int .i64 0, .string ⟨#[48]⟩, .int .i64 0, .string ⟨#[49, 56, 52, 52, 54, 55, 52, 52, 48, 55, 51, 55, 48, 57, 53, 53, 49, 54, 49, 54, 47, 51]⟩, .int .i64 0] 50) := ⟨_, rfl⟩
  obtain ⟨g, hg⟩ : ∃ g, w1.heap.size = g := ⟨_, rfl⟩
  rw [← hW] at TB EW ⊢
  rw [hg] at TB ⊢
  clear hW hg
  go_loopw [47] (fun v47 wr => ∃ i : Nat, v47 = .int .i64 (i : Int) ∧ i ≤ 16 ∧ Ext W4 wr) (fun v47 _ => 16 - (intOf v47).toNat)
  case atStart => exact ⟨0, rfl, Nat.zero_le _, Ext.refl _⟩
  case round =>
    obtain ⟨i, rfl, hi, hx⟩ := hrel
    have XX := Lib.hid hx
    clear hx
    by_cases hi2 : i < 16
    · have LT := Lib.hid hi2
      obtain ⟨s, c, k1, k2, k3, k4⟩ := (TB.out.ext XX.out).cell hi2
      have HSZ : Hid (s.size ≤ 500) := by show _ ≤ _; omega
      have t3 : (i : Int) ≤ 15 := by omega
      clear hi
      by_cases hc : c = 0
      · subst hc
        obtain ⟨q, hq⟩ : ∃ q, readQ s.data.toList = q := ⟨_, rfl⟩
        have HE := Lib.hid k4
        have HQ := Lib.hid hq
        have HSH : Hid (s.data.toList = showR q) := showR_of k4 hq
        have HLQ : Hid (LenR 100 q) := by rw [← hq]; exact readQ_len6 (by rw [← Lib.size_eq]; exact k3) (by decide)
        have k2 : wr.cell? ⟨g, i * 2 + 1, none⟩ = some (.int .i64 0) := k2
        clear k3 k4 hq
        go_wp2_with fail
        obtain ⟨v1, hv1⟩ : ∃ W, W = (wr.alloc (.cells #[.string s, .int .i64 0] 50)) := ⟨_, rfl⟩
        have y1 : Ext wr v1 := by rw [hv1]; exact ((Ext.refl _).alloc _)
        have b0_0 : Hid (At (wr.heap.size) 0 (.string s) v1) := by rw [hv1]; exact At.ext (At.n0 (by rfl)) (Ext.refl _)
        have b0_1 : Hid (At (wr.heap.size) 1 (.int .i64 0) v1) := by rw [hv1]; exact At.ext (At.n0 (by rfl)) (Ext.refl _)
        have u0 : Hid (wr.heap.size < v1.heap.size) := b0_0.out.2
        have e1_ : Ext W4 v1 := Ext.trans XX.out y1
        rw [← hv1]
        clear hv1
        refine (rread_ok (q := q) s _ HSZ.out HE.out HQ.out).mono ?_
        rintro e w2 ⟨sb51, sv51, su51, sm51, sd51, rfl, e51, o51, x2⟩
        have e2_ : Ext W4 w2 := Ext.trans e1_ x2
        obtain ⟨sp51, sl51, sc51, tp51, tl51, tc51, rfl, rfl⟩ := e51.slice
        go_wp2_with fail
        obtain ⟨v3, hv3⟩ : ∃ W, W = (w2.alloc (.cells #[.bool sb51, .slice sp51 sl51 sc51, .slice tp51 tl51 tc51] 36)) := ⟨_, rfl⟩
        have y3 : Ext w2 v3 := by rw [hv3]; exact ((Ext.refl _).alloc _)
        have b1_0 : Hid (At (w2.heap.size) 0 (.bool sb51) v3) := by rw [hv3]; exact At.ext (At.n0 (by rfl)) (Ext.refl _)
        have b1_1 : Hid (At (w2.heap.size) 1 (.slice sp51 sl51 sc51) v3) := by rw [hv3]; exact At.ext (At.n0 (by rfl)) (Ext.refl _)
        have b1_2 : Hid (At (w2.heap.size) 2 (.slice tp51 tl51 tc51) v3) := by rw [hv3]; exact At.ext (At.n0 (by rfl)) (Ext.refl _)
        have k1 : Hid (Bx 3 (w2.heap.size) v3) := by rw [hv3]; exact Bx.gr (Bx.n0 3 ⟨rfl, by decide⟩ (by decide) noI_s3) (Ext.gr (Ext.refl _))
        have u1 : Hid (w2.heap.size < v3.heap.size) := b1_0.out.2
        have e3_ : Ext W4 v3 := Ext.trans e2_ y3
        rw [← hv3]
        clear hv3
        have hkeep51 : AllAt' ([(wr.heap.size, 0, .string s), (wr.heap.size, 1, .int .i64 0), (w2.heap.size, 0, .bool sb51), (w2.heap.size, 1, .slice sp51 sl51 sc51), (w2.heap.size, 2, .slice tp51 tl51 tc51)] : List (Nat × Nat × Value)) v3 := AllAt'.cons (b0_0.out.ext (x2.trans y3)) (AllAt'.cons (b0_1.out.ext (x2.trans y3)) (AllAt'.cons b1_0.out (AllAt'.cons b1_1.out (AllAt'.cons b1_2.out (AllAt'.nil _)))))
        have hob51 : ObOk W4.heap.size v3 (([(wr.heap.size, 0, .string s), (wr.heap.size, 1, .int .i64 0), (w2.heap.size, 0, .bool sb51), (w2.heap.size, 1, .slice sp51 sl51 sc51), (w2.heap.size, 2, .slice tp51 tl51 tc51)] : List (Nat × Nat × Value)).map (·.1)) ([] : List (Nat × List (Nat × Value))) := trivial
        have hne51 : AllNe (([] : List (Nat × List (Nat × Value))).map (·.1)) := trivial
        (try simp only [List.append_eq, List.cons_append, List.nil_append])
        refine wp_region_gen ⟨[57, 58, 59, 60, 61, 62, 63, 64, 65, 66, 67, 68, 69, 70, 71, 72, 73, 74, 75, 76, 77, 78, 79, 80, 81], fun i => false, fun i => ([none, none, none, none, none, none, none, none, none, none, none, none, none, none, none, none, none, none, none, none, none, none, none, none, none] : List (Option (BoxRef × Nat))).getD i none, fun i => ([Sg.val (.int .i64 0), Sg.val (.pointer (some ⟨wr.heap.size, 1, none⟩)), Sg.val (.int .i64 0), Sg.val (.bool false), Sg.val (.bool false), Sg.val (.int .i64 0), Sg.val (.bool true), Sg.val (.bool true), Sg.ratO W4.heap.size q, Sg.val (.string s), Sg.val (.pointer (some ⟨wr.heap.size, 0, none⟩)), Sg.val (.string s), Sg.val (.bool false), Sg.val (.bool false), Sg.val (.bool false), Sg.val (.bool false), Sg.val (.int .i64 0), Sg.val (.bool false), Sg.val (.bool false), Sg.val undef, Sg.val undef, Sg.val undef, Sg.val undef, Sg.val (.bool false), Sg.val (.bool false)] : List Sg).getD i Sg.any, [(wr.heap.size, 0, .string s), (wr.heap.size, 1, .int .i64 0), (w2.heap.size, 0, .bool sb51), (w2.heap.size, 1, .slice sp51 sl51 sc51), (w2.heap.size, 2, .slice tp51 tl51 tc51)], []⟩ W4.heap.size (by kernel_rfl) (by kernel_rfl) e3_.size ?hfr hkeep51 hob51 hne51 ?hs ?he
        case hfr =>
          intro i v wk hi hst hv
          exact absurd hi (by simp)
        case hs =>
          refine ⟨?_, ?_, ?_, ?_, ?_, ?_, ?_, ?_, ?_, ?_, ?_, ?_, ?_, ?_, ?_, ?_, ?_, ?_, ?_, ?_, ?_, ?_, ?_, ?_, ?_, trivial⟩
          · refine RStep.op rfl rfl (fun ac wk hp K hK => ?_)
            have t4_ : ac.tmps[4]?.getD undef = .int .i64 0 := hp.slot 4 rfl rfl
            have HP := Lib.hid hp
            clear hp
            go_simp
            refine hK.out _ _ ?_ (Ext.refl _) (fun h => absurd h (by simp))
            exact rfl
          · refine RStep.op rfl rfl (fun ac wk hp K hK => ?_)
            have t2_ : ac.tmps[2]?.getD undef = .pointer (some ⟨wr.heap.size, 0, none⟩) := hp.slot 2 rfl rfl
            have HP := Lib.hid hp
            clear hp
            go_simp
            refine hK.out _ _ ?_ (Ext.refl _) (fun h => absurd h (by simp))
            exact rfl
          · refine RStep.op rfl rfl (fun ac wk hp K hK => ?_)
            have u1e := hp.get 1 (by decide +kernel) rfl
            have t58_ : ac.tmps[58]?.getD undef = .pointer (some ⟨wr.heap.size, 1, none⟩) := slot_is' u1e
            have c0_ := hp.cell 1 rfl
            have HP := Lib.hid hp
            clear hp
            go_simp
            refine hK.out _ _ ?_ (Ext.refl _) (fun h => absurd h (by simp))
            exact rfl
          · refine RStep.op rfl rfl (fun ac wk hp K hK => ?_)
            have u0e := hp.get 0 (by decide +kernel) rfl
            have t57_ : ac.tmps[57]?.getD undef = .int .i64 0 := slot_is' u0e
            have u2e := hp.get 2 (by decide +kernel) rfl
            have t59_ : ac.tmps[59]?.getD undef = .int .i64 0 := slot_is' u2e
            have HP := Lib.hid hp
            clear hp
            go_simp
            refine hK.out _ _ ?_ (Ext.refl _) (fun h => absurd h (by simp))
            exact (by first | rfl | (apply congrArg Value.bool; simp; done) | (apply congrArg Value.bool; simp; omega) | (simp [*]; done))
          · refine RStep.op rfl rfl (fun ac wk hp K hK => ?_)
            have u3e := hp.get 3 (by decide +kernel) rfl
            have t60_ : ac.tmps[60]?.getD undef = .bool false := slot_is' u3e
            have HP := Lib.hid hp
            clear hp
            go_simp
            refine hK.out _ _ ?_ (Ext.refl _) (fun h => absurd h (by simp))
            exact rfl
          · refine RStep.yes 4 false rfl rfl (by decide +kernel) rfl rfl (fun ac wk hp K hK => ?_)
            have t4_ : ac.tmps[4]?.getD undef = .int .i64 0 := hp.slot 4 rfl rfl
            have HP := Lib.hid hp
            clear hp
            go_simp
            refine hK.out _ _ ?_ (Ext.refl _) (fun h => absurd h (by simp))
            exact rfl
          · refine RStep.yes 4 false rfl rfl (by decide +kernel) rfl rfl (fun ac wk hp K hK => ?_)
            have u5e := hp.get 5 (by decide +kernel) rfl
            have t62_ : ac.tmps[62]?.getD undef = .int .i64 0 := slot_is' u5e
            have HP := Lib.hid hp
            clear hp
            go_simp
            refine hK.out _ _ ?_ (Ext.refl _) (fun h => absurd h (by simp))
            exact (by first | rfl | (apply congrArg Value.bool; simp; done) | (apply congrArg Value.bool; simp; omega) | (simp [*]; done))
          · refine RStep.yes 4 false rfl rfl (by decide +kernel) rfl rfl (fun ac wk hp K hK => ?_)
            have u6e := hp.get 6 (by decide +kernel) rfl
            have t63_ : ac.tmps[63]?.getD undef = .bool true := slot_is' u6e
            have HP := Lib.hid hp
            clear hp
            go_simp
            refine hK.out _ _ ?_ (Ext.refl _) (fun h => absurd h (by simp))
            exact rfl
          · refine RStep.yes 7 true rfl rfl (by decide +kernel) rfl rfl (fun ac wk hp K hK => ?_)
            have t3_ : ac.tmps[3]?.getD undef = .pointer (some ⟨w2.heap.size, 0, none⟩) := hp.slot 3 rfl rfl
            have c0_ := hp.cell 2 rfl
            have c1_ := hp.cell 3 rfl
            have c2_ := hp.cell 4 rfl
            have HP := Lib.hid hp
            clear hp
            go_simp
            refine hK.out _ _ ?_ (Ext.refl _) (fun h => absurd h (by simp))
            exact ⟨_, _, _, _, _, _, _, _, _, rfl, (e51.gr (y3.gr.trans HP.out.gr)), ((o51.gr (y3.gr.trans HP.out.gr)).mono e1_.size)⟩
          · refine RStep.yes 7 true rfl rfl (by decide +kernel) rfl rfl (fun ac wk hp K hK => ?_)
            obtain ⟨u8b, u8p, u8n, u8c, u8q, u8k, u8d, u8m, u8l, u8e, u8i, u8o⟩ := hp.get 8 (by decide +kernel) rfl
            have t65_ : ac.tmps[65]?.getD undef = .agg #[.bool u8b, .slice u8p u8n u8c, .slice u8q u8k u8d] := slot_is' u8e
            have HP := Lib.hid hp
            clear hp
            go_simp
            refine (rshow_is (u8i.inR (k := 100) HLQ.out) (by decide) s HSH.out).mono ?_
            rintro e wk' ⟨rfl, ix⟩
            refine hK.out _ _ ?_ ix (fun h => absurd h (by simp))
            exact rfl
          · refine RStep.yes 7 true rfl rfl (by decide +kernel) rfl rfl (fun ac wk hp K hK => ?_)
            have t2_ : ac.tmps[2]?.getD undef = .pointer (some ⟨wr.heap.size, 0, none⟩) := hp.slot 2 rfl rfl
            have HP := Lib.hid hp
            clear hp
            go_simp
            refine hK.out _ _ ?_ (Ext.refl _) (fun h => absurd h (by simp))
            exact rfl
          · refine RStep.yes 7 true rfl rfl (by decide +kernel) rfl rfl (fun ac wk hp K hK => ?_)
            have u10e := hp.get 10 (by decide +kernel) rfl
            have t67_ : ac.tmps[67]?.getD undef = .pointer (some ⟨wr.heap.size, 0, none⟩) := slot_is' u10e
            have c0_ := hp.cell 0 rfl
            have HP := Lib.hid hp
            clear hp
            go_simp
            refine hK.out _ _ ?_ (Ext.refl _) (fun h => absurd h (by simp))
            exact rfl
          · refine RStep.yes 7 true rfl rfl (by decide +kernel) rfl rfl (fun ac wk hp K hK => ?_)
            have u9e := hp.get 9 (by decide +kernel) rfl
            have t66_ : ac.tmps[66]?.getD undef = .string s := slot_is' u9e
            have u11e := hp.get 11 (by decide +kernel) rfl
            have t68_ : ac.tmps[68]?.getD undef = .string s := slot_is' u11e
            have HP := Lib.hid hp
            clear hp
            go_simp
            refine hK.out _ _ ?_ (Ext.refl _) (fun h => absurd h (by simp))
            exact rfl
          · refine RStep.yes 4 false rfl rfl (by decide +kernel) rfl rfl (fun ac wk hp K hK => ?_)
            have u7e := hp.get 7 (by decide +kernel) rfl
            have t64_ : ac.tmps[64]?.getD undef = .bool true := slot_is' u7e
            have u12e := hp.get 12 (by decide +kernel) rfl
            have t69_ : ac.tmps[69]?.getD undef = .bool false := slot_is' u12e
            have HP := Lib.hid hp
            clear hp
            go_simp
            refine hK.out _ _ ?_ (Ext.refl _) (fun h => absurd h (by simp))
            exact rfl
          · refine RStep.op rfl rfl (fun ac wk hp K hK => ?_)
            have u4e := hp.get 4 (by decide +kernel) rfl
            have t61_ : ac.tmps[61]?.getD undef = .bool false := slot_is' u4e
            have u13e := hp.get 13 (by decide +kernel) rfl
            have t70_ : ac.tmps[70]?.getD undef = .bool false := slot_is' u13e
            have HP := Lib.hid hp
            clear hp
            go_simp
            refine hK.out _ _ ?_ (Ext.refl _) (fun h => absurd h (by simp))
            exact rfl
          · refine RStep.op rfl rfl (fun ac wk hp K hK => ?_)
            have u14e := hp.get 14 (by decide +kernel) rfl
            have t71_ : ac.tmps[71]?.getD undef = .bool false := slot_is' u14e
            have HP := Lib.hid hp
            clear hp
            go_simp
            refine hK.out _ _ ?_ (Ext.refl _) (fun h => absurd h (by simp))
            exact rfl
          · refine RStep.yes 15 false rfl rfl (by decide +kernel) rfl rfl (fun ac wk hp K hK => ?_)
            have t4_ : ac.tmps[4]?.getD undef = .int .i64 0 := hp.slot 4 rfl rfl
            have HP := Lib.hid hp
            clear hp
            go_simp
            refine hK.out _ _ ?_ (Ext.refl _) (fun h => absurd h (by simp))
            exact rfl
          · refine RStep.yes 15 false rfl rfl (by decide +kernel) rfl rfl (fun ac wk hp K hK => ?_)
            have u16e := hp.get 16 (by decide +kernel) rfl
            have t73_ : ac.tmps[73]?.getD undef = .int .i64 0 := slot_is' u16e
            have HP := Lib.hid hp
            clear hp
            go_simp
            refine hK.out _ _ ?_ (Ext.refl _) (fun h => absurd h (by simp))
            exact (by first | rfl | (apply congrArg Value.bool; simp; done) | (apply congrArg Value.bool; simp; omega) | (simp [*]; done))
          · refine RStep.yes 15 false rfl rfl (by decide +kernel) rfl rfl (fun ac wk hp K hK => ?_)
            have u17e := hp.get 17 (by decide +kernel) rfl
            have t74_ : ac.tmps[74]?.getD undef = .bool false := slot_is' u17e
            have HP := Lib.hid hp
            clear hp
            go_simp
            refine hK.out _ _ ?_ (Ext.refl _) (fun h => absurd h (by simp))
            exact rfl
          · exact RStep.no 18 true rfl rfl (by decide +kernel) rfl (.inl rfl) rfl rfl
          · exact RStep.no 18 true rfl rfl (by decide +kernel) rfl (.inl rfl) rfl rfl
          · exact RStep.no 18 true rfl rfl (by decide +kernel) rfl (.inl rfl) rfl rfl
          · exact RStep.no 18 true rfl rfl (by decide +kernel) rfl (.inl rfl) rfl rfl
          · refine RStep.yes 15 false rfl rfl (by decide +kernel) rfl rfl (fun ac wk hp K hK => ?_)
            have u18e := hp.get 18 (by decide +kernel) rfl
            have t75_ : ac.tmps[75]?.getD undef = .bool false := slot_is' u18e
            have u22e := hp.get 22 (by decide +kernel) rfl
            have t79_ : ac.tmps[79]?.getD undef = undef := slot_is' u22e
            have HP := Lib.hid hp
            clear hp
            go_simp
            refine hK.out _ _ ?_ (Ext.refl _) (fun h => absurd h (by simp))
            exact rfl
          · refine RStep.op rfl rfl (fun ac wk hp K hK => ?_)
            have u15e := hp.get 15 (by decide +kernel) rfl
            have t72_ : ac.tmps[72]?.getD undef = .bool false := slot_is' u15e
            have u23e := hp.get 23 (by decide +kernel) rfl
            have t80_ : ac.tmps[80]?.getD undef = .bool false := slot_is' u23e
            have HP := Lib.hid hp
            clear hp
            go_simp
            refine hK.out _ _ ?_ (Ext.refl _) (fun h => absurd h (by simp))
            exact rfl
        case he =>
          intro ac v4 hM
          have y51_0e := hM.post 0 rfl rfl
          have y51_1e := hM.post 1 rfl rfl
          have y51_2e := hM.post 2 rfl rfl
          have y51_3e := hM.post 3 rfl rfl
          have y51_4e := hM.post 4 rfl rfl
          have y51_5e := hM.post 5 rfl rfl
          have y51_6e := hM.post 6 rfl rfl
          have y51_7e := hM.post 7 rfl rfl
          obtain ⟨y51_8b, y51_8p, y51_8n, y51_8c, y51_8q, y51_8k, y51_8d, y51_8m, y51_8l, y51_8e, y51_8i, y51_8o⟩ := hM.post 8 rfl rfl
          have y51_9e := hM.post 9 rfl rfl
          have y51_10e := hM.post 10 rfl rfl
          have y51_11e := hM.post 11 rfl rfl
          have y51_12e := hM.post 12 rfl rfl
          have y51_13e := hM.post 13 rfl rfl
          have y51_14e := hM.post 14 rfl rfl
          have y51_15e := hM.post 15 rfl rfl
          have y51_16e := hM.post 16 rfl rfl
          have y51_17e := hM.post 17 rfl rfl
          have y51_18e := hM.post 18 rfl rfl
          have y51_19e := hM.post 19 rfl rfl
          have y51_20e := hM.post 20 rfl rfl
          have y51_21e := hM.post 21 rfl rfl
          have y51_22e := hM.post 22 rfl rfl
          have y51_23e := hM.post 23 rfl rfl
          have y51_24e := hM.post 24 rfl rfl
          have b0_0 : Hid (At (wr.heap.size) 0 (.string s) v4) := Lib.hid (hM.keep.at 0 rfl)
          have b0_1 : Hid (At (wr.heap.size) 1 (.int .i64 0) v4) := Lib.hid (hM.keep.at 1 rfl)
          have b1_0 : Hid (At (w2.heap.size) 0 (.bool sb51) v4) := Lib.hid (hM.keep.at 2 rfl)
          have b1_1 : Hid (At (w2.heap.size) 1 (.slice sp51 sl51 sc51) v4) := Lib.hid (hM.keep.at 3 rfl)
          have b1_2 : Hid (At (w2.heap.size) 2 (.slice tp51 tl51 tc51) v4) := Lib.hid (hM.keep.at 4 rfl)
          have gv4 : Gr v3 v4 := hM.gr
          have e4_ : Ext W4 v4 := Ext.below e3_ hM.blw
          have z0_ : sl ac 57 = .int .i64 0 := y51_0e
          have z1_ : sl ac 58 = .pointer (some ⟨wr.heap.size, 1, none⟩) := y51_1e
          have z2_ : sl ac 59 = .int .i64 0 := y51_2e
          have z3_ : sl ac 60 = .bool false := y51_3e
          have z4_ : sl ac 61 = .bool false := y51_4e
          have z5_ : sl ac 62 = .int .i64 0 := y51_5e
          have z6_ : sl ac 63 = .bool true := y51_6e
          have z7_ : sl ac 64 = .bool true := y51_7e
          have z8_ : sl ac 65 = .agg #[.bool y51_8b, .slice y51_8p y51_8n y51_8c, .slice y51_8q y51_8k y51_8d] := y51_8e
          have z9_ : sl ac 66 = .string s := y51_9e
          have z10_ : sl ac 67 = .pointer (some ⟨wr.heap.size, 0, none⟩) := y51_10e
          have z11_ : sl ac 68 = .string s := y51_11e
          have z12_ : sl ac 69 = .bool false := y51_12e
          have z13_ : sl ac 70 = .bool false := y51_13e
          have z14_ : sl ac 71 = .bool false := y51_14e
          have z15_ : sl ac 72 = .bool false := y51_15e
          have z16_ : sl ac 73 = .int .i64 0 := y51_16e
          have z17_ : sl ac 74 = .bool false := y51_17e
          have z18_ : sl ac 75 = .bool false := y51_18e
          have z19_ : sl ac 76 = undef := y51_19e
          have z20_ : sl ac 77 = undef := y51_20e
          have z21_ : sl ac 78 = undef := y51_21e
          have z22_ : sl ac 79 = undef := y51_22e
          have z23_ : sl ac 80 = .bool false := y51_23e
          have z24_ : sl ac 81 = .bool false := y51_24e
          rw [hM.ag.lay]
          simp only [lay, List.foldl_cons, List.foldl_nil, List.setIfInBounds_toArray, List.set_cons_zero, List.set_cons_succ, z0_, z1_, z2_, z3_, z4_, z5_, z6_, z7_, z8_, z9_, z10_, z11_, z12_, z13_, z14_, z15_, z16_, z17_, z18_, z19_, z20_, z21_, z22_, z23_, z24_]
          clear hM hkeep51 hob51 hne51 z0_ z1_ z2_ z3_ z4_ z5_ z6_ z7_ z8_ z9_ z10_ z11_ z12_ z13_ z14_ z15_ z16_ z17_ z18_ z19_ z20_ z21_ z22_ z23_ z24_ y51_0e y51_1e y51_2e y51_3e y51_4e y51_5e y51_6e y51_7e y51_8e y51_9e y51_10e y51_11e y51_12e y51_13e y51_14e y51_15e y51_16e y51_17e y51_18e y51_19e y51_20e y51_21e y51_22e y51_23e y51_24e
          go_wp2_with fail
          exact ⟨⟨i + 1, by first | rfl | go_num, LT.out, e4_⟩, by simp [intOf]; have := LT.out; omega⟩
      · have HE : Hid (((errQ s.data.toList : Nat) : Int) = (c : Int)) := by show _ = _; rw [k4]
        have hc0 : (c : Int) ≠ 0 := by omega
        have HC := Lib.hid hc0
        have hcb : ((c : Int) != 0) = true := by simpa using hc0
        have hcd : ((c : Int) == 0) = false := by simpa using hc0
        have hcc : ((c : Int) != (c : Int)) = false := by simp
        clear k3 k4 hc
        go_wp2_with fail
        obtain ⟨v1, hv1⟩ : ∃ W, W = (wr.alloc (.cells #[.string s, .int .i64 (c : Int)] 50)) := ⟨_, rfl⟩
        have y1 : Ext wr v1 := by rw [hv1]; exact ((Ext.refl _).alloc _)
        have b0_0 : Hid (At (wr.heap.size) 0 (.string s) v1) := by rw [hv1]; exact At.ext (At.n0 (by rfl)) (Ext.refl _)
        have b0_1 : Hid (At (wr.heap.size) 1 (.int .i64 (c : Int)) v1) := by rw [hv1]; exact At.ext (At.n0 (by rfl)) (Ext.refl _)
        have u0 : Hid (wr.heap.size < v1.heap.size) := b0_0.out.2
        have e1_ : Ext W4 v1 := Ext.trans XX.out y1
        rw [← hv1]
        clear hv1
        refine (rread_err s _ HSZ.out (c : Int) HE.out HC.out).mono ?_
        rintro e w2 ⟨rfl, x2⟩
        have e2_ : Ext W4 w2 := Ext.trans e1_ x2
        go_wp2_with fail
        obtain ⟨v3, hv3⟩ : ∃ W, W = (w2.alloc (.cells #[.bool false, .slice none 0 0, .slice none 0 0] 36)) := ⟨_, rfl⟩
        have y3 : Ext w2 v3 := by rw [hv3]; exact ((Ext.refl _).alloc _)
        have b1_0 : Hid (At (w2.heap.size) 0 (.bool false) v3) := by rw [hv3]; exact At.ext (At.n0 (by rfl)) (Ext.refl _)
        have b1_1 : Hid (At (w2.heap.size) 1 (.slice none 0 0) v3) := by rw [hv3]; exact At.ext (At.n0 (by rfl)) (Ext.refl _)
        have b1_2 : Hid (At (w2.heap.size) 2 (.slice none 0 0) v3) := by rw [hv3]; exact At.ext (At.n0 (by rfl)) (Ext.refl _)
        have k1 : Hid (Bx 3 (w2.heap.size) v3) := by rw [hv3]; exact Bx.gr (Bx.n0 3 ⟨rfl, by decide⟩ (by decide) noI_s3) (Ext.gr (Ext.refl _))
        have u1 : Hid (w2.heap.size < v3.heap.size) := b1_0.out.2
        have e3_ : Ext W4 v3 := Ext.trans e2_ y3
        rw [← hv3]
        clear hv3
        have hkeep51 : AllAt' ([(wr.heap.size, 0, .string s), (wr.heap.size, 1, .int .i64 (c : Int)), (w2.heap.size, 0, .bool false), (w2.heap.size, 1, .slice none 0 0), (w2.heap.size, 2, .slice none 0 0)] : List (Nat × Nat × Value)) v3 := AllAt'.cons (b0_0.out.ext (x2.trans y3)) (AllAt'.cons (b0_1.out.ext (x2.trans y3)) (AllAt'.cons b1_0.out (AllAt'.cons b1_1.out (AllAt'.cons b1_2.out (AllAt'.nil _)))))
        have hob51 : ObOk W4.heap.size v3 (([(wr.heap.size, 0, .string s), (wr.heap.size, 1, .int .i64 (c : Int)), (w2.heap.size, 0, .bool false), (w2.heap.size, 1, .slice none 0 0), (w2.heap.size, 2, .slice none 0 0)] : List (Nat × Nat × Value)).map (·.1)) ([] : List (Nat × List (Nat × Value))) := trivial
        have hne51 : AllNe (([] : List (Nat × List (Nat × Value))).map (·.1)) := trivial
        (try simp only [List.append_eq, List.cons_append, List.nil_append])
        refine wp_region_gen ⟨[57, 58, 59, 60, 61, 62, 63, 64, 65, 66, 67, 68, 69, 70, 71, 72, 73, 74, 75, 76, 77, 78, 79, 80, 81], fun i => false, fun i => ([none, none, none, none, none, none, none, none, none, none, none, none, none, none, none, none, none, none, none, none, none, none, none, none, none] : List (Option (BoxRef × Nat))).getD i none, fun i => ([Sg.val (.int .i64 (c : Int)), Sg.val (.pointer (some ⟨wr.heap.size, 1, none⟩)), Sg.val (.int .i64 (c : Int)), Sg.val (.bool false), Sg.val (.bool false), Sg.val (.int .i64 (c : Int)), Sg.val (.bool false), Sg.val (.bool false), Sg.val undef, Sg.val undef, Sg.val undef, Sg.val undef, Sg.val undef, Sg.val (.bool false), Sg.val (.bool false), Sg.val (.bool false), Sg.val (.int .i64 (c : Int)), Sg.val (.bool true), Sg.val (.bool true), Sg.val (.agg #[.bool false, .slice none 0 0, .slice none 0 0]), Sg.val (.agg #[.bool false, .slice none 0 0, .slice none 0 0]), Sg.val (.bool true), Sg.val (.bool false), Sg.val (.bool false), Sg.val (.bool false)] : List Sg).getD i Sg.any, [(wr.heap.size, 0, .string s), (wr.heap.size, 1, .int .i64 (c : Int)), (w2.heap.size, 0, .bool false), (w2.heap.size, 1, .slice none 0 0), (w2.heap.size, 2, .slice none 0 0)], []⟩ W4.heap.size (by kernel_rfl) (by kernel_rfl) e3_.size ?hfr hkeep51 hob51 hne51 ?hs ?he
        case hfr =>
          intro i v wk hi hst hv
          exact absurd hi (by simp)
        case hs =>
          refine ⟨?_, ?_, ?_, ?_, ?_, ?_, ?_, ?_, ?_, ?_, ?_, ?_, ?_, ?_, ?_, ?_, ?_, ?_, ?_, ?_, ?_, ?_, ?_, ?_, ?_, trivial⟩
          · refine RStep.op rfl rfl (fun ac wk hp K hK => ?_)
            have t4_ : ac.tmps[4]?.getD undef = .int .i64 (c : Int) := hp.slot 4 rfl rfl
            have HP := Lib.hid hp
            clear hp
            go_simp
            refine hK.out _ _ ?_ (Ext.refl _) (fun h => absurd h (by simp))
            exact rfl
          · refine RStep.op rfl rfl (fun ac wk hp K hK => ?_)
            have t2_ : ac.tmps[2]?.getD undef = .pointer (some ⟨wr.heap.size, 0, none⟩) := hp.slot 2 rfl rfl
            have HP := Lib.hid hp
            clear hp
            go_simp
            refine hK.out _ _ ?_ (Ext.refl _) (fun h => absurd h (by simp))
            exact rfl
          · refine RStep.op rfl rfl (fun ac wk hp K hK => ?_)
            have u1e := hp.get 1 (by decide +kernel) rfl
            have t58_ : ac.tmps[58]?.getD undef = .pointer (some ⟨wr.heap.size, 1, none⟩) := slot_is' u1e
            have c0_ := hp.cell 1 rfl
            have HP := Lib.hid hp
            clear hp
            go_simp
            refine hK.out _ _ ?_ (Ext.refl _) (fun h => absurd h (by simp))
            exact rfl
          · refine RStep.op rfl rfl (fun ac wk hp K hK => ?_)
            have u0e := hp.get 0 (by decide +kernel) rfl
            have t57_ : ac.tmps[57]?.getD undef = .int .i64 (c : Int) := slot_is' u0e
            have u2e := hp.get 2 (by decide +kernel) rfl
            have t59_ : ac.tmps[59]?.getD undef = .int .i64 (c : Int) := slot_is' u2e
            have HP := Lib.hid hp
            clear hp
            go_simp
            refine hK.out _ _ ?_ (Ext.refl _) (fun h => absurd h (by simp))
            exact (by first | rfl | (apply congrArg Value.bool; simp; done) | (apply congrArg Value.bool; simp; omega) | (simp [*]; done))
          · refine RStep.op rfl rfl (fun ac wk hp K hK => ?_)
            have u3e := hp.get 3 (by decide +kernel) rfl
            have t60_ : ac.tmps[60]?.getD undef = .bool false := slot_is' u3e
            have HP := Lib.hid hp
            clear hp
            go_simp
            refine hK.out _ _ ?_ (Ext.refl _) (fun h => absurd h (by simp))
            exact rfl
          · refine RStep.yes 4 false rfl rfl (by decide +kernel) rfl rfl (fun ac wk hp K hK => ?_)
            have t4_ : ac.tmps[4]?.getD undef = .int .i64 (c : Int) := hp.slot 4 rfl rfl
            have HP := Lib.hid hp
            clear hp
            go_simp
            refine hK.out _ _ ?_ (Ext.refl _) (fun h => absurd h (by simp))
            exact rfl
          · refine RStep.yes 4 false rfl rfl (by decide +kernel) rfl rfl (fun ac wk hp K hK => ?_)
            have u5e := hp.get 5 (by decide +kernel) rfl
            have t62_ : ac.tmps[62]?.getD undef = .int .i64 (c : Int) := slot_is' u5e
            have HP := Lib.hid hp
            clear hp
            go_simp
            refine hK.out _ _ ?_ (Ext.refl _) (fun h => absurd h (by simp))
            exact (by first | rfl | (apply congrArg Value.bool; simp; done) | (apply congrArg Value.bool; simp; omega) | (simp [*]; done))
          · refine RStep.yes 4 false rfl rfl (by decide +kernel) rfl rfl (fun ac wk hp K hK => ?_)
            have u6e := hp.get 6 (by decide +kernel) rfl
            have t63_ : ac.tmps[63]?.getD undef = .bool false := slot_is' u6e
            have HP := Lib.hid hp
            clear hp
            go_simp
            refine hK.out _ _ ?_ (Ext.refl _) (fun h => absurd h (by simp))
            exact rfl
          · exact RStep.no 7 true rfl rfl (by decide +kernel) rfl (.inl rfl) rfl rfl
          · exact RStep.no 7 true rfl rfl (by decide +kernel) rfl (.inl rfl) rfl rfl
          · exact RStep.no 7 true rfl rfl (by decide +kernel) rfl (.inl rfl) rfl rfl
          · exact RStep.no 7 true rfl rfl (by decide +kernel) rfl (.inl rfl) rfl rfl
          · exact RStep.no 7 true rfl rfl (by decide +kernel) rfl (.inl rfl) rfl rfl
          · refine RStep.yes 4 false rfl rfl (by decide +kernel) rfl rfl (fun ac wk hp K hK => ?_)
            have u7e := hp.get 7 (by decide +kernel) rfl
            have t64_ : ac.tmps[64]?.getD undef = .bool false := slot_is' u7e
            have u12e := hp.get 12 (by decide +kernel) rfl
            have t69_ : ac.tmps[69]?.getD undef = undef := slot_is' u12e
            have HP := Lib.hid hp
            clear hp
            go_simp
            refine hK.out _ _ ?_ (Ext.refl _) (fun h => absurd h (by simp))
            exact rfl
          · refine RStep.op rfl rfl (fun ac wk hp K hK => ?_)
            have u4e := hp.get 4 (by decide +kernel) rfl
            have t61_ : ac.tmps[61]?.getD undef = .bool false := slot_is' u4e
            have u13e := hp.get 13 (by decide +kernel) rfl
            have t70_ : ac.tmps[70]?.getD undef = .bool false := slot_is' u13e
            have HP := Lib.hid hp
            clear hp
            go_simp
            refine hK.out _ _ ?_ (Ext.refl _) (fun h => absurd h (by simp))
            exact rfl
          · refine RStep.op rfl rfl (fun ac wk hp K hK => ?_)
            have u14e := hp.get 14 (by decide +kernel) rfl
            have t71_ : ac.tmps[71]?.getD undef = .bool false := slot_is' u14e
            have HP := Lib.hid hp
            clear hp
            go_simp
            refine hK.out _ _ ?_ (Ext.refl _) (fun h => absurd h (by simp))
            exact rfl
          · refine RStep.yes 15 false rfl rfl (by decide +kernel) rfl rfl (fun ac wk hp K hK => ?_)
            have t4_ : ac.tmps[4]?.getD undef = .int .i64 (c : Int) := hp.slot 4 rfl rfl
            have HP := Lib.hid hp
            clear hp
            go_simp
            refine hK.out _ _ ?_ (Ext.refl _) (fun h => absurd h (by simp))
            exact rfl
          · refine RStep.yes 15 false rfl rfl (by decide +kernel) rfl rfl (fun ac wk hp K hK => ?_)
            have u16e := hp.get 16 (by decide +kernel) rfl
            have t73_ : ac.tmps[73]?.getD undef = .int .i64 (c : Int) := slot_is' u16e
            have HP := Lib.hid hp
            clear hp
            go_simp
            refine hK.out _ _ ?_ (Ext.refl _) (fun h => absurd h (by simp))
            exact (by first | rfl | (apply congrArg Value.bool; simp; done) | (apply congrArg Value.bool; simp; omega) | (simp [*]; done))
          · refine RStep.yes 15 false rfl rfl (by decide +kernel) rfl rfl (fun ac wk hp K hK => ?_)
            have u17e := hp.get 17 (by decide +kernel) rfl
            have t74_ : ac.tmps[74]?.getD undef = .bool true := slot_is' u17e
            have HP := Lib.hid hp
            clear hp
            go_simp
            refine hK.out _ _ ?_ (Ext.refl _) (fun h => absurd h (by simp))
            exact rfl
          · refine RStep.yes 18 true rfl rfl (by decide +kernel) rfl rfl (fun ac wk hp K hK => ?_)
            have t3_ : ac.tmps[3]?.getD undef = .pointer (some ⟨w2.heap.size, 0, none⟩) := hp.slot 3 rfl rfl
            have c0_ := hp.cell 2 rfl
            have c1_ := hp.cell 3 rfl
            have c2_ := hp.cell 4 rfl
            have HP := Lib.hid hp
            clear hp
            go_simp
            refine hK.out _ _ ?_ (Ext.refl _) (fun h => absurd h (by simp))
            exact rfl
          · refine RStep.yes 18 true rfl rfl (by decide +kernel) rfl rfl (fun ac wk hp K hK => ?_)
            have HP := Lib.hid hp
            clear hp
            go_simp
            refine hK.out _ _ ?_ (Ext.refl _) (fun h => absurd h (by simp))
            exact rfl
          · refine RStep.yes 18 true rfl rfl (by decide +kernel) rfl rfl (fun ac wk hp K hK => ?_)
            have u19e := hp.get 19 (by decide +kernel) rfl
            have t76_ : ac.tmps[76]?.getD undef = .agg #[.bool false, .slice none 0 0, .slice none 0 0] := slot_is' u19e
            have u20e := hp.get 20 (by decide +kernel) rfl
            have t77_ : ac.tmps[77]?.getD undef = .agg #[.bool false, .slice none 0 0, .slice none 0 0] := slot_is' u20e
            have HP := Lib.hid hp
            clear hp
            go_simp
            refine (is_raw (Limbs.nil _) (Limbs.nil _) (Limbs.nil _) (Limbs.nil _) false false true (by simp)).mono ?_
            rintro e wk' ⟨rfl, ix⟩
            refine hK.out _ _ ?_ ix (fun h => absurd h (by simp))
            exact rfl
          · refine RStep.yes 18 true rfl rfl (by decide +kernel) rfl rfl (fun ac wk hp K hK => ?_)
            have u21e := hp.get 21 (by decide +kernel) rfl
            have t78_ : ac.tmps[78]?.getD undef = .bool true := slot_is' u21e
            have HP := Lib.hid hp
            clear hp
            go_simp
            refine hK.out _ _ ?_ (Ext.refl _) (fun h => absurd h (by simp))
            exact rfl
          · refine RStep.yes 15 false rfl rfl (by decide +kernel) rfl rfl (fun ac wk hp K hK => ?_)
            have u18e := hp.get 18 (by decide +kernel) rfl
            have t75_ : ac.tmps[75]?.getD undef = .bool true := slot_is' u18e
            have u22e := hp.get 22 (by decide +kernel) rfl
            have t79_ : ac.tmps[79]?.getD undef = .bool false := slot_is' u22e
            have HP := Lib.hid hp
            clear hp
            go_simp
            refine hK.out _ _ ?_ (Ext.refl _) (fun h => absurd h (by simp))
            exact rfl
          · refine RStep.op rfl rfl (fun ac wk hp K hK => ?_)
            have u15e := hp.get 15 (by decide +kernel) rfl
            have t72_ : ac.tmps[72]?.getD undef = .bool false := slot_is' u15e
            have u23e := hp.get 23 (by decide +kernel) rfl
            have t80_ : ac.tmps[80]?.getD undef = .bool false := slot_is' u23e
            have HP := Lib.hid hp
            clear hp
            go_simp
            refine hK.out _ _ ?_ (Ext.refl _) (fun h => absurd h (by simp))
            exact rfl
        case he =>
          intro ac v4 hM
          have y51_0e := hM.post 0 rfl rfl
          have y51_1e := hM.post 1 rfl rfl
          have y51_2e := hM.post 2 rfl rfl
          have y51_3e := hM.post 3 rfl rfl
          have y51_4e := hM.post 4 rfl rfl
          have y51_5e := hM.post 5 rfl rfl
          have y51_6e := hM.post 6 rfl rfl
          have y51_7e := hM.post 7 rfl rfl
          have y51_8e := hM.post 8 rfl rfl
          have y51_9e := hM.post 9 rfl rfl
          have y51_10e := hM.post 10 rfl rfl
          have y51_11e := hM.post 11 rfl rfl
          have y51_12e := hM.post 12 rfl rfl
          have y51_13e := hM.post 13 rfl rfl
          have y51_14e := hM.post 14 rfl rfl
          have y51_15e := hM.post 15 rfl rfl
          have y51_16e := hM.post 16 rfl rfl
          have y51_17e := hM.post 17 rfl rfl
          have y51_18e := hM.post 18 rfl rfl
          have y51_19e := hM.post 19 rfl rfl
          have y51_20e := hM.post 20 rfl rfl
          have y51_21e := hM.post 21 rfl rfl
          have y51_22e := hM.post 22 rfl rfl
          have y51_23e := hM.post 23 rfl rfl
          have y51_24e := hM.post 24 rfl rfl
          have b0_0 : Hid (At (wr.heap.size) 0 (.string s) v4) := Lib.hid (hM.keep.at 0 rfl)
          have b0_1 : Hid (At (wr.heap.size) 1 (.int .i64 (c : Int)) v4) := Lib.hid (hM.keep.at 1 rfl)
          have b1_0 : Hid (At (w2.heap.size) 0 (.bool false) v4) := Lib.hid (hM.keep.at 2 rfl)
          have b1_1 : Hid (At (w2.heap.size) 1 (.slice none 0 0) v4) := Lib.hid (hM.keep.at 3 rfl)
          have b1_2 : Hid (At (w2.heap.size) 2 (.slice none 0 0) v4) := Lib.hid (hM.keep.at 4 rfl)
          have gv4 : Gr v3 v4 := hM.gr
          have e4_ : Ext W4 v4 := Ext.below e3_ hM.blw
          have z0_ : sl ac 57 = .int .i64 (c : Int) := y51_0e
          have z1_ : sl ac 58 = .pointer (some ⟨wr.heap.size, 1, none⟩) := y51_1e
          have z2_ : sl ac 59 = .int .i64 (c : Int) := y51_2e
          have z3_ : sl ac 60 = .bool false := y51_3e
          have z4_ : sl ac 61 = .bool false := y51_4e
          have z5_ : sl ac 62 = .int .i64 (c : Int) := y51_5e
          have z6_ : sl ac 63 = .bool false := y51_6e
          have z7_ : sl ac 64 = .bool false := y51_7e
          have z8_ : sl ac 65 = undef := y51_8e
          have z9_ : sl ac 66 = undef := y51_9e
          have z10_ : sl ac 67 = undef := y51_10e
          have z11_ : sl ac 68 = undef := y51_11e
          have z12_ : sl ac 69 = undef := y51_12e
          have z13_ : sl ac 70 = .bool false := y51_13e
          have z14_ : sl ac 71 = .bool false := y51_14e
          have z15_ : sl ac 72 = .bool false := y51_15e
          have z16_ : sl ac 73 = .int .i64 (c : Int) := y51_16e
          have z17_ : sl ac 74 = .bool true := y51_17e
          have z18_ : sl ac 75 = .bool true := y51_18e
          have z19_ : sl ac 76 = .agg #[.bool false, .slice none 0 0, .slice none 0 0] := y51_19e
          have z20_ : sl ac 77 = .agg #[.bool false, .slice none 0 0, .slice none 0 0] := y51_20e
          have z21_ : sl ac 78 = .bool true := y51_21e
          have z22_ : sl ac 79 = .bool false := y51_22e
          have z23_ : sl ac 80 = .bool false := y51_23e
          have z24_ : sl ac 81 = .bool false := y51_24e
          rw [hM.ag.lay]
          simp only [lay, List.foldl_cons, List.foldl_nil, List.setIfInBounds_toArray, List.set_cons_zero, List.set_cons_succ, z0_, z1_, z2_, z3_, z4_, z5_, z6_, z7_, z8_, z9_, z10_, z11_, z12_, z13_, z14_, z15_, z16_, z17_, z18_, z19_, z20_, z21_, z22_, z23_, z24_]
          clear hM hkeep51 hob51 hne51 z0_ z1_ z2_ z3_ z4_ z5_ z6_ z7_ z8_ z9_ z10_ z11_ z12_ z13_ z14_ z15_ z16_ z17_ z18_ z19_ z20_ z21_ z22_ z23_ z24_ y51_0e y51_1e y51_2e y51_3e y51_4e y51_5e y51_6e y51_7e y51_8e y51_9e y51_10e y51_11e y51_12e y51_13e y51_14e y51_15e y51_16e y51_17e y51_18e y51_19e y51_20e y51_21e y51_22e y51_23e y51_24e
          go_wp2_with fail
          exact ⟨⟨i + 1, by first | rfl | go_num, LT.out, e4_⟩, by simp [intOf]; have := LT.out; omega⟩
    · have t3 : (16 : Int) ≤ (i : Int) := by omega
      clear hi hi2
      go_wp2_with fail
      refine (lover_is (q := (((-9223372036854775808) : Int) : Rat)) _ (-9223372036854775808) 1 (by decide) (by decide) (by decide) (by decide) (by decide) (by decide +kernel)).mono ?_
      rintro e w1 ⟨sb2, sv2, su2, sm2, sd2, rfl, e2, o2, x1⟩
      have e1_ : Ext W4 w1 := Ext.trans XX.out x1
      obtain ⟨sp2, sl2, sc2, tp2, tl2, tc2, rfl, rfl⟩ := e2.slice
      go_wp2_with fail
      obtain ⟨v2, hv2⟩ : ∃ W, W = (w1.alloc (.cells #[.bool sb2, .slice sp2 sl2 sc2, .slice tp2 tl2 tc2] 36)) := ⟨_, rfl⟩
      have y2 : Ext w1 v2 := by rw [hv2]; exact ((Ext.refl _).alloc _)
      have b0_0 : Hid (At (w1.heap.size) 0 (.bool sb2) v2) := by rw [hv2]; exact At.ext (At.n0 (by rfl)) (Ext.refl _)
      have b0_1 : Hid (At (w1.heap.size) 1 (.slice sp2 sl2 sc2) v2) := by rw [hv2]; exact At.ext (At.n0 (by rfl)) (Ext.refl _)
      have b0_2 : Hid (At (w1.heap.size) 2 (.slice tp2 tl2 tc2) v2) := by rw [hv2]; exact At.ext (At.n0 (by rfl)) (Ext.refl _)
      have k0 : Hid (Bx 3 (w1.heap.size) v2) := by rw [hv2]; exact Bx.gr (Bx.n0 3 ⟨rfl, by decide⟩ (by decide) noI_s3) (Ext.gr (Ext.refl _))
      have u0 : Hid (w1.heap.size < v2.heap.size) := b0_0.out.2
      have e2_ : Ext W4 v2 := Ext.trans e1_ y2
      rw [← hv2]
      clear hv2
      refine (half_bad _ (-1) (by decide)).mono ?_
      rintro e w3 ⟨rfl, x3⟩
      have e3_ : Ext W4 w3 := Ext.trans e2_ x3
      go_wp2_with fail
      obtain ⟨v4, hv4⟩ : ∃ W, W = (w3.alloc (.cells #[.bool false, .slice none 0 0, .slice none 0 0] 36)) := ⟨_, rfl⟩
      have y4 : Ext w3 v4 := by rw [hv4]; exact ((Ext.refl _).alloc _)
      have b1_0 : Hid (At (w3.heap.size) 0 (.bool false) v4) := by rw [hv4]; exact At.ext (At.n0 (by rfl)) (Ext.refl _)
      have b1_1 : Hid (At (w3.heap.size) 1 (.slice none 0 0) v4) := by rw [hv4]; exact At.ext (At.n0 (by rfl)) (Ext.refl _)
      have b1_2 : Hid (At (w3.heap.size) 2 (.slice none 0 0) v4) := by rw [hv4]; exact At.ext (At.n0 (by rfl)) (Ext.refl _)
      have k1 : Hid (Bx 3 (w3.heap.size) v4) := by rw [hv4]; exact Bx.gr (Bx.n0 3 ⟨rfl, by decide⟩ (by decide) noI_s3) (Ext.gr (Ext.refl _))
      have u1 : Hid (w3.heap.size < v4.heap.size) := b1_0.out.2
      have e4_ : Ext W4 v4 := Ext.trans e3_ y4
      rw [← hv4]
      clear hv4
      refine (half_is (q := qh) _ 65536 (by decide) HQH.out).mono ?_
      rintro e w5 ⟨sb4, sv4, su4, sm4, sd4, rfl, e4, o4, x5⟩
      have e5_ : Ext W4 w5 := Ext.trans e4_ x5
      obtain ⟨sp4, sl4, sc4, tp4, tl4, tc4, rfl, rfl⟩ := e4.slice
      go_wp2_with fail
      obtain ⟨v6, hv6⟩ : ∃ W, W = (w5.alloc (.cells #[.bool sb4, .slice sp4 sl4 sc4, .slice tp4 tl4 tc4] 36)) := ⟨_, rfl⟩
      have y6 : Ext w5 v6 := by rw [hv6]; exact ((Ext.refl _).alloc _)
      have b2_0 : Hid (At (w5.heap.size) 0 (.bool sb4) v6) := by rw [hv6]; exact At.ext (At.n0 (by rfl)) (Ext.refl _)
      have b2_1 : Hid (At (w5.heap.size) 1 (.slice sp4 sl4 sc4) v6) := by rw [hv6]; exact At.ext (At.n0 (by rfl)) (Ext.refl _)
      have b2_2 : Hid (At (w5.heap.size) 2 (.slice tp4 tl4 tc4) v6) := by rw [hv6]; exact At.ext (At.n0 (by rfl)) (Ext.refl _)
      have k2 : Hid (Bx 3 (w5.heap.size) v6) := by rw [hv6]; exact Bx.gr (Bx.n0 3 ⟨rfl, by decide⟩ (by decide) noI_s3) (Ext.gr (Ext.refl _))
      have u2 : Hid (w5.heap.size < v6.heap.size) := b2_0.out.2
      have e6_ : Ext W4 v6 := Ext.trans e5_ y6
      rw [← hv6]
      clear hv6
      refine (half_bad _ 65537 (by decide)).mono ?_
      rintro e w7 ⟨rfl, x7⟩
      have e7_ : Ext W4 w7 := Ext.trans e6_ x7
      go_wp2_with fail
      obtain ⟨v8, hv8⟩ : ∃ W, W = (w7.alloc (.cells #[.bool false, .slice none 0 0, .slice none 0 0] 36)) := ⟨_, rfl⟩
      have y8 : Ext w7 v8 := by rw [hv8]; exact ((Ext.refl _).alloc _)
      have b3_0 : Hid (At (w7.heap.size) 0 (.bool false) v8) := by rw [hv8]; exact At.ext (At.n0 (by rfl)) (Ext.refl _)
      have b3_1 : Hid (At (w7.heap.size) 1 (.slice none 0 0) v8) := by rw [hv8]; exact At.ext (At.n0 (by rfl)) (Ext.refl _)
      have b3_2 : Hid (At (w7.heap.size) 2 (.slice none 0 0) v8) := by rw [hv8]; exact At.ext (At.n0 (by rfl)) (Ext.refl _)
      have k3 : Hid (Bx 3 (w7.heap.size) v8) := by rw [hv8]; exact Bx.gr (Bx.n0 3 ⟨rfl, by decide⟩ (by decide) noI_s3) (Ext.gr (Ext.refl _))
      have u3 : Hid (w7.heap.size < v8.heap.size) := b3_0.out.2
      have e8_ : Ext W4 v8 := Ext.trans e7_ y8
      rw [← hv8]
      clear hv8
      refine (lover_is (q := (mkRat 1 2)) _ 1 2 (by decide) (by decide) (by decide) (by decide) (by decide) (by decide +kernel)).mono ?_
      rintro e w9 ⟨sb6, sv6, su6, sm6, sd6, rfl, e6, o6, x9⟩
      have e9_ : Ext W4 w9 := Ext.trans e8_ x9
      obtain ⟨sp6, sl6, sc6, tp6, tl6, tc6, rfl, rfl⟩ := e6.slice
      go_wp2_with fail
      refine (rpow_arg (e6.inR (k := 1) (lenR_over (n := 1) (d := 2) (q := (mkRat 1 2)) (by decide) (by decide) (by decide) (by decide) (by decide +kernel))) (by decide) (-1) (by decide)).mono ?_
      rintro e w10 ⟨rfl, x10⟩
      have e10_ : Ext W4 w10 := Ext.trans e9_ x10
      go_wp2_with fail
      obtain ⟨v11, hv11⟩ : ∃ W, W = (w10.alloc (.cells #[.bool false, .slice none 0 0, .slice none 0 0] 36)) := ⟨_, rfl⟩
      have y11 : Ext w10 v11 := by rw [hv11]; exact ((Ext.refl _).alloc _)
      have b4_0 : Hid (At (w10.heap.size) 0 (.bool false) v11) := by rw [hv11]; exact At.ext (At.n0 (by rfl)) (Ext.refl _)
      have b4_1 : Hid (At (w10.heap.size) 1 (.slice none 0 0) v11) := by rw [hv11]; exact At.ext (At.n0 (by rfl)) (Ext.refl _)
      have b4_2 : Hid (At (w10.heap.size) 2 (.slice none 0 0) v11) := by rw [hv11]; exact At.ext (At.n0 (by rfl)) (Ext.refl _)
      have k4 : Hid (Bx 3 (w10.heap.size) v11) := by rw [hv11]; exact Bx.gr (Bx.n0 3 ⟨rfl, by decide⟩ (by decide) noI_s3) (Ext.gr (Ext.refl _))
      have u4 : Hid (w10.heap.size < v11.heap.size) := b4_0.out.2
      have e11_ : Ext W4 v11 := Ext.trans e10_ y11
      rw [← hv11]
      clear hv11
      refine (rof_is _ 2 (by decide) (by decide)).mono ?_
      rintro e w12 ⟨sb8, sv8, su8, sm8, sd8, rfl, e8, o8, x12⟩
      have e12_ : Ext W4 w12 := Ext.trans e11_ x12
      obtain ⟨sp8, sl8, sc8, tp8, tl8, tc8, rfl, rfl⟩ := e8.slice
      go_wp2_with fail
      refine (rpow_long (e8.inR (k := 1) (LenR.int (LenI.small (by have h1 : (-9223372036854775808 : Int) ≤ 2 := (by decide); have h2 : 2 ≤ (9223372036854775807 : Int) := (by decide); omega)) (by decide))) (by decide) 1048576 (by decide +kernel)).mono ?_
      rintro e w13 ⟨rfl, x13⟩
      have e13_ : Ext W4 w13 := Ext.trans e12_ x13
      go_wp2_with fail
      obtain ⟨v14, hv14⟩ : ∃ W, W = (w13.alloc (.cells #[.bool false, .slice none 0 0, .slice none 0 0] 36)) := ⟨_, rfl⟩
      have y14 : Ext w13 v14 := by rw [hv14]; exact ((Ext.refl _).alloc _)
      have b5_0 : Hid (At (w13.heap.size) 0 (.bool false) v14) := by rw [hv14]; exact At.ext (At.n0 (by rfl)) (Ext.refl _)
      have b5_1 : Hid (At (w13.heap.size) 1 (.slice none 0 0) v14) := by rw [hv14]; exact At.ext (At.n0 (by rfl)) (Ext.refl _)
      have b5_2 : Hid (At (w13.heap.size) 2 (.slice none 0 0) v14) := by rw [hv14]; exact At.ext (At.n0 (by rfl)) (Ext.refl _)
      have k5 : Hid (Bx 3 (w13.heap.size) v14) := by rw [hv14]; exact Bx.gr (Bx.n0 3 ⟨rfl, by decide⟩ (by decide) noI_s3) (Ext.gr (Ext.refl _))
      have u5 : Hid (w13.heap.size < v14.heap.size) := b5_0.out.2
      have e14_ : Ext W4 v14 := Ext.trans e13_ y14
      rw [← hv14]
      clear hv14
      refine (rof_is _ (-1) (by decide) (by decide)).mono ?_
      rintro e w15 ⟨sb10, sv10, su10, sm10, sd10, rfl, e10, o10, x15⟩
      have e15_ : Ext W4 w15 := Ext.trans e14_ x15
      obtain ⟨sp10, sl10, sc10, tp10, tl10, tc10, rfl, rfl⟩ := e10.slice
      go_wp2_with fail
      refine (rpow_q (e10.inR (k := 1) (LenR.int (LenI.small (by have h1 : (-9223372036854775808 : Int) ≤ (-1) := (by decide); have h2 : (-1) ≤ (9223372036854775807 : Int) := (by decide); omega)) (by decide))) (by decide) 1048576 (by decide) (by decide +kernel) (by decide +kernel) 1 neg_pow 1048576 (by decide)).mono ?_
      rintro e w16 ⟨sb11, sv11, su11, sm11, sd11, rfl, e11, o11, x16⟩
      have e16_ : Ext W4 w16 := Ext.trans e15_ x16
      obtain ⟨sp11, sl11, sc11, tp11, tl11, tc11, rfl, rfl⟩ := e11.slice
      go_wp2_with fail
      obtain ⟨v17, hv17⟩ : ∃ W, W = (w16.alloc (.cells #[.bool sb11, .slice sp11 sl11 sc11, .slice tp11 tl11 tc11] 36)) := ⟨_, rfl⟩
      have y17 : Ext w16 v17 := by rw [hv17]; exact ((Ext.refl _).alloc _)
      have b6_0 : Hid (At (w16.heap.size) 0 (.bool sb11) v17) := by rw [hv17]; exact At.ext (At.n0 (by rfl)) (Ext.refl _)
      have b6_1 : Hid (At (w16.heap.size) 1 (.slice sp11 sl11 sc11) v17) := by rw [hv17]; exact At.ext (At.n0 (by rfl)) (Ext.refl _)
      have b6_2 : Hid (At (w16.heap.size) 2 (.slice tp11 tl11 tc11) v17) := by rw [hv17]; exact At.ext (At.n0 (by rfl)) (Ext.refl _)
      have k6 : Hid (Bx 3 (w16.heap.size) v17) := by rw [hv17]; exact Bx.gr (Bx.n0 3 ⟨rfl, by decide⟩ (by decide) noI_s3) (Ext.gr (Ext.refl _))
      have u6 : Hid (w16.heap.size < v17.heap.size) := b6_0.out.2
      have e17_ : Ext W4 v17 := Ext.trans e16_ y17
      rw [← hv17]
      clear hv17
      refine (rpow_q (inR_zero _) (by decide) 5 (by decide) (by decide +kernel) (by decide +kernel) 0 (by decide +kernel) 5 (by decide)).mono ?_
      rintro e w18 ⟨sb12, sv12, su12, sm12, sd12, rfl, e12, o12, x18⟩
      have e18_ : Ext W4 w18 := Ext.trans e17_ x18
      obtain ⟨sp12, sl12, sc12, tp12, tl12, tc12, rfl, rfl⟩ := e12.slice
      go_wp2_with fail
      obtain ⟨v19, hv19⟩ : ∃ W, W = (w18.alloc (.cells #[.bool sb12, .slice sp12 sl12 sc12, .slice tp12 tl12 tc12] 36)) := ⟨_, rfl⟩
      have y19 : Ext w18 v19 := by rw [hv19]; exact ((Ext.refl _).alloc _)
      have b7_0 : Hid (At (w18.heap.size) 0 (.bool sb12) v19) := by rw [hv19]; exact At.ext (At.n0 (by rfl)) (Ext.refl _)
      have b7_1 : Hid (At (w18.heap.size) 1 (.slice sp12 sl12 sc12) v19) := by rw [hv19]; exact At.ext (At.n0 (by rfl)) (Ext.refl _)
      have b7_2 : Hid (At (w18.heap.size) 2 (.slice tp12 tl12 tc12) v19) := by rw [hv19]; exact At.ext (At.n0 (by rfl)) (Ext.refl _)
      have k7 : Hid (Bx 3 (w18.heap.size) v19) := by rw [hv19]; exact Bx.gr (Bx.n0 3 ⟨rfl, by decide⟩ (by decide) noI_s3) (Ext.gr (Ext.refl _))
      have u7 : Hid (w18.heap.size < v19.heap.size) := b7_0.out.2
      have e19_ : Ext W4 v19 := Ext.trans e18_ y19
      rw [← hv19]
      clear hv19
      refine (rof_is _ 0 (by decide) (by decide)).mono ?_
      rintro e w20 ⟨sb13, sv13, su13, sm13, sd13, rfl, e13, o13, x20⟩
      have e20_ : Ext W4 w20 := Ext.trans e19_ x20
      obtain ⟨sp13, sl13, sc13, tp13, tl13, tc13, rfl, rfl⟩ := e13.slice
      go_wp2_with fail
      refine (rpow_q (e13.inR (k := 1) (LenR.int (LenI.small (by have h1 : (-9223372036854775808 : Int) ≤ 0 := (by decide); have h2 : 0 ≤ (9223372036854775807 : Int) := (by decide); omega)) (by decide))) (by decide) 0 (by decide) (by decide +kernel) (by decide +kernel) 1 (by decide +kernel) 0 (by decide)).mono ?_
      rintro e w21 ⟨sb14, sv14, su14, sm14, sd14, rfl, e14, o14, x21⟩
      have e21_ : Ext W4 w21 := Ext.trans e20_ x21
      obtain ⟨sp14, sl14, sc14, tp14, tl14, tc14, rfl, rfl⟩ := e14.slice
      go_wp2_with fail
      obtain ⟨v22, hv22⟩ : ∃ W, W = (w21.alloc (.cells #[.bool sb14, .slice sp14 sl14 sc14, .slice tp14 tl14 tc14] 36)) := ⟨_, rfl⟩
      have y22 : Ext w21 v22 := by rw [hv22]; exact ((Ext.refl _).alloc _)
      have b8_0 : Hid (At (w21.heap.size) 0 (.bool sb14) v22) := by rw [hv22]; exact At.ext (At.n0 (by rfl)) (Ext.refl _)
      have b8_1 : Hid (At (w21.heap.size) 1 (.slice sp14 sl14 sc14) v22) := by rw [hv22]; exact At.ext (At.n0 (by rfl)) (Ext.refl _)
      have b8_2 : Hid (At (w21.heap.size) 2 (.slice tp14 tl14 tc14) v22) := by rw [hv22]; exact At.ext (At.n0 (by rfl)) (Ext.refl _)
      have k8 : Hid (Bx 3 (w21.heap.size) v22) := by rw [hv22]; exact Bx.gr (Bx.n0 3 ⟨rfl, by decide⟩ (by decide) noI_s3) (Ext.gr (Ext.refl _))
      have u8 : Hid (w21.heap.size < v22.heap.size) := b8_0.out.2
      have e22_ : Ext W4 v22 := Ext.trans e21_ y22
      rw [← hv22]
      clear hv22
      refine (over_zero _ 1 0 (by decide) (by decide) (by decide) (by decide) rfl).mono ?_
      rintro e w23 ⟨rfl, x23⟩
      have e23_ : Ext W4 w23 := Ext.trans e22_ x23
      have g0_0 := (b0_0.out.ext (x3.trans (y4.trans (x5.trans (y6.trans (x7.trans (y8.trans (x9.trans (x10.trans (y11.trans (x12.trans (x13.trans (y14.trans (x15.trans (x16.trans (y17.trans (x18.trans (y19.trans (x20.trans (x21.trans (y22.trans x23))))))))))))))))))))).1
      have g0_1 := (b0_1.out.ext (x3.trans (y4.trans (x5.trans (y6.trans (x7.trans (y8.trans (x9.trans (x10.trans (y11.trans (x12.trans (x13.trans (y14.trans (x15.trans (x16.trans (y17.trans (x18.trans (y19.trans (x20.trans (x21.trans (y22.trans x23))))))))))))))))))))).1
      have g0_2 := (b0_2.out.ext (x3.trans (y4.trans (x5.trans (y6.trans (x7.trans (y8.trans (x9.trans (x10.trans (y11.trans (x12.trans (x13.trans (y14.trans (x15.trans (x16.trans (y17.trans (x18.trans (y19.trans (x20.trans (x21.trans (y22.trans x23))))))))))))))))))))).1
      have f0 : w1.heap.size < w23.heap.size := (b0_0.out.ext (x3.trans (y4.trans (x5.trans (y6.trans (x7.trans (y8.trans (x9.trans (x10.trans (y11.trans (x12.trans (x13.trans (y14.trans (x15.trans (x16.trans (y17.trans (x18.trans (y19.trans (x20.trans (x21.trans (y22.trans x23))))))))))))))))))))).2
      have ff0 : w1.heap.size < w23.heap.size + 1 := by omega
      have fff0 : w1.heap.size < w23.heap.size + 1 + 1 := by omega
      have ffff0 : w1.heap.size < w23.heap.size + 1 + 1 + 1 := by omega
      have fffff0 : w1.heap.size < w23.heap.size + 1 + 1 + 1 + 1 := by omega
      go_wp2_with fail
      obtain ⟨v24, hv24⟩ : ∃ W, W = ((((w23.alloc (.cells #[.bool false, .slice none 0 0, .slice none 0 0] 36)).alloc (.cells #[.int .u64 2, .int .u64 0] 54)).alloc (.cells #[.int .u64 4] 54)).alloc (.cells #[.bool true, .slice (some ⟨w23.heap.size + 1, 0, none⟩) 2 2, .slice (some ⟨w23.heap.size + 1 + 1, 0, none⟩) 1 1] 36)) := ⟨_, rfl⟩
      have y24 : Ext w23 v24 := by rw [hv24]; exact (((((Ext.refl _).alloc _).alloc _).alloc _).alloc _)
      have b9_0 : Hid (At (w23.heap.size) 0 (.bool false) v24) := by rw [hv24]; exact At.ext (At.n0 (by rfl)) ((((Ext.refl _).alloc _).alloc _).alloc _)
      have b9_1 : Hid (At (w23.heap.size) 1 (.slice none 0 0) v24) := by rw [hv24]; exact At.ext (At.n0 (by rfl)) ((((Ext.refl _).alloc _).alloc _).alloc _)
      have b9_2 : Hid (At (w23.heap.size) 2 (.slice none 0 0) v24) := by rw [hv24]; exact At.ext (At.n0 (by rfl)) ((((Ext.refl _).alloc _).alloc _).alloc _)
      have k9 : Hid (Bx 3 (w23.heap.size) v24) := by rw [hv24]; exact Bx.gr (Bx.n0 3 ⟨rfl, by decide⟩ (by decide) noI_s3) (Ext.gr ((((Ext.refl _).alloc _).alloc _).alloc _))
      have u9 : Hid (w23.heap.size < v24.heap.size) := b9_0.out.2
      have r10 : Hid (Limbs v24 (.slice (some ⟨w23.heap.size + 1, 0, none⟩) 2 2) [2, 0]) := by rw [hv24]; exact (lit_n1 [2, 0] (by decide) rfl 2 rfl (by decide)).ext (((Ext.refl _).alloc _).alloc _)
      have r11 : Hid (Limbs v24 (.slice (some ⟨w23.heap.size + 1 + 1, 0, none⟩) 1 1) [4]) := by rw [hv24]; exact (lit_n2 [4] (by decide) rfl 1 rfl (by decide)).ext ((Ext.refl _).alloc _)
      have b12_0 : Hid (At (w23.heap.size + 1 + 1 + 1) 0 (.bool true) v24) := by rw [hv24]; exact At.ext (At.n3 (by rfl)) (Ext.refl _)
      have b12_1 : Hid (At (w23.heap.size + 1 + 1 + 1) 1 (.slice (some ⟨w23.heap.size + 1, 0, none⟩) 2 2) v24) := by rw [hv24]; exact At.ext (At.n3 (by rfl)) (Ext.refl _)
      have b12_2 : Hid (At (w23.heap.size + 1 + 1 + 1) 2 (.slice (some ⟨w23.heap.size + 1 + 1, 0, none⟩) 1 1) v24) := by rw [hv24]; exact At.ext (At.n3 (by rfl)) (Ext.refl _)
      have k12 : Hid (Bx 3 (w23.heap.size + 1 + 1 + 1) v24) := by rw [hv24]; exact Bx.gr (Bx.n3 3 ⟨rfl, by decide⟩ (by decide) noI_s3) (Ext.gr (Ext.refl _))
      have u12 : Hid (w23.heap.size + 1 + 1 + 1 < v24.heap.size) := b12_0.out.2
      have e24_ : Ext W4 v24 := Ext.trans e23_ y24
      rw [← hv24]
      clear hv24
      refine (rshow_is ((e2.ext (y2.trans (x3.trans (y4.trans (x5.trans (y6.trans (x7.trans (y8.trans (x9.trans (x10.trans (y11.trans (x12.trans (x13.trans (y14.trans (x15.trans (x16.trans (y17.trans (x18.trans (y19.trans (x20.trans (x21.trans (y22.trans (x23.trans y24))))))))))))))))))))))).inR (k := 1) (lenR_over (n := (-9223372036854775808)) (d := 1) (q := (((-9223372036854775808) : Int) : Rat)) (by decide) (by decide) (by decide) (by decide) (by decide +kernel))) (by decide) ⟨#[45, 57, 50, 50, 51, 51, 55, 50, 48, 51, 54, 56, 53, 52, 55, 55, 53, 56, 48, 56]⟩ (showR_of (by decide +kernel) (by decide +kernel))).mono ?_
      rintro e w25 ⟨rfl, x25⟩
      have e25_ : Ext W4 w25 := Ext.trans e24_ x25
      clear g0_0 g0_1 g0_2 f0 ff0 fff0 ffff0 fffff0
      go_wp2_with fail
      refine (lover_is (q := (1 : Rat)) _ (-9223372036854775808) (-9223372036854775808) (by decide) (by decide) (by decide) (by decide) (by decide) (by decide +kernel)).mono ?_
      rintro e w26 ⟨sb17, sv17, su17, sm17, sd17, rfl, e17, o17, x26⟩
      have e26_ : Ext W4 w26 := Ext.trans e25_ x26
      obtain ⟨sp17, sl17, sc17, tp17, tl17, tc17, rfl, rfl⟩ := e17.slice
      go_wp2_with fail
      refine (rshow_is (e17.inR (k := 1) (lenR_over (n := (-9223372036854775808)) (d := (-9223372036854775808)) (q := (1 : Rat)) (by decide) (by decide) (by decide) (by decide) (by decide +kernel))) (by decide) ⟨#[49]⟩ (showR_of (by decide +kernel) (by decide +kernel))).mono ?_
      rintro e w27 ⟨rfl, x27⟩
      have e27_ : Ext W4 w27 := Ext.trans e26_ x27
      go_wp2_with fail
      refine (lover_is (q := (mkRat (-1) 9223372036854775808)) _ 1 (-9223372036854775808) (by decide) (by decide) (by decide) (by decide) (by decide) (by decide +kernel)).mono ?_
      rintro e w28 ⟨sb19, sv19, su19, sm19, sd19, rfl, e19, o19, x28⟩
      have e28_ : Ext W4 w28 := Ext.trans e27_ x28
      obtain ⟨sp19, sl19, sc19, tp19, tl19, tc19, rfl, rfl⟩ := e19.slice
      go_wp2_with fail
      refine (rshow_is (e19.inR (k := 1) (lenR_over (n := 1) (d := (-9223372036854775808)) (q := (mkRat (-1) 9223372036854775808)) (by decide) (by decide) (by decide) (by decide) (by decide +kernel))) (by decide) ⟨#[45, 49, 47, 57, 50, 50, 51, 51, 55, 50, 48, 51, 54, 56, 53, 52, 55, 55, 53, 56, 48, 56]⟩ (showR_of (by decide +kernel) (by decide +kernel))).mono ?_
      rintro e w29 ⟨rfl, x29⟩
      have e29_ : Ext W4 w29 := Ext.trans e28_ x29
      have g2_2 := (b2_2.out.ext (x7.trans (y8.trans (x9.trans (x10.trans (y11.trans (x12.trans (x13.trans (y14.trans (x15.trans (x16.trans (y17.trans (x18.trans (y19.trans (x20.trans (x21.trans (y22.trans (x23.trans (y24.trans (x25.trans (x26.trans (x27.trans (x28.trans x29))))))))))))))))))))))).1
      have f2 : w5.heap.size < w29.heap.size := (b2_0.out.ext (x7.trans (y8.trans (x9.trans (x10.trans (y11.trans (x12.trans (x13.trans (y14.trans (x15.trans (x16.trans (y17.trans (x18.trans (y19.trans (x20.trans (x21.trans (y22.trans (x23.trans (y24.trans (x25.trans (x26.trans (x27.trans (x28.trans x29))))))))))))))))))))))).2
      go_wp2_with fail
      refine (nlen_of (e4.ext (y6.trans (x7.trans (y8.trans (x9.trans (x10.trans (y11.trans (x12.trans (x13.trans (y14.trans (x15.trans (x16.trans (y17.trans (x18.trans (y19.trans (x20.trans (x21.trans (y22.trans (x23.trans (y24.trans (x25.trans (x26.trans (x27.trans (x28.trans x29)))))))))))))))))))))))).2.2.2.2 (by rw [← e4.2.2.1]; exact HNL.out) 65537 (by rw [← e4.2.2.1]; exact HBL.out)).mono ?_
      rintro e w30 ⟨rfl, x30⟩
      have e30_ : Ext W4 w30 := Ext.trans e29_ x30
      clear g2_2 f2
      have g6_0 := (b6_0.out.ext (x18.trans (y19.trans (x20.trans (x21.trans (y22.trans (x23.trans (y24.trans (x25.trans (x26.trans (x27.trans (x28.trans (x29.trans x30))))))))))))).1
      have g6_1 := (b6_1.out.ext (x18.trans (y19.trans (x20.trans (x21.trans (y22.trans (x23.trans (y24.trans (x25.trans (x26.trans (x27.trans (x28.trans (x29.trans x30))))))))))))).1
      have g6_2 := (b6_2.out.ext (x18.trans (y19.trans (x20.trans (x21.trans (y22.trans (x23.trans (y24.trans (x25.trans (x26.trans (x27.trans (x28.trans (x29.trans x30))))))))))))).1
      have f6 : w16.heap.size < w30.heap.size := (b6_0.out.ext (x18.trans (y19.trans (x20.trans (x21.trans (y22.trans (x23.trans (y24.trans (x25.trans (x26.trans (x27.trans (x28.trans (x29.trans x30))))))))))))).2
      go_wp2_with fail
      refine (rshow_is ((e11.ext (y17.trans (x18.trans (y19.trans (x20.trans (x21.trans (y22.trans (x23.trans (y24.trans (x25.trans (x26.trans (x27.trans (x28.trans (x29.trans x30)))))))))))))).inR (k := 1) (by unfold LenR; rw [Nat.pow_one, Bs_def]; decide +kernel)) (by decide) ⟨#[49]⟩ (showR_of (by decide +kernel) (by decide +kernel))).mono ?_
      rintro e w31 ⟨rfl, x31⟩
      have e31_ : Ext W4 w31 := Ext.trans e30_ x31
      clear g6_0 g6_1 g6_2 f6
      have g7_0 := (b7_0.out.ext (x20.trans (x21.trans (y22.trans (x23.trans (y24.trans (x25.trans (x26.trans (x27.trans (x28.trans (x29.trans (x30.trans x31)))))))))))).1
      have g7_1 := (b7_1.out.ext (x20.trans (x21.trans (y22.trans (x23.trans (y24.trans (x25.trans (x26.trans (x27.trans (x28.trans (x29.trans (x30.trans x31)))))))))))).1
      have g7_2 := (b7_2.out.ext (x20.trans (x21.trans (y22.trans (x23.trans (y24.trans (x25.trans (x26.trans (x27.trans (x28.trans (x29.trans (x30.trans x31)))))))))))).1
      have f7 : w18.heap.size < w31.heap.size := (b7_0.out.ext (x20.trans (x21.trans (y22.trans (x23.trans (y24.trans (x25.trans (x26.trans (x27.trans (x28.trans (x29.trans (x30.trans x31)))))))))))).2
      go_wp2_with fail
      refine (rshow_is ((e12.ext (y19.trans (x20.trans (x21.trans (y22.trans (x23.trans (y24.trans (x25.trans (x26.trans (x27.trans (x28.trans (x29.trans (x30.trans x31))))))))))))).inR (k := 1) lenR_zero) (by decide) ⟨#[48]⟩ (showR_of (by decide +kernel) (by decide +kernel))).mono ?_
      rintro e w32 ⟨rfl, x32⟩
      have e32_ : Ext W4 w32 := Ext.trans e31_ x32
      clear g7_0 g7_1 g7_2 f7
      have g8_0 := (b8_0.out.ext (x23.trans (y24.trans (x25.trans (x26.trans (x27.trans (x28.trans (x29.trans (x30.trans (x31.trans x32)))))))))).1
      have g8_1 := (b8_1.out.ext (x23.trans (y24.trans (x25.trans (x26.trans (x27.trans (x28.trans (x29.trans (x30.trans (x31.trans x32)))))))))).1
      have g8_2 := (b8_2.out.ext (x23.trans (y24.trans (x25.trans (x26.trans (x27.trans (x28.trans (x29.trans (x30.trans (x31.trans x32)))))))))).1
      have f8 : w21.heap.size < w32.heap.size := (b8_0.out.ext (x23.trans (y24.trans (x25.trans (x26.trans (x27.trans (x28.trans (x29.trans (x30.trans (x31.trans x32)))))))))).2
      go_wp2_with fail
      refine (rshow_is ((e14.ext (y22.trans (x23.trans (y24.trans (x25.trans (x26.trans (x27.trans (x28.trans (x29.trans (x30.trans (x31.trans x32))))))))))).inR (k := 1) (by unfold LenR; rw [Nat.pow_one, Bs_def]; decide +kernel)) (by decide) ⟨#[49]⟩ (showR_of (by decide +kernel) (by decide +kernel))).mono ?_
      rintro e w33 ⟨rfl, x33⟩
      have e33_ : Ext W4 w33 := Ext.trans e32_ x33
      clear g8_0 g8_1 g8_2 f8
      have g12_0 := (b12_0.out.ext (x25.trans (x26.trans (x27.trans (x28.trans (x29.trans (x30.trans (x31.trans (x32.trans x33))))))))).1
      have g12_1 := (b12_1.out.ext (x25.trans (x26.trans (x27.trans (x28.trans (x29.trans (x30.trans (x31.trans (x32.trans x33))))))))).1
      have g12_2 := (b12_2.out.ext (x25.trans (x26.trans (x27.trans (x28.trans (x29.trans (x30.trans (x31.trans (x32.trans x33))))))))).1
      have f12 : w23.heap.size + 1 + 1 + 1 < w33.heap.size := (b12_0.out.ext (x25.trans (x26.trans (x27.trans (x28.trans (x29.trans (x30.trans (x31.trans (x32.trans x33))))))))).2
      go_wp2_with fail
      refine (rmay_raw (k := 2) (q := mkRat (-1) 2) (A := [2, 0]) (B := [4]) (r10.out.ext (x25.trans (x26.trans (x27.trans (x28.trans (x29.trans (x30.trans (x31.trans (x32.trans x33))))))))) (r11.out.ext (x25.trans (x26.trans (x27.trans (x28.trans (x29.trans (x30.trans (x31.trans (x32.trans x33))))))))) HRQ.out (by decide) (by decide) (by decide) (by decide) false HMC.out).mono ?_
      rintro e w34 ⟨rfl, x34⟩
      have e34_ : Ext W4 w34 := Ext.trans e33_ x34
      clear g12_0 g12_1 g12_2 f12
      have g12_0 := (b12_0.out.ext (x25.trans (x26.trans (x27.trans (x28.trans (x29.trans (x30.trans (x31.trans (x32.trans (x33.trans x34)))))))))).1
      have g12_1 := (b12_1.out.ext (x25.trans (x26.trans (x27.trans (x28.trans (x29.trans (x30.trans (x31.trans (x32.trans (x33.trans x34)))))))))).1
      have g12_2 := (b12_2.out.ext (x25.trans (x26.trans (x27.trans (x28.trans (x29.trans (x30.trans (x31.trans (x32.trans (x33.trans x34)))))))))).1
      have f12 : w23.heap.size + 1 + 1 + 1 < w34.heap.size := (b12_0.out.ext (x25.trans (x26.trans (x27.trans (x28.trans (x29.trans (x30.trans (x31.trans (x32.trans (x33.trans x34)))))))))).2
      go_wp2_with fail
      refine (rshow_is (k := 2) (q := mkRat (-1) 2) ⟨[2, 0], [4], (r10.out.ext (x25.trans (x26.trans (x27.trans (x28.trans (x29.trans (x30.trans (x31.trans (x32.trans (x33.trans x34)))))))))), (r11.out.ext (x25.trans (x26.trans (x27.trans (x28.trans (x29.trans (x30.trans (x31.trans (x32.trans (x33.trans x34)))))))))), HRQ.out, by decide, by decide, by decide⟩ (by decide) ⟨#[45, 49, 47, 50]⟩ (showR_of (by decide +kernel) (by decide +kernel))).mono ?_
      rintro e w35 ⟨rfl, x35⟩
      have e35_ : Ext W4 w35 := Ext.trans e34_ x35
      clear g12_0 g12_1 g12_2 f12
      go_wp2_with fail
      refine (rmay_raw (k := 1) (q := 0) (Limbs.nil _) (Limbs.nil _) mk_nil (by decide) (by decide) (by decide) (by decide) false may_nil).mono ?_
      rintro e w36 ⟨rfl, x36⟩
      have e36_ : Ext W4 w36 := Ext.trans e35_ x36
      go_wp2_with fail
      refine (rof_is _ 0 (by decide) (by decide)).mono ?_
      rintro e w37 ⟨sb28, sv28, su28, sm28, sd28, rfl, e28, o28, x37⟩
      have e37_ : Ext W4 w37 := Ext.trans e36_ x37
      obtain ⟨sp28, sl28, sc28, tp28, tl28, tc28, rfl, rfl⟩ := e28.slice
      go_wp2_with fail
      refine (rsame_calls (inR_zero _) (e28.inR (k := 1) (LenR.int (LenI.small (by have h1 : (-9223372036854775808 : Int) ≤ 0 := (by decide); have h2 : 0 ≤ (9223372036854775807 : Int) := (by decide); omega)) (by decide))) (by decide) true (by decide +kernel)).mono ?_
      rintro e w38 ⟨rfl, x38⟩
      have e38_ : Ext W4 w38 := Ext.trans e37_ x38
      go_wp2_with fail
      refine (lover_is (q := (mkRat 1 2)) _ 1 2 (by decide) (by decide) (by decide) (by decide) (by decide) (by decide +kernel)).mono ?_
      rintro e w39 ⟨sb30, sv30, su30, sm30, sd30, rfl, e30, o30, x39⟩
      have e39_ : Ext W4 w39 := Ext.trans e38_ x39
      obtain ⟨sp30, sl30, sc30, tp30, tl30, tc30, rfl, rfl⟩ := e30.slice
      go_wp2_with fail
      refine (rmay_is e30 (lenR_over (n := 1) (d := 2) (q := (mkRat 1 2)) (by decide) (by decide) (by decide) (by decide) (by decide +kernel)) (by decide)).mono ?_
      rintro e w40 ⟨rfl, x40⟩
      have e40_ : Ext W4 w40 := Ext.trans e39_ x40
      go_wp2_with fail
      refine (rsum_nil _).mono ?_
      rintro e w41 ⟨sb32, sv32, su32, sm32, sd32, rfl, e32, o32, x41⟩
      have e41_ : Ext W4 w41 := Ext.trans e40_ x41
      obtain ⟨sp32, sl32, sc32, tp32, tl32, tc32, rfl, rfl⟩ := e32.slice
      go_wp2_with fail
      refine (rshow_is (e32.inR (k := 1) lenR_zero) (by decide) ⟨#[48]⟩ (showR_of (by decide +kernel) (by decide +kernel))).mono ?_
      rintro e w42 ⟨rfl, x42⟩
      have e42_ : Ext W4 w42 := Ext.trans e41_ x42
      go_wp2_with fail
      go_ret
      exact ⟨rfl, EW.out.trans e42_⟩

end Go.Proofs.YtaklejkdmfgplaaGreatDoor
