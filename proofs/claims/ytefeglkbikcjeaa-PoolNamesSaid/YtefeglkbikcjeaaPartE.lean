/- Facts and contracts, joined: Rat4, Rat5, Cut, Pow. -/
import Derived.Test.YtefeglkbikcjeaaPartD
import Derived.Test.YtefeglkbikcjeaaPartA
import Derived.Test.YtefeglkbikcjeaaPartC
import Derived.Lib.Bytealg
import Derived.Lib.IndexLaws
import Derived.Laws.Externs

/- The contracts of package rat: differences, quotients, halves. -/
namespace Go.Proofs.Ytefeglkbikcjeaa
open Go Go.RowKit

theorem quo_sg {a b : Rat} {s t : Bool} (h1 : decide (a.num < 0) = s) (h2 : decide (b.num < 0) = t) (hb : b ≠ 0) : mkRat (sgI (s != t) (a.num.natAbs * b.den)) (a.den * b.num.natAbs) = a / b := by
  rw [← quo_mk]
  congr 1
  have hn : b.num ≠ 0 := fun h => hb (Rat.num_eq_zero.1 h)
  have e : ∀ x : Int, (0 ≤ x ∧ (x.natAbs : Int) = x) ∨ (x < 0 ∧ (x.natAbs : Int) = -x) := fun x => by omega
  subst h1 h2
  rcases e a.num with ⟨a1, a2⟩ | ⟨a1, a2⟩ <;> rcases Int.lt_or_gt_of_ne hn with c1 | c1
  · rw [Int.sign_eq_neg_one_of_neg c1]; simp [sgI, Int.not_lt.2 a1, c1, a2, Int.mul_neg_one]
  · rw [Int.sign_eq_one_of_pos c1]; simp [sgI, Int.not_lt.2 a1, Int.not_lt.2 (Int.le_of_lt c1), a2]
  · rw [Int.sign_eq_neg_one_of_neg c1]; simp [sgI, a1, c1, a2, Int.mul_neg_one, Int.neg_mul]
  · rw [Int.sign_eq_one_of_pos c1]; simp [sgI, a1, Int.not_lt.2 (Int.le_of_lt c1), a2, Int.neg_mul]

theorem nshl_n {w : World} {v : Value} {k m : Nat} (h : InN w v k m) (n : Int) (hk : k ≤ 65535) (hn : 0 ≤ n ∧ n ≤ 65536) : Calls Try.prog 38 #[v, .int .i64 n] w fun e w' => ∃ r, e = .returned (.tuple #[r, .int .i64 0]) ∧ OwnL w.heap.size w' r (dig (m * 2 ^ n.toNat)) ∧ Ext w w' := by
  obtain ⟨A, h1, rfl, h3⟩ := h
  refine (shl_calls h1 (by omega) n).mono ?_
  rintro e w' ⟨r, he, hr, hx⟩
  refine ⟨r, by rw [he, if_pos hn], by rw [if_pos hn] at hr; exact hr, hx⟩
theorem nshl_bad {w : World} {v : Value} {k m : Nat} (h : InN w v k m) (n : Int) (hk : k ≤ 65535) (hn : ¬ (0 ≤ n ∧ n ≤ 65536)) : Calls Try.prog 38 #[v, .int .i64 n] w fun e w' => ∃ r, e = .returned (.tuple #[r, .int .i64 1]) ∧ OwnL w.heap.size w' r (dig 0) ∧ Ext w w' := by
  obtain ⟨A, h1, rfl, h3⟩ := h
  refine (shl_calls h1 (by omega) n).mono ?_
  rintro e w' ⟨r, he, hr, hx⟩
  exact ⟨r, by rw [he, if_neg hn], by rw [if_neg hn] at hr; exact hr, hx⟩

end Go.Proofs.Ytefeglkbikcjeaa

/- The contracts of rat.equal, rat.Same, rat.May, and of tombolaref06.Is. -/
namespace Go.Proofs.Ytefeglkbikcjeaa
open Go Go.RowKit

theorem val_inj {A B : List Nat} (hA : ∀ x ∈ A, x < Bs) (hB : ∀ x ∈ B, x < Bs) (hl : A.length = B.length) (h : val A = val B) : A = B := by
  refine List.ext_getElem hl fun i h1 h2 => ?_
  have e1 := el_val hA i
  have e2 := el_val hB i
  rw [el_of_lt h1] at e1
  rw [el_of_lt h2] at e2
  rw [e1, e2, h]
theorem same_bool {w : World} {v u : Value} {A B : List Nat} (hA : Limbs w v A) (hB : Limbs w u B) (b : Bool) (hb : decide (A = B) = b) :
    Calls Try.prog 13 #[v, u] w fun e w' => e = .returned (.bool b) ∧ Ext w w' := by
  subst hb; exact same_calls hA hB

set_option maxHeartbeats 4000000 in
set_option maxRecDepth 100000 in
theorem is_raw {w : World} {v1 u1 v2 u2 : Value} {A1 B1 A2 B2 : List Nat} (h1 : Limbs w v1 A1) (g1 : Limbs w u1 B1) (h2 : Limbs w v2 A2) (g2 : Limbs w u2 B2) (b1 b2 : Bool) (c : Bool) (hc : decide (b1 = b2 ∧ A1 = A2 ∧ B1 = B2) = c) :
    Calls Try.prog 15 #[.agg #[.bool b1, v1, u1], .agg #[.bool b2, v2, u2]] w fun e w' => e = .returned (.bool c) ∧ Ext w w' := by
  obtain ⟨p1, q1, rfl, -, -, -⟩ := h1.open
  obtain ⟨p1', q1', rfl, -, -, -⟩ := g1.open
  obtain ⟨p2, q2, rfl, -, -, -⟩ := h2.open
  obtain ⟨p2', q2', rfl, -, -, -⟩ := g2.open
  by_cases hb : b1 = b2
  case neg =>
    obtain rfl : c = false := by rw [← hc]; simp [hb]
    have hb' : (b1 == b2) = false := by simpa using hb
    clear hb hc
    go_enter Try.func15, Try.ntmps15
    go_wp2_with fail
    obtain ⟨v1, hv1⟩ : ∃ W, W = ((w.alloc (.cells #[.bool b1, .slice p1 A1.length q1, .slice p1' B1.length q1'] 36)).alloc (.cells #[.bool b2, .slice p2 A2.length q2, .slice p2' B2.length q2'] 36)) := ⟨_, rfl⟩
    have y1 : Ext w v1 := by rw [hv1]; exact (((Ext.refl _).alloc _).alloc _)
    have b0_0 : Hid (At (w.heap.size) 0 (.bool b1) v1) := by rw [hv1]; exact At.ext (At.n0 (by rfl)) ((Ext.refl _).alloc _)
    have b0_1 : Hid (At (w.heap.size) 1 (.slice p1 A1.length q1) v1) := by rw [hv1]; exact At.ext (At.n0 (by rfl)) ((Ext.refl _).alloc _)
    have b0_2 : Hid (At (w.heap.size) 2 (.slice p1' B1.length q1') v1) := by rw [hv1]; exact At.ext (At.n0 (by rfl)) ((Ext.refl _).alloc _)
    have k0 : Hid (Bx 3 (w.heap.size) v1) := by rw [hv1]; exact Bx.gr (Bx.n0 3 ⟨rfl, by decide⟩ (by decide) noI_s3) (Ext.gr ((Ext.refl _).alloc _))
    have u0 : Hid (w.heap.size < v1.heap.size) := b0_0.out.2
    have b1_0 : Hid (At (w.heap.size + 1) 0 (.bool b2) v1) := by rw [hv1]; exact At.ext (At.n1 (by rfl)) (Ext.refl _)
    have b1_1 : Hid (At (w.heap.size + 1) 1 (.slice p2 A2.length q2) v1) := by rw [hv1]; exact At.ext (At.n1 (by rfl)) (Ext.refl _)
    have b1_2 : Hid (At (w.heap.size + 1) 2 (.slice p2' B2.length q2') v1) := by rw [hv1]; exact At.ext (At.n1 (by rfl)) (Ext.refl _)
    have k1 : Hid (Bx 3 (w.heap.size + 1) v1) := by rw [hv1]; exact Bx.gr (Bx.n1 3 ⟨rfl, by decide⟩ (by decide) noI_s3) (Ext.gr (Ext.refl _))
    have u1 : Hid (w.heap.size + 1 < v1.heap.size) := b1_0.out.2
    have e1_ : Ext w v1 := y1
    rw [← hv1]
    clear hv1
    go_ret
    exact ⟨rfl, e1_⟩
  subst hb
  by_cases ha : A1 = A2
  case neg =>
    obtain rfl : c = false := by rw [← hc]; simp [ha]
    have HA : Hid (decide (A1 = A2) = false) := decide_eq_false ha
    clear ha hc
    go_enter Try.func15, Try.ntmps15
    go_wp2_with fail
    obtain ⟨v1, hv1⟩ : ∃ W, W = ((w.alloc (.cells #[.bool b1, .slice p1 A1.length q1, .slice p1' B1.length q1'] 36)).alloc (.cells #[.bool b1, .slice p2 A2.length q2, .slice p2' B2.length q2'] 36)) := ⟨_, rfl⟩
    have y1 : Ext w v1 := by rw [hv1]; exact (((Ext.refl _).alloc _).alloc _)
    have b0_0 : Hid (At (w.heap.size) 0 (.bool b1) v1) := by rw [hv1]; exact At.ext (At.n0 (by rfl)) ((Ext.refl _).alloc _)
    have b0_1 : Hid (At (w.heap.size) 1 (.slice p1 A1.length q1) v1) := by rw [hv1]; exact At.ext (At.n0 (by rfl)) ((Ext.refl _).alloc _)
    have b0_2 : Hid (At (w.heap.size) 2 (.slice p1' B1.length q1') v1) := by rw [hv1]; exact At.ext (At.n0 (by rfl)) ((Ext.refl _).alloc _)
    have k0 : Hid (Bx 3 (w.heap.size) v1) := by rw [hv1]; exact Bx.gr (Bx.n0 3 ⟨rfl, by decide⟩ (by decide) noI_s3) (Ext.gr ((Ext.refl _).alloc _))
    have u0 : Hid (w.heap.size < v1.heap.size) := b0_0.out.2
    have b1_0 : Hid (At (w.heap.size + 1) 0 (.bool b1) v1) := by rw [hv1]; exact At.ext (At.n1 (by rfl)) (Ext.refl _)
    have b1_1 : Hid (At (w.heap.size + 1) 1 (.slice p2 A2.length q2) v1) := by rw [hv1]; exact At.ext (At.n1 (by rfl)) (Ext.refl _)
    have b1_2 : Hid (At (w.heap.size + 1) 2 (.slice p2' B2.length q2') v1) := by rw [hv1]; exact At.ext (At.n1 (by rfl)) (Ext.refl _)
    have k1 : Hid (Bx 3 (w.heap.size + 1) v1) := by rw [hv1]; exact Bx.gr (Bx.n1 3 ⟨rfl, by decide⟩ (by decide) noI_s3) (Ext.gr (Ext.refl _))
    have u1 : Hid (w.heap.size + 1 < v1.heap.size) := b1_0.out.2
    have e1_ : Ext w v1 := y1
    rw [← hv1]
    clear hv1
    refine (same_bool (h1.ext y1) (h2.ext y1) false HA.out).mono ?_
    rintro e w2 ⟨rfl, x2⟩
    have e2_ : Ext w w2 := Ext.trans e1_ x2
    go_wp2_with fail
    go_ret
    exact ⟨rfl, e2_⟩
  have HA : Hid (decide (A1 = A2) = true) := decide_eq_true ha
  by_cases hd : B1 = B2
  case neg =>
    obtain rfl : c = false := by rw [← hc]; simp [hd]
    have HB : Hid (decide (B1 = B2) = false) := decide_eq_false hd
    clear ha hd hc
    go_enter Try.func15, Try.ntmps15
    go_wp2_with fail
    obtain ⟨v1, hv1⟩ : ∃ W, W = ((w.alloc (.cells #[.bool b1, .slice p1 A1.length q1, .slice p1' B1.length q1'] 36)).alloc (.cells #[.bool b1, .slice p2 A2.length q2, .slice p2' B2.length q2'] 36)) := ⟨_, rfl⟩
    have y1 : Ext w v1 := by rw [hv1]; exact (((Ext.refl _).alloc _).alloc _)
    have b0_0 : Hid (At (w.heap.size) 0 (.bool b1) v1) := by rw [hv1]; exact At.ext (At.n0 (by rfl)) ((Ext.refl _).alloc _)
    have b0_1 : Hid (At (w.heap.size) 1 (.slice p1 A1.length q1) v1) := by rw [hv1]; exact At.ext (At.n0 (by rfl)) ((Ext.refl _).alloc _)
    have b0_2 : Hid (At (w.heap.size) 2 (.slice p1' B1.length q1') v1) := by rw [hv1]; exact At.ext (At.n0 (by rfl)) ((Ext.refl _).alloc _)
    have k0 : Hid (Bx 3 (w.heap.size) v1) := by rw [hv1]; exact Bx.gr (Bx.n0 3 ⟨rfl, by decide⟩ (by decide) noI_s3) (Ext.gr ((Ext.refl _).alloc _))
    have u0 : Hid (w.heap.size < v1.heap.size) := b0_0.out.2
    have b1_0 : Hid (At (w.heap.size + 1) 0 (.bool b1) v1) := by rw [hv1]; exact At.ext (At.n1 (by rfl)) (Ext.refl _)
    have b1_1 : Hid (At (w.heap.size + 1) 1 (.slice p2 A2.length q2) v1) := by rw [hv1]; exact At.ext (At.n1 (by rfl)) (Ext.refl _)
    have b1_2 : Hid (At (w.heap.size + 1) 2 (.slice p2' B2.length q2') v1) := by rw [hv1]; exact At.ext (At.n1 (by rfl)) (Ext.refl _)
    have k1 : Hid (Bx 3 (w.heap.size + 1) v1) := by rw [hv1]; exact Bx.gr (Bx.n1 3 ⟨rfl, by decide⟩ (by decide) noI_s3) (Ext.gr (Ext.refl _))
    have u1 : Hid (w.heap.size + 1 < v1.heap.size) := b1_0.out.2
    have e1_ : Ext w v1 := y1
    rw [← hv1]
    clear hv1
    refine (same_bool (h1.ext y1) (h2.ext y1) true HA.out).mono ?_
    rintro e w2 ⟨rfl, x2⟩
    have e2_ : Ext w w2 := Ext.trans e1_ x2
    have g0_2 := (b0_2.out.ext x2).1
    have g1_2 := (b1_2.out.ext x2).1
    have f0 : w.heap.size < w2.heap.size := (b0_0.out.ext x2).2
    have f1 : w.heap.size + 1 < w2.heap.size := (b1_0.out.ext x2).2
    go_wp2_with fail
    refine (same_bool (g1.ext (y1.trans x2)) (g2.ext (y1.trans x2)) false HB.out).mono ?_
    rintro e w3 ⟨rfl, x3⟩
    have e3_ : Ext w w3 := Ext.trans e2_ x3
    clear g0_2 g1_2 f0 f1
    go_wp2_with fail
    go_ret
    exact ⟨rfl, e3_⟩
  case pos =>
    obtain rfl : c = true := by rw [← hc]; simp [ha, hd]
    have HB : Hid (decide (B1 = B2) = true) := decide_eq_true hd
    clear ha hd hc
    go_enter Try.func15, Try.ntmps15
    go_wp2_with fail
    obtain ⟨v1, hv1⟩ : ∃ W, W = ((w.alloc (.cells #[.bool b1, .slice p1 A1.length q1, .slice p1' B1.length q1'] 36)).alloc (.cells #[.bool b1, .slice p2 A2.length q2, .slice p2' B2.length q2'] 36)) := ⟨_, rfl⟩
    have y1 : Ext w v1 := by rw [hv1]; exact (((Ext.refl _).alloc _).alloc _)
    have b0_0 : Hid (At (w.heap.size) 0 (.bool b1) v1) := by rw [hv1]; exact At.ext (At.n0 (by rfl)) ((Ext.refl _).alloc _)
    have b0_1 : Hid (At (w.heap.size) 1 (.slice p1 A1.length q1) v1) := by rw [hv1]; exact At.ext (At.n0 (by rfl)) ((Ext.refl _).alloc _)
    have b0_2 : Hid (At (w.heap.size) 2 (.slice p1' B1.length q1') v1) := by rw [hv1]; exact At.ext (At.n0 (by rfl)) ((Ext.refl _).alloc _)
    have k0 : Hid (Bx 3 (w.heap.size) v1) := by rw [hv1]; exact Bx.gr (Bx.n0 3 ⟨rfl, by decide⟩ (by decide) noI_s3) (Ext.gr ((Ext.refl _).alloc _))
    have u0 : Hid (w.heap.size < v1.heap.size) := b0_0.out.2
    have b1_0 : Hid (At (w.heap.size + 1) 0 (.bool b1) v1) := by rw [hv1]; exact At.ext (At.n1 (by rfl)) (Ext.refl _)
    have b1_1 : Hid (At (w.heap.size + 1) 1 (.slice p2 A2.length q2) v1) := by rw [hv1]; exact At.ext (At.n1 (by rfl)) (Ext.refl _)
    have b1_2 : Hid (At (w.heap.size + 1) 2 (.slice p2' B2.length q2') v1) := by rw [hv1]; exact At.ext (At.n1 (by rfl)) (Ext.refl _)
    have k1 : Hid (Bx 3 (w.heap.size + 1) v1) := by rw [hv1]; exact Bx.gr (Bx.n1 3 ⟨rfl, by decide⟩ (by decide) noI_s3) (Ext.gr (Ext.refl _))
    have u1 : Hid (w.heap.size + 1 < v1.heap.size) := b1_0.out.2
    have e1_ : Ext w v1 := y1
    rw [← hv1]
    clear hv1
    refine (same_bool (h1.ext y1) (h2.ext y1) true HA.out).mono ?_
    rintro e w2 ⟨rfl, x2⟩
    have e2_ : Ext w w2 := Ext.trans e1_ x2
    have g0_2 := (b0_2.out.ext x2).1
    have g1_2 := (b1_2.out.ext x2).1
    have f0 : w.heap.size < w2.heap.size := (b0_0.out.ext x2).2
    have f1 : w.heap.size + 1 < w2.heap.size := (b1_0.out.ext x2).2
    go_wp2_with fail
    refine (same_bool (g1.ext (y1.trans x2)) (g2.ext (y1.trans x2)) true HB.out).mono ?_
    rintro e w3 ⟨rfl, x3⟩
    have e3_ : Ext w w3 := Ext.trans e2_ x3
    clear g0_2 g1_2 f0 f1
    go_wp2_with fail
    go_ret
    exact ⟨rfl, e3_⟩

theorem isR_eq {w w' : World} {b1 b2 : Bool} {v1 u1 v2 u2 : Value} {m1 d1 m2 d2 : Nat} {p q : Rat} (h : IsR w b1 v1 u1 m1 d1 p) (g : IsR w' b2 v2 u2 m2 d2 q) : decide (b1 = b2 ∧ dig m1 = dig m2 ∧ dig d1 = dig d2) = decide (p = q) := by
  rw [Bool.eq_iff_iff, decide_eq_true_eq, decide_eq_true_eq]
  constructor
  · rintro ⟨e1, e2, e3⟩
    have e2 : m1 = m2 := by rw [← val_dig m1, e2, val_dig]
    have e3 : d1 = d2 := by rw [← val_dig d1, e3, val_dig]
    have e4 : p.num < 0 ↔ q.num < 0 := by
      have := h.1.trans (e1.trans g.1.symm); simpa using this
    have e5 := h.2.1
    have e6 := g.2.1
    refine Rat.ext (by omega) ?_
    rw [h.2.2.1, g.2.2.1, e3]
  · rintro rfl
    refine ⟨h.1.symm.trans g.1, ?_, ?_⟩
    · rw [← h.2.1, ← g.2.1]
    · rw [← h.2.2.1, ← g.2.2.1]
/-- the reference's comparison, by the fractions -/
theorem is_is {w : World} {b1 b2 : Bool} {v1 u1 v2 u2 : Value} {m1 d1 m2 d2 : Nat} {p q : Rat} (h : IsR w b1 v1 u1 m1 d1 p) (g : IsR w b2 v2 u2 m2 d2 q) (c : Bool) (hc : decide (p = q) = c) :
    Calls Try.prog 15 #[.agg #[.bool b1, v1, u1], .agg #[.bool b2, v2, u2]] w fun e w' => e = .returned (.bool c) ∧ Ext w w' :=
  is_raw h.2.2.2.1 h.2.2.2.2 g.2.2.2.1 g.2.2.2.2 b1 b2 c ((isR_eq h g).trans hc)

end Go.Proofs.Ytefeglkbikcjeaa

/- The contract of strings.Cut at one byte; the texts of fractions. -/
namespace Go.Proofs.Ytefeglkbikcjeaa
open Go Go.RowKit

end Go.Proofs.Ytefeglkbikcjeaa

/- The contract of quo.Pow. -/
namespace Go.Proofs.Ytefeglkbikcjeaa
open Go Go.RowKit

theorem pow_lt_gen {m n K : Nat} (h : bl m * n < 64 * K) : m ^ n < Bs ^ K := by
  rw [Bs_eq, ← Nat.pow_mul]
  have h1 : m ^ n ≤ (2 ^ bl m) ^ n := Nat.pow_le_pow_left (Nat.le_of_lt (lt_bl m)) n
  rw [← Nat.pow_mul] at h1
  exact Nat.lt_of_le_of_lt h1 (Nat.pow_lt_pow_right (by decide) h)
theorem kp_ex : ∃ b : Nat, b = 16385 := ⟨_, rfl⟩
/-- how many limbs a power has at most -/
noncomputable def Kp : Nat := Classical.choose kp_ex
theorem Kp_def : Kp = 16385 := Classical.choose_spec kp_ex
theorem pow_lt_bs {m n : Nat} (h : bl m * n ≤ 1048576) : m ^ n < Bs ^ Kp := pow_lt_gen (by rw [Kp_def]; omega)
theorem pow_odd {a s N G : Nat} (h : a * s ^ N = G) (ho : N % 2 = 1) : a * s * (s * s) ^ (N / 2) = G := by
  rw [← h]
  conv => rhs; rw [show N = 1 + (N / 2 + N / 2) by omega, Nat.pow_add, Nat.pow_add, Nat.pow_one]
  rw [Nat.mul_pow, Nat.mul_assoc]
theorem pow_even {a s N G : Nat} (h : a * s ^ N = G) (ho : N % 2 = 0) : a * (s * s) ^ (N / 2) = G := by
  rw [← h]
  conv => rhs; rw [show N = N / 2 + N / 2 by omega, Nat.pow_add]
  rw [Nat.mul_pow]
theorem le_of_fac {a s N G : Nat} (h : a * s ^ N = G) (hs : 1 ≤ s) : a ≤ G := by
  rw [← h]; exact Nat.le_mul_of_pos_right _ (Nat.pow_pos hs)
theorem le_of_fac2 {a s N G : Nat} (h : a * s ^ N = G) (ha : 1 ≤ a) (hN : N ≠ 0) : s ≤ G := by
  rw [← h]
  refine Nat.le_trans ?_ (Nat.le_mul_of_pos_left _ ha)
  exact Nat.le_self_pow hN s
/-- the call returns n, and no error -/
def RetN0 (w : World) (n : Nat) (e : Ending) (w' : World) : Prop := ∃ v, e = .returned (.tuple #[v, .int .i64 0]) ∧ OwnL w.heap.size w' v (dig n) ∧ Ext w w'

end Go.Proofs.Ytefeglkbikcjeaa
