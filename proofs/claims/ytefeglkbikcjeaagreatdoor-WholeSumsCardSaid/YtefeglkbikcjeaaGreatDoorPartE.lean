/- Facts and contracts, joined: Rat4, Rat5, Cut, Pow. -/
import Derived.Test.YtefeglkbikcjeaaGreatDoorPartD
import Derived.Test.YtefeglkbikcjeaaGreatDoorPartA
import Derived.Test.YtefeglkbikcjeaaGreatDoorPartC
import Derived.Lib.Bytealg
import Derived.Lib.IndexLaws
import Derived.Laws.Externs

/- The contracts of package rat: differences, quotients, halves. -/
namespace Go.Proofs.YtefeglkbikcjeaaGreatDoor
open Go Go.RowKit

theorem quo_sg {a b : Rat} {s t : Bool} (h1 : decide (a.num < 0) = s) (h2 : decide (b.num < 0) = t) (hb : b ≠ 0) : mkRat (sgI (s != t) (a.num.natAbs * b.den)) (a.den * b.num.natAbs) = a / b := by
  rw [← quo_mk]
  congr 1
  have hn : b.num ≠ 0 := fun h => hb (Rat.num_eq_zero.1 h)
  have e : ∀ x : Int, (0 ≤ x ∧ (x.natAbs : Int) = x) ∨ (x < 0 ∧ (x.natAbs : Int) = -x) := fun x => by omega
  subst h1 h2
  rcases e a.num with ⟨a1, a2⟩ | ⟨a1, a2⟩ <;> rcases Int.lt_or_gt_of_ne hn with c1 | c1
  · rw [Int.sign_eq_neg_one_of_neg c1]; simp [sgI, Int.not_lt.2 a1, c1, a2, Int.mul_neg_one]
  · rw [Int.sign_eq_one_of_pos c1]; simp [sgI, Int.not_lt.2 a1, Int.not_lt.2 (Int.le_of_lt c1), a2]
  · rw [Int.sign_eq_neg_one_of_neg c1]; simp [sgI, a1, c1, a2, Int.mul_neg_one, Int.neg_mul]
  · rw [Int.sign_eq_one_of_pos c1]; simp [sgI, a1, Int.not_lt.2 (Int.le_of_lt c1), a2, Int.neg_mul]

theorem nshl_n {w : World} {v : Value} {k m : Nat} (h : InN w v k m) (n : Int) (hk : k ≤ 65535) (hn : 0 ≤ n ∧ n ≤ 65536) : Calls Tryz.prog 132 #[v, .int .i64 n] w fun e w' => ∃ r, e = .returned (.tuple #[r, .int .i64 0]) ∧ OwnL w.heap.size w' r (dig (m * 2 ^ n.toNat)) ∧ Ext w w' := by
  obtain ⟨A, h1, rfl, h3⟩ := h
  refine (shl_calls h1 (by omega) n).mono ?_
  rintro e w' ⟨r, he, hr, hx⟩
  refine ⟨r, by rw [he, if_pos hn], by rw [if_pos hn] at hr; exact hr, hx⟩
theorem nshl_bad {w : World} {v : Value} {k m : Nat} (h : InN w v k m) (n : Int) (hk : k ≤ 65535) (hn : ¬ (0 ≤ n ∧ n ≤ 65536)) : Calls Tryz.prog 132 #[v, .int .i64 n] w fun e w' => ∃ r, e = .returned (.tuple #[r, .int .i64 1]) ∧ OwnL w.heap.size w' r (dig 0) ∧ Ext w w' := by
  obtain ⟨A, h1, rfl, h3⟩ := h
  refine (shl_calls h1 (by omega) n).mono ?_
  rintro e w' ⟨r, he, hr, hx⟩
  exact ⟨r, by rw [he, if_neg hn], by rw [if_neg hn] at hr; exact hr, hx⟩

end Go.Proofs.YtefeglkbikcjeaaGreatDoor

/- The contracts of rat.equal, rat.Same, rat.May, and of tombolaref06.Is. -/
namespace Go.Proofs.YtefeglkbikcjeaaGreatDoor
open Go Go.RowKit

theorem val_inj {A B : List Nat} (hA : ∀ x ∈ A, x < Bs) (hB : ∀ x ∈ B, x < Bs) (hl : A.length = B.length) (h : val A = val B) : A = B := by
  refine List.ext_getElem hl fun i h1 h2 => ?_
  have e1 := el_val hA i
  have e2 := el_val hB i
  rw [el_of_lt h1] at e1
  rw [el_of_lt h2] at e2
  rw [e1, e2, h]
theorem same_bool {w : World} {v u : Value} {A B : List Nat} (hA : Limbs w v A) (hB : Limbs w u B) (b : Bool) (hb : decide (A = B) = b) :
    Calls Tryz.prog 154 #[v, u] w fun e w' => e = .returned (.bool b) ∧ Ext w w' := by
  subst hb; exact same_calls hA hB

set_option maxHeartbeats 1000000 in
theorem equal_is {w : World} {v u : Value} {A B : List Nat} (hA : Limbs w v A) (hB : Limbs w u B) (hlA : A.length ≤ 65535) (hlB : B.length ≤ 65535) (b : Bool) (hb : decide (A = B) = b) :
    Calls Tryz.prog 92 #[v, u] w fun e w' => e = .returned (.bool b) ∧ Ext w w' := by
  obtain ⟨pa, qa, rfl, -, -, -⟩ := hA.open
  obtain ⟨pb, qb, rfl, -, -, -⟩ := hB.open
  have H1 := Lib.hid (lmax_17 hlA)
  have H2 := Lib.hid (lmax_17 hlB)
  by_cases hl : A.length = B.length
  · have hl' : ((A.length : Int) == (B.length : Int)) = true := by simp [hl]
    obtain ⟨k, hk⟩ : ∃ k, cmpN (val A) (val B) = k := ⟨_, rfl⟩
    obtain ⟨c, hc⟩ : ∃ c, ((k : Int) == 0) = c := ⟨_, rfl⟩
    have HB : Hid (c = b) := by
      show _ = _
      rw [← hc, ← hb, ← hk, Bool.eq_iff_iff, beq_iff_eq, decide_eq_true_eq]
      constructor
      · intro h
        refine val_inj hA.2 hB.2 hl ?_
        unfold cmpN at h
        split at h; · omega
        split at h; · omega
        omega
      · rintro rfl; exact cmpN_eq rfl
    have HK := Lib.hid hk
    have HC := Lib.hid hc
    have HL := Lib.hid hl
    clear hlA hlB hb hk hl hc
    go_enter Tryz.func92, Tryz.ntmps92
    go_wp2_with fail
    refine (cmp_int hA hB H1.out H2.out k HK.out).mono ?_
    rintro e w1 ⟨rfl, rfl⟩
    go_wp2_with fail
    all_goals (go_ret; refine ⟨?_, Ext.refl _⟩)
    all_goals (rw [← HB.out, ← HC.out]; try rfl)
    all_goals (try simp [*])
  · have hl' : ((A.length : Int) == (B.length : Int)) = false := by rw [beq_eq_false_iff_ne]; omega
    have HB : Hid (false = b) := by
      show _ = _
      rw [← hb, eq_comm, decide_eq_false_iff_not]
      rintro rfl; exact hl rfl
    clear hlA hlB hb hl
    go_enter Tryz.func92, Tryz.ntmps92
    go_wp2_with fail
    go_ret
    exact ⟨by rw [HB.out]; rfl, Ext.refl _⟩

set_option maxHeartbeats 4000000 in
set_option maxRecDepth 100000 in
theorem is_raw {w : World} {v1 u1 v2 u2 : Value} {A1 B1 A2 B2 : List Nat} (h1 : Limbs w v1 A1) (g1 : Limbs w u1 B1) (h2 : Limbs w v2 A2) (g2 : Limbs w u2 B2) (b1 b2 : Bool) (c : Bool) (hc : decide (b1 = b2 ∧ A1 = A2 ∧ B1 = B2) = c) :
    Calls Tryz.prog 97 #[.agg #[.bool b1, v1, u1], .agg #[.bool b2, v2, u2]] w fun e w' => e = .returned (.bool c) ∧ Ext w w' := by
  obtain ⟨p1, q1, rfl, -, -, -⟩ := h1.open
  obtain ⟨p1', q1', rfl, -, -, -⟩ := g1.open
  obtain ⟨p2, q2, rfl, -, -, -⟩ := h2.open
  obtain ⟨p2', q2', rfl, -, -, -⟩ := g2.open
  by_cases hb : b1 = b2
  case neg =>
    obtain rfl : c = false := by rw [← hc]; simp [hb]
    have hb' : (b1 == b2) = false := by simpa using hb
    clear hb hc
    go_enter Tryz.func97, Tryz.ntmps97
    go_wp2_with fail
    obtain ⟨v1, hv1⟩ : ∃ W, W = ((w.alloc (.cells #[.bool b1, .slice p1 A1.length q1, .slice p1' B1.length q1'] 44)).alloc (.cells #[.bool b2, .slice p2 A2.length q2, .slice p2' B2.length q2'] 44)) := ⟨_, rfl⟩
    have y1 : Ext w v1 := by rw [hv1]; exact (((Ext.refl _).alloc _).alloc _)
    have b0_0 : Hid (At (w.heap.size) 0 (.bool b1) v1) := by rw [hv1]; exact At.ext (At.n0 (by rfl)) ((Ext.refl _).alloc _)
    have b0_1 : Hid (At (w.heap.size) 1 (.slice p1 A1.length q1) v1) := by rw [hv1]; exact At.ext (At.n0 (by rfl)) ((Ext.refl _).alloc _)
    have b0_2 : Hid (At (w.heap.size) 2 (.slice p1' B1.length q1') v1) := by rw [hv1]; exact At.ext (At.n0 (by rfl)) ((Ext.refl _).alloc _)
    have k0 : Hid (Bx 3 (w.heap.size) v1) := by rw [hv1]; exact Bx.gr (Bx.n0 3 ⟨rfl, by decide⟩ (by decide) noI_s3) (Ext.gr ((Ext.refl _).alloc _))
    have u0 : Hid (w.heap.size < v1.heap.size) := b0_0.out.2
    have b1_0 : Hid (At (w.heap.size + 1) 0 (.bool b2) v1) := by rw [hv1]; exact At.ext (At.n1 (by rfl)) (Ext.refl _)
    have b1_1 : Hid (At (w.heap.size + 1) 1 (.slice p2 A2.length q2) v1) := by rw [hv1]; exact At.ext (At.n1 (by rfl)) (Ext.refl _)
    have b1_2 : Hid (At (w.heap.size + 1) 2 (.slice p2' B2.length q2') v1) := by rw [hv1]; exact At.ext (At.n1 (by rfl)) (Ext.refl _)
    have k1 : Hid (Bx 3 (w.heap.size + 1) v1) := by rw [hv1]; exact Bx.gr (Bx.n1 3 ⟨rfl, by decide⟩ (by decide) noI_s3) (Ext.gr (Ext.refl _))
    have u1 : Hid (w.heap.size + 1 < v1.heap.size) := b1_0.out.2
    have e1_ : Ext w v1 := y1
    rw [← hv1]
    clear hv1
    go_ret
    exact ⟨rfl, e1_⟩
  subst hb
  by_cases ha : A1 = A2
  case neg =>
    obtain rfl : c = false := by rw [← hc]; simp [ha]
    have HA : Hid (decide (A1 = A2) = false) := decide_eq_false ha
    clear ha hc
    go_enter Tryz.func97, Tryz.ntmps97
    go_wp2_with fail
    obtain ⟨v1, hv1⟩ : ∃ W, W = ((w.alloc (.cells #[.bool b1, .slice p1 A1.length q1, .slice p1' B1.length q1'] 44)).alloc (.cells #[.bool b1, .slice p2 A2.length q2, .slice p2' B2.length q2'] 44)) := ⟨_, rfl⟩
    have y1 : Ext w v1 := by rw [hv1]; exact (((Ext.refl _).alloc _).alloc _)
    have b0_0 : Hid (At (w.heap.size) 0 (.bool b1) v1) := by rw [hv1]; exact At.ext (At.n0 (by rfl)) ((Ext.refl _).alloc _)
    have b0_1 : Hid (At (w.heap.size) 1 (.slice p1 A1.length q1) v1) := by rw [hv1]; exact At.ext (At.n0 (by rfl)) ((Ext.refl _).alloc _)
    have b0_2 : Hid (At (w.heap.size) 2 (.slice p1' B1.length q1') v1) := by rw [hv1]; exact At.ext (At.n0 (by rfl)) ((Ext.refl _).alloc _)
    have k0 : Hid (Bx 3 (w.heap.size) v1) := by rw [hv1]; exact Bx.gr (Bx.n0 3 ⟨rfl, by decide⟩ (by decide) noI_s3) (Ext.gr ((Ext.refl _).alloc _))
    have u0 : Hid (w.heap.size < v1.heap.size) := b0_0.out.2
    have b1_0 : Hid (At (w.heap.size + 1) 0 (.bool b1) v1) := by rw [hv1]; exact At.ext (At.n1 (by rfl)) (Ext.refl _)
    have b1_1 : Hid (At (w.heap.size + 1) 1 (.slice p2 A2.length q2) v1) := by rw [hv1]; exact At.ext (At.n1 (by rfl)) (Ext.refl _)
    have b1_2 : Hid (At (w.heap.size + 1) 2 (.slice p2' B2.length q2') v1) := by rw [hv1]; exact At.ext (At.n1 (by rfl)) (Ext.refl _)
    have k1 : Hid (Bx 3 (w.heap.size + 1) v1) := by rw [hv1]; exact Bx.gr (Bx.n1 3 ⟨rfl, by decide⟩ (by decide) noI_s3) (Ext.gr (Ext.refl _))
    have u1 : Hid (w.heap.size + 1 < v1.heap.size) := b1_0.out.2
    have e1_ : Ext w v1 := y1
    rw [← hv1]
    clear hv1
    refine (same_bool (h1.ext y1) (h2.ext y1) false HA.out).mono ?_
    rintro e w2 ⟨rfl, x2⟩
    have e2_ : Ext w w2 := Ext.trans e1_ x2
    go_wp2_with fail
    go_ret
    exact ⟨rfl, e2_⟩
  have HA : Hid (decide (A1 = A2) = true) := decide_eq_true ha
  by_cases hd : B1 = B2
  case neg =>
    obtain rfl : c = false := by rw [← hc]; simp [hd]
    have HB : Hid (decide (B1 = B2) = false) := decide_eq_false hd
    clear ha hd hc
    go_enter Tryz.func97, Tryz.ntmps97
    go_wp2_with fail
    obtain ⟨v1, hv1⟩ : ∃ W, W = ((w.alloc (.cells #[.bool b1, .slice p1 A1.length q1, .slice p1' B1.length q1'] 44)).alloc (.cells #[.bool b1, .slice p2 A2.length q2, .slice p2' B2.length q2'] 44)) := ⟨_, rfl⟩
    have y1 : Ext w v1 := by rw [hv1]; exact (((Ext.refl _).alloc _).alloc _)
    have b0_0 : Hid (At (w.heap.size) 0 (.bool b1) v1) := by rw [hv1]; exact At.ext (At.n0 (by rfl)) ((Ext.refl _).alloc _)
    have b0_1 : Hid (At (w.heap.size) 1 (.slice p1 A1.length q1) v1) := by rw [hv1]; exact At.ext (At.n0 (by rfl)) ((Ext.refl _).alloc _)
    have b0_2 : Hid (At (w.heap.size) 2 (.slice p1' B1.length q1') v1) := by rw [hv1]; exact At.ext (At.n0 (by rfl)) ((Ext.refl _).alloc _)
    have k0 : Hid (Bx 3 (w.heap.size) v1) := by rw [hv1]; exact Bx.gr (Bx.n0 3 ⟨rfl, by decide⟩ (by decide) noI_s3) (Ext.gr ((Ext.refl _).alloc _))
    have u0 : Hid (w.heap.size < v1.heap.size) := b0_0.out.2
    have b1_0 : Hid (At (w.heap.size + 1) 0 (.bool b1) v1) := by rw [hv1]; exact At.ext (At.n1 (by rfl)) (Ext.refl _)
    have b1_1 : Hid (At (w.heap.size + 1) 1 (.slice p2 A2.length q2) v1) := by rw [hv1]; exact At.ext (At.n1 (by rfl)) (Ext.refl _)
    have b1_2 : Hid (At (w.heap.size + 1) 2 (.slice p2' B2.length q2') v1) := by rw [hv1]; exact At.ext (At.n1 (by rfl)) (Ext.refl _)
    have k1 : Hid (Bx 3 (w.heap.size + 1) v1) := by rw [hv1]; exact Bx.gr (Bx.n1 3 ⟨rfl, by decide⟩ (by decide) noI_s3) (Ext.gr (Ext.refl _))
    have u1 : Hid (w.heap.size + 1 < v1.heap.size) := b1_0.out.2
    have e1_ : Ext w v1 := y1
    rw [← hv1]
    clear hv1
    refine (same_bool (h1.ext y1) (h2.ext y1) true HA.out).mono ?_
    rintro e w2 ⟨rfl, x2⟩
    have e2_ : Ext w w2 := Ext.trans e1_ x2
    have g0_2 := (b0_2.out.ext x2).1
    have g1_2 := (b1_2.out.ext x2).1
    have f0 : w.heap.size < w2.heap.size := (b0_0.out.ext x2).2
    have f1 : w.heap.size + 1 < w2.heap.size := (b1_0.out.ext x2).2
    go_wp2_with fail
    refine (same_bool (g1.ext (y1.trans x2)) (g2.ext (y1.trans x2)) false HB.out).mono ?_
    rintro e w3 ⟨rfl, x3⟩
    have e3_ : Ext w w3 := Ext.trans e2_ x3
    clear g0_2 g1_2 f0 f1
    go_wp2_with fail
    go_ret
    exact ⟨rfl, e3_⟩
  case pos =>
    obtain rfl : c = true := by rw [← hc]; simp [ha, hd]
    have HB : Hid (decide (B1 = B2) = true) := decide_eq_true hd
    clear ha hd hc
    go_enter Tryz.func97, Tryz.ntmps97
    go_wp2_with fail
    obtain ⟨v1, hv1⟩ : ∃ W, W = ((w.alloc (.cells #[.bool b1, .slice p1 A1.length q1, .slice p1' B1.length q1'] 44)).alloc (.cells #[.bool b1, .slice p2 A2.length q2, .slice p2' B2.length q2'] 44)) := ⟨_, rfl⟩
    have y1 : Ext w v1 := by rw [hv1]; exact (((Ext.refl _).alloc _).alloc _)
    have b0_0 : Hid (At (w.heap.size) 0 (.bool b1) v1) := by rw [hv1]; exact At.ext (At.n0 (by rfl)) ((Ext.refl _).alloc _)
    have b0_1 : Hid (At (w.heap.size) 1 (.slice p1 A1.length q1) v1) := by rw [hv1]; exact At.ext (At.n0 (by rfl)) ((Ext.refl _).alloc _)
    have b0_2 : Hid (At (w.heap.size) 2 (.slice p1' B1.length q1') v1) := by rw [hv1]; exact At.ext (At.n0 (by rfl)) ((Ext.refl _).alloc _)
    have k0 : Hid (Bx 3 (w.heap.size) v1) := by rw [hv1]; exact Bx.gr (Bx.n0 3 ⟨rfl, by decide⟩ (by decide) noI_s3) (Ext.gr ((Ext.refl _).alloc _))
    have u0 : Hid (w.heap.size < v1.heap.size) := b0_0.out.2
    have b1_0 : Hid (At (w.heap.size + 1) 0 (.bool b1) v1) := by rw [hv1]; exact At.ext (At.n1 (by rfl)) (Ext.refl _)
    have b1_1 : Hid (At (w.heap.size + 1) 1 (.slice p2 A2.length q2) v1) := by rw [hv1]; exact At.ext (At.n1 (by rfl)) (Ext.refl _)
    have b1_2 : Hid (At (w.heap.size + 1) 2 (.slice p2' B2.length q2') v1) := by rw [hv1]; exact At.ext (At.n1 (by rfl)) (Ext.refl _)
    have k1 : Hid (Bx 3 (w.heap.size + 1) v1) := by rw [hv1]; exact Bx.gr (Bx.n1 3 ⟨rfl, by decide⟩ (by decide) noI_s3) (Ext.gr (Ext.refl _))
    have u1 : Hid (w.heap.size + 1 < v1.heap.size) := b1_0.out.2
    have e1_ : Ext w v1 := y1
    rw [← hv1]
    clear hv1
    refine (same_bool (h1.ext y1) (h2.ext y1) true HA.out).mono ?_
    rintro e w2 ⟨rfl, x2⟩
    have e2_ : Ext w w2 := Ext.trans e1_ x2
    have g0_2 := (b0_2.out.ext x2).1
    have g1_2 := (b1_2.out.ext x2).1
    have f0 : w.heap.size < w2.heap.size := (b0_0.out.ext x2).2
    have f1 : w.heap.size + 1 < w2.heap.size := (b1_0.out.ext x2).2
    go_wp2_with fail
    refine (same_bool (g1.ext (y1.trans x2)) (g2.ext (y1.trans x2)) true HB.out).mono ?_
    rintro e w3 ⟨rfl, x3⟩
    have e3_ : Ext w w3 := Ext.trans e2_ x3
    clear g0_2 g1_2 f0 f1
    go_wp2_with fail
    go_ret
    exact ⟨rfl, e3_⟩

theorem isR_eq {w w' : World} {b1 b2 : Bool} {v1 u1 v2 u2 : Value} {m1 d1 m2 d2 : Nat} {p q : Rat} (h : IsR w b1 v1 u1 m1 d1 p) (g : IsR w' b2 v2 u2 m2 d2 q) : decide (b1 = b2 ∧ dig m1 = dig m2 ∧ dig d1 = dig d2) = decide (p = q) := by
  rw [Bool.eq_iff_iff, decide_eq_true_eq, decide_eq_true_eq]
  constructor
  · rintro ⟨e1, e2, e3⟩
    have e2 : m1 = m2 := by rw [← val_dig m1, e2, val_dig]
    have e3 : d1 = d2 := by rw [← val_dig d1, e3, val_dig]
    have e4 : p.num < 0 ↔ q.num < 0 := by
      have := h.1.trans (e1.trans g.1.symm); simpa using this
    have e5 := h.2.1
    have e6 := g.2.1
    refine Rat.ext (by omega) ?_
    rw [h.2.2.1, g.2.2.1, e3]
  · rintro rfl
    refine ⟨h.1.symm.trans g.1, ?_, ?_⟩
    · rw [← h.2.1, ← g.2.1]
    · rw [← h.2.2.1, ← g.2.2.1]
/-- the reference's comparison, by the fractions -/
theorem is_is {w : World} {b1 b2 : Bool} {v1 u1 v2 u2 : Value} {m1 d1 m2 d2 : Nat} {p q : Rat} (h : IsR w b1 v1 u1 m1 d1 p) (g : IsR w b2 v2 u2 m2 d2 q) (c : Bool) (hc : decide (p = q) = c) :
    Calls Tryz.prog 97 #[.agg #[.bool b1, v1, u1], .agg #[.bool b2, v2, u2]] w fun e w' => e = .returned (.bool c) ∧ Ext w w' :=
  is_raw h.2.2.2.1 h.2.2.2.2 g.2.2.2.1 g.2.2.2.2 b1 b2 c ((isR_eq h g).trans hc)

set_option maxHeartbeats 4000000 in
set_option maxRecDepth 100000 in
theorem rsame_calls {w : World} {ba bb : Bool} {va ua vb ub : Value} {k l : Nat} {a b : Rat} (ha : InR w ba va ua k a) (hb : InR w bb vb ub l b) (hk : k + l ≤ 30000) (c : Bool) (hc : decide (a = b) = c) :
    Calls Tryz.prog 27 #[.agg #[.bool ba, va, ua], .agg #[.bool bb, vb, ub]] w fun e w' => e = .returned (.bool c) ∧ Ext w w' := by
  obtain ⟨s, hs⟩ : ∃ s, cmpR a b = s := ⟨_, rfl⟩
  have HC : Hid ((s == 0) = c) := by
    show _ = _
    rw [← hs, ← hc, Bool.eq_iff_iff, beq_iff_eq, decide_eq_true_eq, cmpR_eq]
  have HS := Lib.hid hs
  have HK := Lib.hid hk
  obtain ⟨pa, qa, ra, pa', qa', ra', rfl, rfl⟩ := ha.slice
  obtain ⟨pb, qb, rb, pb', qb', rb', rfl, rfl⟩ := hb.slice
  clear hs hc hk
  go_enter Tryz.func27, Tryz.ntmps27
  go_wp2_with fail
  obtain ⟨v1, hv1⟩ : ∃ W, W = ((w.alloc (.cells #[.bool ba, .slice pa qa ra, .slice pa' qa' ra'] 44)).alloc (.cells #[.bool bb, .slice pb qb rb, .slice pb' qb' rb'] 44)) := ⟨_, rfl⟩
  have y1 : Ext w v1 := by rw [hv1]; exact (((Ext.refl _).alloc _).alloc _)
  have b0_0 : Hid (At (w.heap.size) 0 (.bool ba) v1) := by rw [hv1]; exact At.ext (At.n0 (by rfl)) ((Ext.refl _).alloc _)
  have b0_1 : Hid (At (w.heap.size) 1 (.slice pa qa ra) v1) := by rw [hv1]; exact At.ext (At.n0 (by rfl)) ((Ext.refl _).alloc _)
  have b0_2 : Hid (At (w.heap.size) 2 (.slice pa' qa' ra') v1) := by rw [hv1]; exact At.ext (At.n0 (by rfl)) ((Ext.refl _).alloc _)
  have k0 : Hid (Bx 3 (w.heap.size) v1) := by rw [hv1]; exact Bx.gr (Bx.n0 3 ⟨rfl, by decide⟩ (by decide) noI_s3) (Ext.gr ((Ext.refl _).alloc _))
  have u0 : Hid (w.heap.size < v1.heap.size) := b0_0.out.2
  have b1_0 : Hid (At (w.heap.size + 1) 0 (.bool bb) v1) := by rw [hv1]; exact At.ext (At.n1 (by rfl)) (Ext.refl _)
  have b1_1 : Hid (At (w.heap.size + 1) 1 (.slice pb qb rb) v1) := by rw [hv1]; exact At.ext (At.n1 (by rfl)) (Ext.refl _)
  have b1_2 : Hid (At (w.heap.size + 1) 2 (.slice pb' qb' rb') v1) := by rw [hv1]; exact At.ext (At.n1 (by rfl)) (Ext.refl _)
  have k1 : Hid (Bx 3 (w.heap.size + 1) v1) := by rw [hv1]; exact Bx.gr (Bx.n1 3 ⟨rfl, by decide⟩ (by decide) noI_s3) (Ext.gr (Ext.refl _))
  have u1 : Hid (w.heap.size + 1 < v1.heap.size) := b1_0.out.2
  have e1_ : Ext w v1 := y1
  rw [← hv1]
  clear hv1
  refine (rcmp_is (ha.ext y1) (hb.ext y1) HK.out HS.out).mono ?_
  rintro e w2 ⟨rfl, x2⟩
  have e2_ : Ext w w2 := Ext.trans e1_ x2
  go_wp2_with fail
  go_ret
  refine ⟨?_, e2_⟩
  rw [← HC.out]; rfl

set_option maxHeartbeats 4000000 in
set_option maxRecDepth 100000 in
theorem rmay_raw {w : World} {b : Bool} {v u : Value} {k : Nat} {q : Rat} {A B : List Nat} (hA : Limbs w v A) (hB : Limbs w u B) (hq : mkRat (iv b A) (val B) = q) (hlA : A.length ≤ k) (hlB : B.length ≤ k) (hk1 : 1 ≤ k) (hk : k ≤ 65535) (c : Bool)
    (hc : decide (val B ≠ 0 ∧ decide (q.num < 0) = b ∧ dig q.num.natAbs = A ∧ dig q.den = B) = c) :
    Calls Tryz.prog 88 #[.agg #[.bool b, v, u]] w fun e w' => e = .returned (.bool c) ∧ Ext w w' := by
  have HLR := Lib.hid (lenR_raw hA hB hq hlA hlB hk1)
  have HLM : Hid ((dig q.num.natAbs).length ≤ 65535) := Nat.le_trans (dig_len_le HLR.out.1) hk
  have HLD : Hid ((dig q.den).length ≤ 65535) := Nat.le_trans (dig_len_le HLR.out.2) hk
  obtain ⟨pa, qa, rfl, -, -, -⟩ := hA.open
  obtain ⟨pb, qb, rfl, -, -, -⟩ := hB.open
  have HQ := Lib.hid hq
  have HLA := Lib.hid hlA
  have HLB := Lib.hid hlB
  have HK := Lib.hid hk
  clear hq hlA hlB hk
  by_cases hb0 : val B = 0
  case pos =>
    obtain rfl : c = false := by rw [← hc]; simp [hb0]
    have HB0 := Lib.hid hb0
    clear hb0 hc
    go_enter Tryz.func88, Tryz.ntmps88
    go_wp2_with fail
    obtain ⟨v1, hv1⟩ : ∃ W, W = (w.alloc (.cells #[.bool b, .slice pa A.length qa, .slice pb B.length qb] 44)) := ⟨_, rfl⟩
    have y1 : Ext w v1 := by rw [hv1]; exact ((Ext.refl _).alloc _)
    have b0_0 : Hid (At (w.heap.size) 0 (.bool b) v1) := by rw [hv1]; exact At.ext (At.n0 (by rfl)) (Ext.refl _)
    have b0_1 : Hid (At (w.heap.size) 1 (.slice pa A.length qa) v1) := by rw [hv1]; exact At.ext (At.n0 (by rfl)) (Ext.refl _)
    have b0_2 : Hid (At (w.heap.size) 2 (.slice pb B.length qb) v1) := by rw [hv1]; exact At.ext (At.n0 (by rfl)) (Ext.refl _)
    have k0 : Hid (Bx 3 (w.heap.size) v1) := by rw [hv1]; exact Bx.gr (Bx.n0 3 ⟨rfl, by decide⟩ (by decide) noI_s3) (Ext.gr (Ext.refl _))
    have u0 : Hid (w.heap.size < v1.heap.size) := b0_0.out.2
    have e1_ : Ext w v1 := y1
    rw [← hv1]
    clear hv1
    refine (rmake_zero ⟨_, (hA.ext y1), rfl, HLA.out⟩ ⟨_, (hB.ext y1), rfl, HLB.out⟩ HB0.out (by have h1 := HK.out; have h2 := HLA.out; have h3 := HLB.out; omega) (by have h1 := HK.out; have h2 := HLA.out; have h3 := HLB.out; omega)).mono ?_
    rintro e w2 ⟨rfl, x2⟩
    have e2_ : Ext w w2 := Ext.trans e1_ x2
    go_wp2_with fail
    obtain ⟨v3, hv3⟩ : ∃ W, W = (w2.alloc (.cells #[.bool false, .slice none 0 0, .slice none 0 0] 44)) := ⟨_, rfl⟩
    have y3 : Ext w2 v3 := by rw [hv3]; exact ((Ext.refl _).alloc _)
    have b1_0 : Hid (At (w2.heap.size) 0 (.bool false) v3) := by rw [hv3]; exact At.ext (At.n0 (by rfl)) (Ext.refl _)
    have b1_1 : Hid (At (w2.heap.size) 1 (.slice none 0 0) v3) := by rw [hv3]; exact At.ext (At.n0 (by rfl)) (Ext.refl _)
    have b1_2 : Hid (At (w2.heap.size) 2 (.slice none 0 0) v3) := by rw [hv3]; exact At.ext (At.n0 (by rfl)) (Ext.refl _)
    have k1 : Hid (Bx 3 (w2.heap.size) v3) := by rw [hv3]; exact Bx.gr (Bx.n0 3 ⟨rfl, by decide⟩ (by decide) noI_s3) (Ext.gr (Ext.refl _))
    have u1 : Hid (w2.heap.size < v3.heap.size) := b1_0.out.2
    have e3_ : Ext w v3 := Ext.trans e2_ y3
    rw [← hv3]
    clear hv3
    go_ret
    exact ⟨rfl, e3_⟩
  have HB0 : Hid (val B ≠ 0) := hb0
  by_cases hs : decide (q.num < 0) = b
  case neg =>
    obtain rfl : c = false := by rw [← hc, decide_eq_false_iff_not]; rintro ⟨-, h, -⟩; exact hs h
    have HS : Hid (¬ decide (q.num < 0) = b) := hs
    clear hb0 hs hc
    go_enter Tryz.func88, Tryz.ntmps88
    go_wp2_with fail
    obtain ⟨v1, hv1⟩ : ∃ W, W = (w.alloc (.cells #[.bool b, .slice pa A.length qa, .slice pb B.length qb] 44)) := ⟨_, rfl⟩
    have y1 : Ext w v1 := by rw [hv1]; exact ((Ext.refl _).alloc _)
    have b0_0 : Hid (At (w.heap.size) 0 (.bool b) v1) := by rw [hv1]; exact At.ext (At.n0 (by rfl)) (Ext.refl _)
    have b0_1 : Hid (At (w.heap.size) 1 (.slice pa A.length qa) v1) := by rw [hv1]; exact At.ext (At.n0 (by rfl)) (Ext.refl _)
    have b0_2 : Hid (At (w.heap.size) 2 (.slice pb B.length qb) v1) := by rw [hv1]; exact At.ext (At.n0 (by rfl)) (Ext.refl _)
    have k0 : Hid (Bx 3 (w.heap.size) v1) := by rw [hv1]; exact Bx.gr (Bx.n0 3 ⟨rfl, by decide⟩ (by decide) noI_s3) (Ext.gr (Ext.refl _))
    have u0 : Hid (w.heap.size < v1.heap.size) := b0_0.out.2
    have e1_ : Ext w v1 := y1
    rw [← hv1]
    clear hv1
    refine (rmake_is ⟨_, (hA.ext y1), rfl, HLA.out⟩ ⟨_, (hB.ext y1), rfl, HLB.out⟩ HB0.out (by have h1 := HK.out; have h2 := HLA.out; have h3 := HLB.out; omega) (by have h1 := HK.out; have h2 := HLA.out; have h3 := HLB.out; omega) HQ.out).mono ?_
    rintro e w2 ⟨sb1, sv1, su1, sm1, sd1, rfl, e1, o1, x2⟩
    have e2_ : Ext w w2 := Ext.trans e1_ x2
    obtain ⟨sp1, sl1, sc1, tp1, tl1, tc1, rfl, rfl⟩ := e1.slice
    have hsb : (sb1 == b) = false := by rw [beq_eq_false_iff_ne]; intro h; exact HS.out (e1.1.trans h)
    have g0_0 := (b0_0.out.ext x2).1
    have f0 : w.heap.size < w2.heap.size := (b0_0.out.ext x2).2
    go_wp2_with fail
    obtain ⟨v3, hv3⟩ : ∃ W, W = (w2.alloc (.cells #[.bool sb1, .slice sp1 sl1 sc1, .slice tp1 tl1 tc1] 44)) := ⟨_, rfl⟩
    have y3 : Ext w2 v3 := by rw [hv3]; exact ((Ext.refl _).alloc _)
    have b1_0 : Hid (At (w2.heap.size) 0 (.bool sb1) v3) := by rw [hv3]; exact At.ext (At.n0 (by rfl)) (Ext.refl _)
    have b1_1 : Hid (At (w2.heap.size) 1 (.slice sp1 sl1 sc1) v3) := by rw [hv3]; exact At.ext (At.n0 (by rfl)) (Ext.refl _)
    have b1_2 : Hid (At (w2.heap.size) 2 (.slice tp1 tl1 tc1) v3) := by rw [hv3]; exact At.ext (At.n0 (by rfl)) (Ext.refl _)
    have k1 : Hid (Bx 3 (w2.heap.size) v3) := by rw [hv3]; exact Bx.gr (Bx.n0 3 ⟨rfl, by decide⟩ (by decide) noI_s3) (Ext.gr (Ext.refl _))
    have u1 : Hid (w2.heap.size < v3.heap.size) := b1_0.out.2
    have e3_ : Ext w v3 := Ext.trans e2_ y3
    rw [← hv3]
    clear hv3
    go_ret
    exact ⟨rfl, e3_⟩
  have HS : Hid (decide (q.num < 0) = b) := hs
  by_cases ha : dig q.num.natAbs = A
  case neg =>
    obtain rfl : c = false := by rw [← hc, decide_eq_false_iff_not]; rintro ⟨-, -, h, -⟩; exact ha h
    have HA : Hid (decide (dig q.num.natAbs = A) = false) := decide_eq_false ha
    clear hb0 hs ha hc
    go_enter Tryz.func88, Tryz.ntmps88
    go_wp2_with fail
    obtain ⟨v1, hv1⟩ : ∃ W, W = (w.alloc (.cells #[.bool b, .slice pa A.length qa, .slice pb B.length qb] 44)) := ⟨_, rfl⟩
    have y1 : Ext w v1 := by rw [hv1]; exact ((Ext.refl _).alloc _)
    have b0_0 : Hid (At (w.heap.size) 0 (.bool b) v1) := by rw [hv1]; exact At.ext (At.n0 (by rfl)) (Ext.refl _)
    have b0_1 : Hid (At (w.heap.size) 1 (.slice pa A.length qa) v1) := by rw [hv1]; exact At.ext (At.n0 (by rfl)) (Ext.refl _)
    have b0_2 : Hid (At (w.heap.size) 2 (.slice pb B.length qb) v1) := by rw [hv1]; exact At.ext (At.n0 (by rfl)) (Ext.refl _)
    have k0 : Hid (Bx 3 (w.heap.size) v1) := by rw [hv1]; exact Bx.gr (Bx.n0 3 ⟨rfl, by decide⟩ (by decide) noI_s3) (Ext.gr (Ext.refl _))
    have u0 : Hid (w.heap.size < v1.heap.size) := b0_0.out.2
    have e1_ : Ext w v1 := y1
    rw [← hv1]
    clear hv1
    refine (rmake_is ⟨_, (hA.ext y1), rfl, HLA.out⟩ ⟨_, (hB.ext y1), rfl, HLB.out⟩ HB0.out (by have h1 := HK.out; have h2 := HLA.out; have h3 := HLB.out; omega) (by have h1 := HK.out; have h2 := HLA.out; have h3 := HLB.out; omega) HQ.out).mono ?_
    rintro e w2 ⟨sb1, sv1, su1, sm1, sd1, rfl, e1, o1, x2⟩
    have e2_ : Ext w w2 := Ext.trans e1_ x2
    obtain ⟨sp1, sl1, sc1, tp1, tl1, tc1, rfl, rfl⟩ := e1.slice
    have hsb : sb1 = b := e1.1.symm.trans HS.out
    subst sb1
    have g0_0 := (b0_0.out.ext x2).1
    have g0_1 := (b0_1.out.ext x2).1
    have f0 : w.heap.size < w2.heap.size := (b0_0.out.ext x2).2
    go_wp2_with fail
    obtain ⟨v3, hv3⟩ : ∃ W, W = (w2.alloc (.cells #[.bool b, .slice sp1 sl1 sc1, .slice tp1 tl1 tc1] 44)) := ⟨_, rfl⟩
    have y3 : Ext w2 v3 := by rw [hv3]; exact ((Ext.refl _).alloc _)
    have b1_0 : Hid (At (w2.heap.size) 0 (.bool b) v3) := by rw [hv3]; exact At.ext (At.n0 (by rfl)) (Ext.refl _)
    have b1_1 : Hid (At (w2.heap.size) 1 (.slice sp1 sl1 sc1) v3) := by rw [hv3]; exact At.ext (At.n0 (by rfl)) (Ext.refl _)
    have b1_2 : Hid (At (w2.heap.size) 2 (.slice tp1 tl1 tc1) v3) := by rw [hv3]; exact At.ext (At.n0 (by rfl)) (Ext.refl _)
    have k1 : Hid (Bx 3 (w2.heap.size) v3) := by rw [hv3]; exact Bx.gr (Bx.n0 3 ⟨rfl, by decide⟩ (by decide) noI_s3) (Ext.gr (Ext.refl _))
    have u1 : Hid (w2.heap.size < v3.heap.size) := b1_0.out.2
    have e3_ : Ext w v3 := Ext.trans e2_ y3
    rw [← hv3]
    clear hv3
    refine (equal_is (e1.ext y3).2.2.2.1 (hA.ext (y1.trans (x2.trans y3))) (by rw [e1.2.1.symm]; exact HLM.out) (by have h1 := HK.out; have h2 := HLA.out; have h3 := HLB.out; omega) false (by rw [e1.2.1.symm]; exact HA.out)).mono ?_
    rintro e w4 ⟨rfl, x4⟩
    have e4_ : Ext w w4 := Ext.trans e3_ x4
    clear g0_0 g0_1 f0
    go_wp2_with fail
    go_ret
    exact ⟨rfl, e4_⟩
  have HA : Hid (decide (dig q.num.natAbs = A) = true) := decide_eq_true ha
  by_cases hd : dig q.den = B
  case neg =>
    obtain rfl : c = false := by rw [← hc, decide_eq_false_iff_not]; rintro ⟨-, -, -, h⟩; exact hd h
    have HD : Hid (decide (dig q.den = B) = false) := decide_eq_false hd
    clear hb0 hs ha hd hc
    go_enter Tryz.func88, Tryz.ntmps88
    go_wp2_with fail
    obtain ⟨v1, hv1⟩ : ∃ W, W = (w.alloc (.cells #[.bool b, .slice pa A.length qa, .slice pb B.length qb] 44)) := ⟨_, rfl⟩
    have y1 : Ext w v1 := by rw [hv1]; exact ((Ext.refl _).alloc _)
    have b0_0 : Hid (At (w.heap.size) 0 (.bool b) v1) := by rw [hv1]; exact At.ext (At.n0 (by rfl)) (Ext.refl _)
    have b0_1 : Hid (At (w.heap.size) 1 (.slice pa A.length qa) v1) := by rw [hv1]; exact At.ext (At.n0 (by rfl)) (Ext.refl _)
    have b0_2 : Hid (At (w.heap.size) 2 (.slice pb B.length qb) v1) := by rw [hv1]; exact At.ext (At.n0 (by rfl)) (Ext.refl _)
    have k0 : Hid (Bx 3 (w.heap.size) v1) := by rw [hv1]; exact Bx.gr (Bx.n0 3 ⟨rfl, by decide⟩ (by decide) noI_s3) (Ext.gr (Ext.refl _))
    have u0 : Hid (w.heap.size < v1.heap.size) := b0_0.out.2
    have e1_ : Ext w v1 := y1
    rw [← hv1]
    clear hv1
    refine (rmake_is ⟨_, (hA.ext y1), rfl, HLA.out⟩ ⟨_, (hB.ext y1), rfl, HLB.out⟩ HB0.out (by have h1 := HK.out; have h2 := HLA.out; have h3 := HLB.out; omega) (by have h1 := HK.out; have h2 := HLA.out; have h3 := HLB.out; omega) HQ.out).mono ?_
    rintro e w2 ⟨sb1, sv1, su1, sm1, sd1, rfl, e1, o1, x2⟩
    have e2_ : Ext w w2 := Ext.trans e1_ x2
    obtain ⟨sp1, sl1, sc1, tp1, tl1, tc1, rfl, rfl⟩ := e1.slice
    have hsb : sb1 = b := e1.1.symm.trans HS.out
    subst sb1
    have g0_0 := (b0_0.out.ext x2).1
    have g0_1 := (b0_1.out.ext x2).1
    have f0 : w.heap.size < w2.heap.size := (b0_0.out.ext x2).2
    go_wp2_with fail
    obtain ⟨v3, hv3⟩ : ∃ W, W = (w2.alloc (.cells #[.bool b, .slice sp1 sl1 sc1, .slice tp1 tl1 tc1] 44)) := ⟨_, rfl⟩
    have y3 : Ext w2 v3 := by rw [hv3]; exact ((Ext.refl _).alloc _)
    have b1_0 : Hid (At (w2.heap.size) 0 (.bool b) v3) := by rw [hv3]; exact At.ext (At.n0 (by rfl)) (Ext.refl _)
    have b1_1 : Hid (At (w2.heap.size) 1 (.slice sp1 sl1 sc1) v3) := by rw [hv3]; exact At.ext (At.n0 (by rfl)) (Ext.refl _)
    have b1_2 : Hid (At (w2.heap.size) 2 (.slice tp1 tl1 tc1) v3) := by rw [hv3]; exact At.ext (At.n0 (by rfl)) (Ext.refl _)
    have k1 : Hid (Bx 3 (w2.heap.size) v3) := by rw [hv3]; exact Bx.gr (Bx.n0 3 ⟨rfl, by decide⟩ (by decide) noI_s3) (Ext.gr (Ext.refl _))
    have u1 : Hid (w2.heap.size < v3.heap.size) := b1_0.out.2
    have e3_ : Ext w v3 := Ext.trans e2_ y3
    rw [← hv3]
    clear hv3
    refine (equal_is (e1.ext y3).2.2.2.1 (hA.ext (y1.trans (x2.trans y3))) (by rw [e1.2.1.symm]; exact HLM.out) (by have h1 := HK.out; have h2 := HLA.out; have h3 := HLB.out; omega) true (by rw [e1.2.1.symm]; exact HA.out)).mono ?_
    rintro e w4 ⟨rfl, x4⟩
    have e4_ : Ext w w4 := Ext.trans e3_ x4
    clear g0_0 g0_1 f0
    have g1_2 := (b1_2.out.ext x4).1
    have g0_2 := (b0_2.out.ext (x2.trans (y3.trans x4))).1
    have f1 : w2.heap.size < w4.heap.size := (b1_0.out.ext x4).2
    have f0 : w.heap.size < w4.heap.size := (b0_0.out.ext (x2.trans (y3.trans x4))).2
    go_wp2_with fail
    refine (equal_is (e1.ext (y3.trans x4)).2.2.2.2 (hB.ext (y1.trans (x2.trans (y3.trans x4)))) (by rw [e1.2.2.1.symm]; exact HLD.out) (by have h1 := HK.out; have h2 := HLA.out; have h3 := HLB.out; omega) false (by rw [e1.2.2.1.symm]; exact HD.out)).mono ?_
    rintro e w5 ⟨rfl, x5⟩
    have e5_ : Ext w w5 := Ext.trans e4_ x5
    clear g1_2 g0_2 f1 f0
    go_wp2_with fail
    go_ret
    exact ⟨rfl, e5_⟩
  case pos =>
    obtain rfl : c = true := by rw [← hc, decide_eq_true_eq]; exact ⟨hb0, hs, ha, hd⟩
    have HD : Hid (decide (dig q.den = B) = true) := decide_eq_true hd
    clear hb0 hs ha hd hc
    go_enter Tryz.func88, Tryz.ntmps88
    go_wp2_with fail
    obtain ⟨v1, hv1⟩ : ∃ W, W = (w.alloc (.cells #[.bool b, .slice pa A.length qa, .slice pb B.length qb] 44)) := ⟨_, rfl⟩
    have y1 : Ext w v1 := by rw [hv1]; exact ((Ext.refl _).alloc _)
    have b0_0 : Hid (At (w.heap.size) 0 (.bool b) v1) := by rw [hv1]; exact At.ext (At.n0 (by rfl)) (Ext.refl _)
    have b0_1 : Hid (At (w.heap.size) 1 (.slice pa A.length qa) v1) := by rw [hv1]; exact At.ext (At.n0 (by rfl)) (Ext.refl _)
    have b0_2 : Hid (At (w.heap.size) 2 (.slice pb B.length qb) v1) := by rw [hv1]; exact At.ext (At.n0 (by rfl)) (Ext.refl _)
    have k0 : Hid (Bx 3 (w.heap.size) v1) := by rw [hv1]; exact Bx.gr (Bx.n0 3 ⟨rfl, by decide⟩ (by decide) noI_s3) (Ext.gr (Ext.refl _))
    have u0 : Hid (w.heap.size < v1.heap.size) := b0_0.out.2
    have e1_ : Ext w v1 := y1
    rw [← hv1]
    clear hv1
    refine (rmake_is ⟨_, (hA.ext y1), rfl, HLA.out⟩ ⟨_, (hB.ext y1), rfl, HLB.out⟩ HB0.out (by have h1 := HK.out; have h2 := HLA.out; have h3 := HLB.out; omega) (by have h1 := HK.out; have h2 := HLA.out; have h3 := HLB.out; omega) HQ.out).mono ?_
    rintro e w2 ⟨sb1, sv1, su1, sm1, sd1, rfl, e1, o1, x2⟩
    have e2_ : Ext w w2 := Ext.trans e1_ x2
    obtain ⟨sp1, sl1, sc1, tp1, tl1, tc1, rfl, rfl⟩ := e1.slice
    have hsb : sb1 = b := e1.1.symm.trans HS.out
    subst sb1
    have g0_0 := (b0_0.out.ext x2).1
    have g0_1 := (b0_1.out.ext x2).1
    have f0 : w.heap.size < w2.heap.size := (b0_0.out.ext x2).2
    go_wp2_with fail
    obtain ⟨v3, hv3⟩ : ∃ W, W = (w2.alloc (.cells #[.bool b, .slice sp1 sl1 sc1, .slice tp1 tl1 tc1] 44)) := ⟨_, rfl⟩
    have y3 : Ext w2 v3 := by rw [hv3]; exact ((Ext.refl _).alloc _)
    have b1_0 : Hid (At (w2.heap.size) 0 (.bool b) v3) := by rw [hv3]; exact At.ext (At.n0 (by rfl)) (Ext.refl _)
    have b1_1 : Hid (At (w2.heap.size) 1 (.slice sp1 sl1 sc1) v3) := by rw [hv3]; exact At.ext (At.n0 (by rfl)) (Ext.refl _)
    have b1_2 : Hid (At (w2.heap.size) 2 (.slice tp1 tl1 tc1) v3) := by rw [hv3]; exact At.ext (At.n0 (by rfl)) (Ext.refl _)
    have k1 : Hid (Bx 3 (w2.heap.size) v3) := by rw [hv3]; exact Bx.gr (Bx.n0 3 ⟨rfl, by decide⟩ (by decide) noI_s3) (Ext.gr (Ext.refl _))
    have u1 : Hid (w2.heap.size < v3.heap.size) := b1_0.out.2
    have e3_ : Ext w v3 := Ext.trans e2_ y3
    rw [← hv3]
    clear hv3
    refine (equal_is (e1.ext y3).2.2.2.1 (hA.ext (y1.trans (x2.trans y3))) (by rw [e1.2.1.symm]; exact HLM.out) (by have h1 := HK.out; have h2 := HLA.out; have h3 := HLB.out; omega) true (by rw [e1.2.1.symm]; exact HA.out)).mono ?_
    rintro e w4 ⟨rfl, x4⟩
    have e4_ : Ext w w4 := Ext.trans e3_ x4
    clear g0_0 g0_1 f0
    have g1_2 := (b1_2.out.ext x4).1
    have g0_2 := (b0_2.out.ext (x2.trans (y3.trans x4))).1
    have f1 : w2.heap.size < w4.heap.size := (b1_0.out.ext x4).2
    have f0 : w.heap.size < w4.heap.size := (b0_0.out.ext (x2.trans (y3.trans x4))).2
    go_wp2_with fail
    refine (equal_is (e1.ext (y3.trans x4)).2.2.2.2 (hB.ext (y1.trans (x2.trans (y3.trans x4)))) (by rw [e1.2.2.1.symm]; exact HLD.out) (by have h1 := HK.out; have h2 := HLA.out; have h3 := HLB.out; omega) true (by rw [e1.2.2.1.symm]; exact HD.out)).mono ?_
    rintro e w5 ⟨rfl, x5⟩
    have e5_ : Ext w w5 := Ext.trans e4_ x5
    clear g1_2 g0_2 f1 f0
    go_wp2_with fail
    go_ret
    exact ⟨rfl, e5_⟩
/-- what is told may be -/
theorem rmay_is {w : World} {b : Bool} {v u : Value} {m d k : Nat} {q : Rat} (h : IsR w b v u m d q) (hk : LenR k q) (hk2 : k ≤ 65535) :
    Calls Tryz.prog 88 #[.agg #[.bool b, v, u]] w fun e w' => e = .returned (.bool true) ∧ Ext w w' := by
  refine rmay_raw (q := q) h.mag h.den ?_ (dig_len_le hk.1) (dig_len_le hk.2) hk.pos hk2 true ?_
  · have := h.num.iv; rw [← h.2.1] at this; rw [this, val_dig, Rat.mkRat_self]
  · rw [decide_eq_true_eq, val_dig]; exact ⟨q.den_nz, h.1, rfl, rfl⟩

end Go.Proofs.YtefeglkbikcjeaaGreatDoor

/- The contract of strings.Cut at one byte; the texts of fractions. -/
namespace Go.Proofs.YtefeglkbikcjeaaGreatDoor
open Go Go.RowKit

set_option maxHeartbeats 1000000 in
set_option maxRecDepth 100000 in
theorem indexByte_calls (s : ByteArray) (c : Int) (w : World) :
    Calls Tryz.prog 193 #[.string s, .int .u8 c] w fun e w' => e = .returned (.int .i64 (Lib.indexByte s.data.toList c.toNat.toUInt8)) ∧ w = w' := by
  go_enter Tryz.func193, Tryz.ntmps193
  go_wp2
  rw [run_callFunc_extern Tryz.func194 (by kernel_rfl) (by kernel_rfl) (by kernel_rfl) (e := Extern.BytealgIndexByte.indexByte) (by kernel_rfl), Lib.run_indexByteString]
  simp only [Result.andThen]
  rw [Oper.upon_value]
  go_wp2
  go_ret
  exact ⟨rfl, rfl⟩
end Go.Proofs.YtefeglkbikcjeaaGreatDoor

/- The contract of quo.Pow. -/
namespace Go.Proofs.YtefeglkbikcjeaaGreatDoor
open Go Go.RowKit

theorem pow_lt_gen {m n K : Nat} (h : bl m * n < 64 * K) : m ^ n < Bs ^ K := by
  rw [Bs_eq, ← Nat.pow_mul]
  have h1 : m ^ n ≤ (2 ^ bl m) ^ n := Nat.pow_le_pow_left (Nat.le_of_lt (lt_bl m)) n
  rw [← Nat.pow_mul] at h1
  exact Nat.lt_of_le_of_lt h1 (Nat.pow_lt_pow_right (by decide) h)
theorem kp_ex : ∃ b : Nat, b = 16385 := ⟨_, rfl⟩
/-- how many limbs a power has at most -/
noncomputable def Kp : Nat := Classical.choose kp_ex
theorem Kp_def : Kp = 16385 := Classical.choose_spec kp_ex
theorem pow_lt_bs {m n : Nat} (h : bl m * n ≤ 1048576) : m ^ n < Bs ^ Kp := pow_lt_gen (by rw [Kp_def]; omega)
theorem pow_odd {a s N G : Nat} (h : a * s ^ N = G) (ho : N % 2 = 1) : a * s * (s * s) ^ (N / 2) = G := by
  rw [← h]
  conv => rhs; rw [show N = 1 + (N / 2 + N / 2) by omega, Nat.pow_add, Nat.pow_add, Nat.pow_one]
  rw [Nat.mul_pow, Nat.mul_assoc]
theorem pow_even {a s N G : Nat} (h : a * s ^ N = G) (ho : N % 2 = 0) : a * (s * s) ^ (N / 2) = G := by
  rw [← h]
  conv => rhs; rw [show N = N / 2 + N / 2 by omega, Nat.pow_add]
  rw [Nat.mul_pow]
theorem le_of_fac {a s N G : Nat} (h : a * s ^ N = G) (hs : 1 ≤ s) : a ≤ G := by
  rw [← h]; exact Nat.le_mul_of_pos_right _ (Nat.pow_pos hs)
theorem le_of_fac2 {a s N G : Nat} (h : a * s ^ N = G) (ha : 1 ≤ a) (hN : N ≠ 0) : s ≤ G := by
  rw [← h]
  refine Nat.le_trans ?_ (Nat.le_mul_of_pos_left _ ha)
  exact Nat.le_self_pow hN s
/-- the call returns n, and no error -/
def RetN0 (w : World) (n : Nat) (e : Ending) (w' : World) : Prop := ∃ v, e = .returned (.tuple #[v, .int .i64 0]) ∧ OwnL w.heap.size w' v (dig n) ∧ Ext w w'

end Go.Proofs.YtefeglkbikcjeaaGreatDoor
