/- Facts and contracts, joined: Rat4, Rat5, Cut, Pow. -/
import Derived.Test.YtefeglkbikcjeaaDoorPartD
import Derived.Test.YtefeglkbikcjeaaDoorPartA
import Derived.Test.YtefeglkbikcjeaaDoorPartC
import Derived.Lib.Bytealg
import Derived.Lib.IndexLaws
import Derived.Laws.Externs

/- The contracts of package rat: differences, quotients, halves. -/
namespace Go.Proofs.YtefeglkbikcjeaaDoor
open Go Go.RowKit

theorem quo_sg {a b : Rat} {s t : Bool} (h1 : decide (a.num < 0) = s) (h2 : decide (b.num < 0) = t) (hb : b ≠ 0) : mkRat (sgI (s != t) (a.num.natAbs * b.den)) (a.den * b.num.natAbs) = a / b := by
  rw [← quo_mk]
  congr 1
  have hn : b.num ≠ 0 := fun h => hb (Rat.num_eq_zero.1 h)
  have e : ∀ x : Int, (0 ≤ x ∧ (x.natAbs : Int) = x) ∨ (x < 0 ∧ (x.natAbs : Int) = -x) := fun x => by omega
  subst h1 h2
  rcases e a.num with ⟨a1, a2⟩ | ⟨a1, a2⟩ <;> rcases Int.lt_or_gt_of_ne hn with c1 | c1
  · rw [Int.sign_eq_neg_one_of_neg c1]; simp [sgI, Int.not_lt.2 a1, c1, a2, Int.mul_neg_one]
  · rw [Int.sign_eq_one_of_pos c1]; simp [sgI, Int.not_lt.2 a1, Int.not_lt.2 (Int.le_of_lt c1), a2]
  · rw [Int.sign_eq_neg_one_of_neg c1]; simp [sgI, a1, c1, a2, Int.mul_neg_one, Int.neg_mul]
  · rw [Int.sign_eq_one_of_pos c1]; simp [sgI, a1, Int.not_lt.2 (Int.le_of_lt c1), a2, Int.neg_mul]

theorem nshl_n {w : World} {v : Value} {k m : Nat} (h : InN w v k m) (n : Int) (hk : k ≤ 65535) (hn : 0 ≤ n ∧ n ≤ 65536) : Calls Tryd.prog 64 #[v, .int .i64 n] w fun e w' => ∃ r, e = .returned (.tuple #[r, .int .i64 0]) ∧ OwnL w.heap.size w' r (dig (m * 2 ^ n.toNat)) ∧ Ext w w' := by
  obtain ⟨A, h1, rfl, h3⟩ := h
  refine (shl_calls h1 (by omega) n).mono ?_
  rintro e w' ⟨r, he, hr, hx⟩
  refine ⟨r, by rw [he, if_pos hn], by rw [if_pos hn] at hr; exact hr, hx⟩
theorem nshl_bad {w : World} {v : Value} {k m : Nat} (h : InN w v k m) (n : Int) (hk : k ≤ 65535) (hn : ¬ (0 ≤ n ∧ n ≤ 65536)) : Calls Tryd.prog 64 #[v, .int .i64 n] w fun e w' => ∃ r, e = .returned (.tuple #[r, .int .i64 1]) ∧ OwnL w.heap.size w' r (dig 0) ∧ Ext w w' := by
  obtain ⟨A, h1, rfl, h3⟩ := h
  refine (shl_calls h1 (by omega) n).mono ?_
  rintro e w' ⟨r, he, hr, hx⟩
  exact ⟨r, by rw [he, if_neg hn], by rw [if_neg hn] at hr; exact hr, hx⟩

end Go.Proofs.YtefeglkbikcjeaaDoor

/- The contracts of rat.equal, rat.Same, rat.May, and of tombolaref06.Is. -/
namespace Go.Proofs.YtefeglkbikcjeaaDoor
open Go Go.RowKit

theorem val_inj {A B : List Nat} (hA : ∀ x ∈ A, x < Bs) (hB : ∀ x ∈ B, x < Bs) (hl : A.length = B.length) (h : val A = val B) : A = B := by
  refine List.ext_getElem hl fun i h1 h2 => ?_
  have e1 := el_val hA i
  have e2 := el_val hB i
  rw [el_of_lt h1] at e1
  rw [el_of_lt h2] at e2
  rw [e1, e2, h]
set_option maxHeartbeats 1000000 in
theorem equal_is {w : World} {v u : Value} {A B : List Nat} (hA : Limbs w v A) (hB : Limbs w u B) (hlA : A.length ≤ 65535) (hlB : B.length ≤ 65535) (b : Bool) (hb : decide (A = B) = b) :
    Calls Tryd.prog 56 #[v, u] w fun e w' => e = .returned (.bool b) ∧ Ext w w' := by
  obtain ⟨pa, qa, rfl, -, -, -⟩ := hA.open
  obtain ⟨pb, qb, rfl, -, -, -⟩ := hB.open
  have H1 := Lib.hid (lmax_17 hlA)
  have H2 := Lib.hid (lmax_17 hlB)
  by_cases hl : A.length = B.length
  · have hl' : ((A.length : Int) == (B.length : Int)) = true := by simp [hl]
    obtain ⟨k, hk⟩ : ∃ k, cmpN (val A) (val B) = k := ⟨_, rfl⟩
    obtain ⟨c, hc⟩ : ∃ c, ((k : Int) == 0) = c := ⟨_, rfl⟩
    have HB : Hid (c = b) := by
      show _ = _
      rw [← hc, ← hb, ← hk, Bool.eq_iff_iff, beq_iff_eq, decide_eq_true_eq]
      constructor
      · intro h
        refine val_inj hA.2 hB.2 hl ?_
        unfold cmpN at h
        split at h; · omega
        split at h; · omega
        omega
      · rintro rfl; exact cmpN_eq rfl
    have HK := Lib.hid hk
    have HC := Lib.hid hc
    have HL := Lib.hid hl
    clear hlA hlB hb hk hl hc
    go_enter Tryd.func56, Tryd.ntmps56
    go_wp2_with fail
    refine (cmp_int hA hB H1.out H2.out k HK.out).mono ?_
    rintro e w1 ⟨rfl, rfl⟩
    go_wp2_with fail
    all_goals (go_ret; refine ⟨?_, Ext.refl _⟩)
    all_goals (rw [← HB.out, ← HC.out]; try rfl)
    all_goals (try simp [*])
  · have hl' : ((A.length : Int) == (B.length : Int)) = false := by rw [beq_eq_false_iff_ne]; omega
    have HB : Hid (false = b) := by
      show _ = _
      rw [← hb, eq_comm, decide_eq_false_iff_not]
      rintro rfl; exact hl rfl
    clear hlA hlB hb hl
    go_enter Tryd.func56, Tryd.ntmps56
    go_wp2_with fail
    go_ret
    exact ⟨by rw [HB.out]; rfl, Ext.refl _⟩

theorem isR_eq {w w' : World} {b1 b2 : Bool} {v1 u1 v2 u2 : Value} {m1 d1 m2 d2 : Nat} {p q : Rat} (h : IsR w b1 v1 u1 m1 d1 p) (g : IsR w' b2 v2 u2 m2 d2 q) : decide (b1 = b2 ∧ dig m1 = dig m2 ∧ dig d1 = dig d2) = decide (p = q) := by
  rw [Bool.eq_iff_iff, decide_eq_true_eq, decide_eq_true_eq]
  constructor
  · rintro ⟨e1, e2, e3⟩
    have e2 : m1 = m2 := by rw [← val_dig m1, e2, val_dig]
    have e3 : d1 = d2 := by rw [← val_dig d1, e3, val_dig]
    have e4 : p.num < 0 ↔ q.num < 0 := by
      have := h.1.trans (e1.trans g.1.symm); simpa using this
    have e5 := h.2.1
    have e6 := g.2.1
    refine Rat.ext (by omega) ?_
    rw [h.2.2.1, g.2.2.1, e3]
  · rintro rfl
    refine ⟨h.1.symm.trans g.1, ?_, ?_⟩
    · rw [← h.2.1, ← g.2.1]
    · rw [← h.2.2.1, ← g.2.2.1]
end Go.Proofs.YtefeglkbikcjeaaDoor

/- The contract of strings.Cut at one byte; the texts of fractions. -/
namespace Go.Proofs.YtefeglkbikcjeaaDoor
open Go Go.RowKit

set_option maxHeartbeats 1000000 in
set_option maxRecDepth 100000 in
theorem indexByte_calls (s : ByteArray) (c : Int) (w : World) :
    Calls Tryd.prog 119 #[.string s, .int .u8 c] w fun e w' => e = .returned (.int .i64 (Lib.indexByte s.data.toList c.toNat.toUInt8)) ∧ w = w' := by
  go_enter Tryd.func119, Tryd.ntmps119
  go_wp2
  rw [run_callFunc_extern Tryd.func120 (by kernel_rfl) (by kernel_rfl) (by kernel_rfl) (e := Extern.BytealgIndexByte.indexByte) (by kernel_rfl), Lib.run_indexByteString]
  simp only [Result.andThen]
  rw [Oper.upon_value]
  go_wp2
  go_ret
  exact ⟨rfl, rfl⟩
end Go.Proofs.YtefeglkbikcjeaaDoor

/- The contract of quo.Pow. -/
namespace Go.Proofs.YtefeglkbikcjeaaDoor
open Go Go.RowKit

theorem pow_lt_gen {m n K : Nat} (h : bl m * n < 64 * K) : m ^ n < Bs ^ K := by
  rw [Bs_eq, ← Nat.pow_mul]
  have h1 : m ^ n ≤ (2 ^ bl m) ^ n := Nat.pow_le_pow_left (Nat.le_of_lt (lt_bl m)) n
  rw [← Nat.pow_mul] at h1
  exact Nat.lt_of_le_of_lt h1 (Nat.pow_lt_pow_right (by decide) h)
theorem kp_ex : ∃ b : Nat, b = 16385 := ⟨_, rfl⟩
/-- how many limbs a power has at most -/
noncomputable def Kp : Nat := Classical.choose kp_ex
theorem Kp_def : Kp = 16385 := Classical.choose_spec kp_ex
theorem pow_lt_bs {m n : Nat} (h : bl m * n ≤ 1048576) : m ^ n < Bs ^ Kp := pow_lt_gen (by rw [Kp_def]; omega)
theorem pow_odd {a s N G : Nat} (h : a * s ^ N = G) (ho : N % 2 = 1) : a * s * (s * s) ^ (N / 2) = G := by
  rw [← h]
  conv => rhs; rw [show N = 1 + (N / 2 + N / 2) by omega, Nat.pow_add, Nat.pow_add, Nat.pow_one]
  rw [Nat.mul_pow, Nat.mul_assoc]
theorem pow_even {a s N G : Nat} (h : a * s ^ N = G) (ho : N % 2 = 0) : a * (s * s) ^ (N / 2) = G := by
  rw [← h]
  conv => rhs; rw [show N = N / 2 + N / 2 by omega, Nat.pow_add]
  rw [Nat.mul_pow]
theorem le_of_fac {a s N G : Nat} (h : a * s ^ N = G) (hs : 1 ≤ s) : a ≤ G := by
  rw [← h]; exact Nat.le_mul_of_pos_right _ (Nat.pow_pos hs)
theorem le_of_fac2 {a s N G : Nat} (h : a * s ^ N = G) (ha : 1 ≤ a) (hN : N ≠ 0) : s ≤ G := by
  rw [← h]
  refine Nat.le_trans ?_ (Nat.le_mul_of_pos_left _ ha)
  exact Nat.le_self_pow hN s
/-- the call returns n, and no error -/
def RetN0 (w : World) (n : Nat) (e : Ending) (w' : World) : Prop := ∃ v, e = .returned (.tuple #[v, .int .i64 0]) ∧ OwnL w.heap.size w' v (dig n) ∧ Ext w w'

end Go.Proofs.YtefeglkbikcjeaaDoor
