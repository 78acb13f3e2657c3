/- Contracts of package whole: Make, May, Of, Small, Sign, Cmp, Neg. -/
import Derived.Test.YtomhfipgabpfiaaGreatDoorNat3
import Derived.Test.YtomhfipgabpfiaaGreatDoorStr
import Derived.Test.YtomhfipgabpfiaaGreatDoorDivAll
import Derived.IntWalk
namespace Go.Proofs.YtomhfipgabpfiaaGreatDoor
open Go Go.RowKit

/-- a whole number, as it is told -/
noncomputable def iv (neg : Bool) (A : List Nat) : Int := if neg then -(val A : Int) else (val A : Int)
theorem iv_abs (neg : Bool) (A : List Nat) : (iv neg A).natAbs = val A := by unfold iv; split <;> omega
theorem iv_neg (neg : Bool) (A : List Nat) : decide (iv neg A < 0) = (neg && !decide (val A = 0)) := by
  unfold iv
  cases neg
  · simp
  · by_cases h : val A = 0
    · simp [h]
    · simp [h]; omega

/-- the call returns the whole number z, in new memory -/
def RetI (w : World) (z : Int) (e : Ending) (w' : World) : Prop := ∃ v, e = .returned (.agg #[.bool (decide (z < 0)), v]) ∧ OwnL w.heap.size w' v (dig z.natAbs) ∧ Ext w w'

theorem OwnL.set_other {B : Nat} {w : World} {v : Value} {A : List Nat} (h : OwnL B w v A) {p : Addr} (hp : p.block < B) (u : Value) : OwnL B (w.setCell p u) v A := by
  refine ⟨?_, h.2⟩
  rcases h.1 with h1 | ⟨a, h1, h2, h3, h4⟩
  · refine .inl (h1.kept (row := some p.block) ⟨rfl, rfl, rfl, by simp [World.setCell], fun k hk hne => Below.heap_setCell _ _ _ _ (fun e => hne (by rw [e]))⟩ ?_)
    cases hv : v.ownBlock with
    | none => exact .inl rfl
    | some b =>
      right
      intro e
      have h5 := (h1.lt b hv).1
      have h6 : p.block = b := by injection e with e; exact e.symm
      omega
  · exact .inr ⟨a, h1, h2, h3, fun q hq => ⟨(h4 q hq).1, by have := (h4 q hq).2; simpa [World.setCell] using this⟩⟩

theorem cell_ext {a b : World} (x : Ext a b) {p : Addr} {u : Value} (h : a.cell? p = some u) (hp : p.block < a.heap.size) : b.cell? p = some u := by rw [Below.cell x hp]; exact h
theorem frozen_ext {a b : World} (x : Ext a b) {p : Addr} (h : a.frozen? p = false) (hp : p.block < a.heap.size) : b.frozen? p = false := by rw [Below.frozen x hp]; exact h
/-- a struct of two cells, boxed, in whatever came behind -/
theorem box2 {w w1 : World} {a b : Value} {t : TypeId} (x : Ext (w.alloc (.cells #[a, b] t)) w1) :
    w1.cell? ⟨w.heap.size, 0, none⟩ = some a ∧ w1.cell? ⟨w.heap.size, 1, none⟩ = some b ∧ w1.frozen? ⟨w.heap.size, 0, none⟩ = false ∧ w1.frozen? ⟨w.heap.size, 1, none⟩ = false :=
  ⟨cell_ext x (by simp [go_sem]) (by simp), cell_ext x (by simp [go_sem]) (by simp), frozen_ext x (by simp [go_sem]) (by simp), frozen_ext x (by simp [go_sem]) (by simp)⟩
/-- a struct is stored into its own box -/
theorem ext_box2 {w w1 : World} {b : Nat} (x : Ext w w1) (hb : w.heap.size ≤ b) (u v : Value) : Ext w ((w1.setCell ⟨b, 0, none⟩ u).setCell ⟨b, 1, none⟩ v) :=
  Below.setCell (Below.setCell x hb _) hb _
theorem OwnL.set2 {B : Nat} {w : World} {v : Value} {A : List Nat} (h : OwnL B w v A) {b : Nat} (hb : b < B) (x y : Value) : OwnL B ((w.setCell ⟨b, 0, none⟩ x).setCell ⟨b, 1, none⟩ y) v A :=
  (h.set_other (p := ⟨b, 0, none⟩) hb x).set_other (p := ⟨b, 1, none⟩) hb y

set_option maxHeartbeats 1000000 in
set_option maxRecDepth 100000 in
theorem make_calls {w : World} {v : Value} {A : List Nat} (hA : Limbs w v A) (hl : A.length ≤ 65536) (neg : Bool) :
    Calls Tryz.prog 22 #[.bool neg, v] w (RetI w (iv neg A)) := by
  have HE : Hid (decide (iv neg A < 0) = (neg && !decide (val A = 0))) := iv_neg neg A
  have HB : Hid ((iv neg A).natAbs = val A) := iv_abs neg A
  have HL := Lib.hid (lmax_16 hl)
  obtain ⟨pa, pc, rfl, -, -, -⟩ := hA.open
  obtain ⟨z, hz⟩ : ∃ z, z = decide (val A = 0) := ⟨_, rfl⟩
  have HZ := Lib.hid hz
  have y0 := (Ext.refl w).alloc (.cells #[.bool false, .slice none 0 0] 25)
  rw [← hz] at HE
  clear hl hz
  cases neg with
  | false =>
    go_enter Tryz.func22, Tryz.ntmps22
    go_wp2_with fail
    refine (trim_calls (hA.ext y0) HL.out).mono ?_
    rintro e w1 ⟨r, rfl, hr, x1⟩
    obtain ⟨c1, c2, c3, c4⟩ := box2 x1
    obtain ⟨ra, rc, rfl, -, -, -⟩ := hr.limbs.open
    go_wp2_with fail
    refine bodyPost_ret (v := .agg #[.bool false, .slice ra (dig (val A)).length rc]) (by simp [results, Tryz.results22, go_sem, c1, c2]) rfl ⟨_, by rw [HE.out]; rfl, ?_, ?_⟩
    · rw [HB.out]; exact (hr.set2 (by simp) _ _).mono (by simp)
    · exact ext_box2 (y0.trans x1) (Nat.le_refl _) _ _
  | true =>
    go_enter Tryz.func22, Tryz.ntmps22
    go_wp2_with fail
    refine (zero_bool (hA.ext y0) HL.out z HZ.out.symm).mono ?_
    rintro e w0 ⟨rfl, rfl⟩
    go_wp2_with fail
    refine (trim_calls (hA.ext y0) HL.out).mono ?_
    rintro e w1 ⟨r, rfl, hr, x1⟩
    obtain ⟨c1, c2, c3, c4⟩ := box2 x1
    obtain ⟨ra, rc, rfl, -, -, -⟩ := hr.limbs.open
    go_wp2_with fail
    refine bodyPost_ret (v := .agg #[.bool (!z), .slice ra (dig (val A)).length rc]) (by simp [results, Tryz.results22, go_sem, c1, c2]) rfl ⟨_, by rw [HE.out]; rfl, ?_, ?_⟩
    · rw [HB.out]; exact (hr.set2 (by simp) _ _).mono (by simp)
    · exact ext_box2 (y0.trans x1) (Nat.le_refl _) _ _

theorem RetI.mk {w w' : World} {z y : Int} {b : Bool} {v : Value} (hb : decide (z < 0) = b) (h : OwnL w.heap.size w' v (dig z.natAbs)) (x : Ext w w') (e : z = y) : RetI w y (.returned (.agg #[.bool b, v])) w' := by
  subst e; exact ⟨v, by rw [hb], h, x⟩

theorem iv_dig_false (n : Nat) : iv false (dig n) = (n : Int) := by simp [iv, val_dig]
theorem iv_dig_true (n : Nat) : iv true (dig n) = -(n : Int) := by simp [iv, val_dig]
theorem len_one {n : Nat} (h : n < Bs) : (dig n).length ≤ 65536 := dig_lmax (k := 1) (by simpa using h) (by omega)

set_option maxHeartbeats 1000000 in
set_option maxRecDepth 100000 in
theorem iof_calls (w : World) (n : Int) (h1 : -9223372036854775808 ≤ n) (h2 : n ≤ 9223372036854775807) :
    Calls Tryz.prog 26 #[.int .i64 n] w (RetI w n) := by
  obtain ⟨m, hm⟩ : ∃ m, m = n.natAbs := ⟨_, rfl⟩
  have hmB : m < Bs := by rw [Bs_def]; omega
  have HB := Lib.hid hmB
  have HL := Lib.hid (len_one hmB)
  have y0 := (Ext.refl w).alloc (.cells #[.bool false, .slice none 0 0] 25)
  by_cases hn : n < 0
  · have HM : Hid (IntKind.u64.wrap (-IntKind.u64.wrap n) = (m : Int)) := by show _ = _; simp only [IntKind.wrap_u64]; omega
    have HV : Hid (iv true (dig m) = n) := by show _ = _; rw [iv_dig_true]; omega
    clear hm hmB
    go_enter Tryz.func26, Tryz.ntmps26
    go_wp2_with fail
    rw [HM.out]
    refine (of_calls HB.out).mono ?_
    rintro e w1 ⟨v, rfl, hv, x1⟩
    go_wp2_with fail
    refine (make_calls hv.limbs HL.out true).mono ?_
    rintro e w2 ⟨r, rfl, hr, x2⟩
    rw [HV.out] at hr
    obtain ⟨c1, c2, c3, c4⟩ := box2 (x1.trans x2)
    obtain ⟨ra, rc, rfl, -, -, -⟩ := hr.limbs.open
    go_wp2_with fail
    refine bodyPost_ret (v := .agg #[.bool (decide (iv true (dig m) < 0)), .slice ra (dig n.natAbs).length rc]) (by simp [results, Tryz.results26, go_sem, c1, c2]) rfl (RetI.mk (by rw [HV.out]) ?_ ?_ rfl)
    · exact (hr.set2 (by have := x1.size; simp at this; omega) _ _).mono (by have := x1.size; simp at this; omega)
    · exact ext_box2 ((y0.trans x1).trans x2) (Nat.le_refl _) _ _
  · obtain ⟨k, rfl⟩ := Int.eq_ofNat_of_zero_le (Int.not_lt.1 hn)
    have hmk : m = k := by omega
    subst hmk
    have HV : Hid (iv false (dig m) = (m : Int)) := by show _ = _; rw [iv_dig_false]
    clear hm hmB hn
    go_enter Tryz.func26, Tryz.ntmps26
    go_wp2_with fail
    refine (of_calls HB.out).mono ?_
    rintro e w1 ⟨v, rfl, hv, x1⟩
    go_wp2_with fail
    refine (make_calls hv.limbs HL.out false).mono ?_
    rintro e w2 ⟨r, rfl, hr, x2⟩
    rw [HV.out] at hr
    obtain ⟨c1, c2, c3, c4⟩ := box2 (x1.trans x2)
    obtain ⟨ra, rc, rfl, -, -, -⟩ := hr.limbs.open
    go_wp2_with fail
    refine bodyPost_ret (v := .agg #[.bool (decide (iv false (dig m) < 0)), .slice ra (dig ((m : Int)).natAbs).length rc]) (by simp [results, Tryz.results26, go_sem, c1, c2]) rfl (RetI.mk (by rw [HV.out]) ?_ ?_ rfl)
    · exact (hr.set2 (by have := x1.size; simp at this; omega) _ _).mono (by have := x1.size; simp at this; omega)
    · exact ext_box2 ((y0.trans x1).trans x2) (Nat.le_refl _) _ _

set_option maxHeartbeats 1000000 in
set_option maxRecDepth 100000 in
theorem sign_calls {w : World} {v : Value} {A : List Nat} (hA : Limbs w v A) (hl : A.length ≤ 65536) (neg : Bool) :
    Calls Tryz.prog 28 #[.agg #[.bool neg, v]] w fun e w' => e = .returned (.int .i64 (iv neg A).sign) ∧ Ext w w' := by
  have HL := Lib.hid (lmax_16 hl)
  obtain ⟨pa, pc, rfl, -, -, -⟩ := hA.open
  obtain ⟨z, hz⟩ : ∃ z, z = decide (val A = 0) := ⟨_, rfl⟩
  have HZ := Lib.hid hz
  have hS : (iv neg A).sign = if z then 0 else if neg then -1 else 1 := by
    rw [hz]
    unfold iv
    by_cases h : val A = 0
    · simp [h]
    · simp only [h, decide_false]
      cases neg
      · simp only [Bool.false_eq_true, if_false]; exact Int.sign_eq_one_of_pos (by omega)
      · simp only [if_true, Bool.false_eq_true, if_false]; exact Int.sign_eq_neg_one_of_neg (by omega)
  have HS := Lib.hid hS
  have y0 := (Ext.refl w).alloc (.cells #[.bool neg, .slice pa A.length pc] 25)
  clear hl hz hS
  go_enter Tryz.func28, Tryz.ntmps28
  go_wp2_with fail
  refine (zero_bool (hA.ext y0) HL.out z HZ.out.symm).mono ?_
  rintro e w0 ⟨rfl, rfl⟩
  cases z with
  | true =>
    go_wp2_with fail
    go_ret
    exact ⟨ret_eq (int_eq (by rw [HS.out]; rfl)), y0⟩
  | false =>
    cases neg with
    | true =>
      go_wp2_with fail
      go_ret
      exact ⟨ret_eq (int_eq (by rw [HS.out]; rfl)), y0⟩
    | false =>
      go_wp2_with fail
      go_ret
      exact ⟨ret_eq (int_eq (by rw [HS.out]; rfl)), y0⟩

set_option maxHeartbeats 1000000 in
set_option maxRecDepth 100000 in
theorem neg_calls {w : World} {v : Value} {A : List Nat} (hA : Limbs w v A) (hl : A.length ≤ 65536) (neg : Bool) :
    Calls Tryz.prog 9 #[.agg #[.bool neg, v]] w (RetI w (-(iv neg A))) := by
  obtain ⟨pa, pc, rfl, -, -, -⟩ := hA.open
  have HV : Hid (iv (!neg) A = -(iv neg A)) := by show _ = _; unfold iv; cases neg <;> simp
  have y0 := ((Ext.refl w).alloc (.cells #[.bool neg, .slice pa A.length pc] 25)).alloc (.cells #[.bool false, .slice none 0 0] 25)
  have HL := Lib.hid hl
  clear hl
  go_enter Tryz.func9, Tryz.ntmps9
  go_wp2_with fail
  refine (make_calls (hA.ext y0) HL.out (!neg)).mono ?_
  rintro e w2 ⟨r, rfl, hr, x2⟩
  rw [HV.out] at hr
  obtain ⟨c1, c2, c3, c4⟩ := box2 x2
  rw [show (w.alloc (.cells #[.bool neg, .slice pa A.length pc] 25)).heap.size = w.heap.size + 1 by simp] at c1 c2 c3 c4
  obtain ⟨ra, rc, rfl, -, -, -⟩ := hr.limbs.open
  go_wp2_with fail
  refine bodyPost_ret (v := .agg #[.bool (decide (iv (!neg) A < 0)), .slice ra (dig (-(iv neg A)).natAbs).length rc]) (by simp [results, Tryz.results9, go_sem, c1, c2]) rfl (RetI.mk (by rw [HV.out]) ?_ ?_ rfl)
  · exact (hr.set2 (by simp) _ _).mono (by simp; omega)
  · exact ext_box2 (y0.trans x2) (by simp) _ _

/-- two structs of two cells, boxed one behind the other -/
theorem box22 {w w1 : World} {a b c d : Value} {t u : TypeId} (x : Ext ((w.alloc (.cells #[a, b] t)).alloc (.cells #[c, d] u)) w1) :
    (w1.cell? ⟨w.heap.size, 0, none⟩ = some a ∧ w1.cell? ⟨w.heap.size, 1, none⟩ = some b) ∧ (w1.cell? ⟨w.heap.size + 1, 0, none⟩ = some c ∧ w1.cell? ⟨w.heap.size + 1, 1, none⟩ = some d) ∧ (w1.frozen? ⟨w.heap.size + 1, 0, none⟩ = false ∧ w1.frozen? ⟨w.heap.size + 1, 1, none⟩ = false) := by
  have h2 := box2 x
  rw [show (w.alloc (.cells #[a, b] t)).heap.size = w.heap.size + 1 by simp] at h2
  have h1 := box2 (((Ext.refl (w.alloc (.cells #[a, b] t))).alloc (.cells #[c, d] u)).trans x)
  exact ⟨⟨h1.1, h1.2.1⟩, ⟨h2.1, h2.2.1⟩, h2.2.2⟩

/-- -1, 0, 1: less, the same, greater -/
def cmpI (x y : Int) : Int := if x < y then -1 else if y < x then 1 else 0

theorem cmp_sign (n1 n2 : Bool) (A B : List Nat) : (iv n1 A).sign < (iv n2 B).sign ∧ cmpI (iv n1 A) (iv n2 B) = -1 ∨ (iv n2 B).sign < (iv n1 A).sign ∧ cmpI (iv n1 A) (iv n2 B) = 1 ∨
    ¬ (iv n1 A).sign < (iv n2 B).sign ∧ ¬ (iv n2 B).sign < (iv n1 A).sign ∧ cmpI (iv n1 A) (iv n2 B) = (iv n1 A).sign * cmpN (val A) (val B) := by
  obtain ⟨x, hx⟩ : ∃ x, x = iv n1 A := ⟨_, rfl⟩
  obtain ⟨y, hy⟩ : ∃ y, y = iv n2 B := ⟨_, rfl⟩
  have ha : val A = x.natAbs := by rw [hx, iv_abs]
  have hb : val B = y.natAbs := by rw [hy, iv_abs]
  rw [← hx, ← hy, ha, hb]
  have sx : x.sign = if x < 0 then -1 else if 0 < x then 1 else 0 := by
    rcases Int.lt_trichotomy x 0 with h | h | h
    · rw [if_pos h, Int.sign_eq_neg_one_of_neg h]
    · subst h; rfl
    · rw [if_neg (by omega), if_pos h, Int.sign_eq_one_of_pos h]
  have sy : y.sign = if y < 0 then -1 else if 0 < y then 1 else 0 := by
    rcases Int.lt_trichotomy y 0 with h | h | h
    · rw [if_pos h, Int.sign_eq_neg_one_of_neg h]
    · subst h; rfl
    · rw [if_neg (by omega), if_pos h, Int.sign_eq_one_of_pos h]
  rw [sx, sy]
  unfold cmpI cmpN
  rcases Int.lt_trichotomy x 0 with h | h | h <;> rcases Int.lt_trichotomy y 0 with k | k | k
  all_goals (repeat' split) <;> omega

set_option maxHeartbeats 2000000 in
set_option maxRecDepth 100000 in
theorem icmp_calls {w : World} {v u : Value} {A B : List Nat} (hA : Limbs w v A) (hB : Limbs w u B) (hl : A.length ≤ 65536) (hl2 : B.length ≤ 65536) (n1 n2 : Bool) :
    Calls Tryz.prog 30 #[.agg #[.bool n1, v], .agg #[.bool n2, u]] w fun e w' => e = .returned (.int .i64 (cmpI (iv n1 A) (iv n2 B))) ∧ Ext w w' := by
  obtain ⟨pa, pc, rfl, -, -, -⟩ := hA.open
  obtain ⟨qa, qc, rfl, -, -, -⟩ := hB.open
  have hcs := cmp_sign n1 n2 A B
  obtain ⟨a, ha⟩ : ∃ a, a = (iv n1 A).sign := ⟨_, rfl⟩
  obtain ⟨b, hb⟩ : ∃ b, b = (iv n2 B).sign := ⟨_, rfl⟩
  obtain ⟨c, hc⟩ : ∃ c, c = cmpN (val A) (val B) := ⟨_, rfl⟩
  rw [← ha, ← hb, ← hc] at hcs
  have ba : -1 ≤ a ∧ a ≤ 1 := by rw [ha]; rcases Int.lt_trichotomy (iv n1 A) 0 with h | h | h; (rw [Int.sign_eq_neg_one_of_neg h]; decide); (rw [h]; decide); (rw [Int.sign_eq_one_of_pos h]; decide)
  have bc : -1 ≤ c ∧ c ≤ 1 := by rw [hc]; unfold cmpN; split; decide; split <;> decide
  have HA := Lib.hid ha
  have HB := Lib.hid hb
  have HC := Lib.hid hc
  have L1 := Lib.hid hl
  have L2 := Lib.hid hl2
  have y0 := ((Ext.refl w).alloc (.cells #[.bool n1, .slice pa A.length pc] 25)).alloc (.cells #[.bool n2, .slice qa B.length qc] 25)
  have bx := box22 (Ext.refl ((w.alloc (.cells #[.bool n1, .slice pa A.length pc] 25)).alloc (.cells #[.bool n2, .slice qa B.length qc] 25)))
  obtain ⟨W0, hW0⟩ : ∃ W0, W0 = ((w.alloc (.cells #[.bool n1, .slice pa A.length pc] 25)).alloc (.cells #[.bool n2, .slice qa B.length qc] 25)) := ⟨_, rfl⟩
  clear hl hl2 ha hb hc
  go_enter Tryz.func30, Tryz.ntmps30
  go_wp2_with fail
  rw [← hW0] at y0 bx ⊢
  have hs0 : w.heap.size + 1 < W0.heap.size := by rw [hW0]; simp
  clear hW0
  obtain ⟨⟨c1, c2⟩, ⟨c3, c4⟩, -⟩ := bx
  go_region_held3 (fun W => W.cell? ⟨w.heap.size, 0, none⟩ = some (.bool n1) ∧ W.cell? ⟨w.heap.size, 1, none⟩ = some (.slice pa A.length pc) ∧ W.cell? ⟨w.heap.size + 1, 0, none⟩ = some (.bool n2) ∧ W.cell? ⟨w.heap.size + 1, 1, none⟩ = some (.slice qa B.length qc)) (go_keep)
    (first
      | (go_at_call_of 28 (Value.slice pa A.length pc); refine (sign_calls (hA.ext y0.drew) L1.out n1).mono ?_; rintro e w7 ⟨rfl, x7⟩; have k1 := cell_ext (((Ext.refl W0).drew).trans x7) c1 (by show w.heap.size < _; omega); have k2 := cell_ext (((Ext.refl W0).drew).trans x7) c2 (by show w.heap.size < _; omega); have k3 := cell_ext (((Ext.refl W0).drew).trans x7) c3 hs0; have k4 := cell_ext (((Ext.refl W0).drew).trans x7) c4 hs0)
      | (go_at_call_of 28 (Value.slice qa B.length qc); refine (sign_calls ((hB.ext y0.drew).ext x7) L2.out n2).mono ?_; rintro e w8 ⟨rfl, x8⟩; have j1 := cell_ext x8 k1 (by have := x7.size; show w.heap.size < _; simp at this; omega); have j2 := cell_ext x8 k2 (by have := x7.size; show w.heap.size < _; simp at this; omega); have j3 := cell_ext x8 k3 (by have := x7.size; show w.heap.size + 1 < _; simp at this; omega); have j4 := cell_ext x8 k4 (by have := x7.size; show w.heap.size + 1 < _; simp at this; omega)))
  rw [← HA.out, ← HB.out]
  have X := (y0.drew.trans x7).trans x8
  have p1 : -1 ≤ a * c ∧ a * c ≤ 1 := by
    have : a = -1 ∨ a = 0 ∨ a = 1 := by omega
    rcases this with h | h | h <;> rw [h] <;> omega
  obtain ⟨p1, p2⟩ := p1
  rcases hcs with ⟨h1, h2⟩ | ⟨h1, h2⟩ | ⟨h1, h3, h2⟩
  · have H2 := Lib.hid h2
    clear h2 ba bc
    go_wp2_with fail
    go_ret
    exact ⟨ret_eq (int_eq (by rw [H2.out])), X⟩
  · have H2 := Lib.hid h2
    have h4 : ¬ a < b := by omega
    clear h2 ba bc
    go_wp2_with fail
    go_ret
    exact ⟨ret_eq (int_eq (by rw [H2.out])), X⟩
  · have H2 := Lib.hid h2
    have h4 : ¬ a < b := by omega
    have h5 : ¬ b < a := by omega
    clear h2 ba bc h1 h3
    go_wp2_with fail
    refine (cmp_int (hA.ext X) (hB.ext X) (lmax_16 L1.out) (lmax_16 L2.out) c HC.out.symm).mono ?_
    rintro e w9 ⟨rfl, rfl⟩
    go_wp2_with fail
    go_ret
    exact ⟨ret_eq (int_eq (by rw [H2.out])), X⟩

set_option maxHeartbeats 1000000 in
set_option maxRecDepth 100000 in
theorem may_int {w : World} {v : Value} {A : List Nat} (hA : Limbs w v A) (neg : Bool) :
    Calls Tryz.prog 24 #[.agg #[.bool neg, v]] w fun e w' => e = .returned (.bool (if A.length = 0 then !neg else decide (el A (A.length - 1) ≠ 0))) ∧ Ext w w' := by
  obtain ⟨pa, pc, rfl, h1, h2, h3⟩ := hA.open
  have y0 := (Ext.refl w).alloc (.cells #[.bool neg, .slice pa A.length pc] 25)
  unfold maxLen at h2
  by_cases h0 : A.length = 0
  · rw [if_pos h0]
    have H0 := Lib.hid h0
    have h0' : ((A.length : Int) ≤ 0) := by omega
    clear h0 h3
    go_enter Tryz.func24, Tryz.ntmps24
    go_wp2_with fail
    go_ret
    exact ⟨rfl, y0⟩
  · rw [if_neg h0]
    obtain ⟨b, o, rfl, hb, hc⟩ := h3 (A.length - 1) (by omega)
    have hcell : (w.alloc (.cells #[.bool neg, .slice (some ⟨b, o, none⟩) A.length pc] 25)).cell? ⟨b, o + (A.length - 1), none⟩ = some (.int .u64 (el A (A.length - 1) : Nat)) := cell_ext ((Ext.refl w).alloc _) (hc _ (by omega)) hb
    obtain ⟨m, hm⟩ : ∃ m, A.length = m + 1 := ⟨A.length - 1, by omega⟩
    obtain ⟨x, hx⟩ : ∃ x, x = el A (A.length - 1) := ⟨_, rfl⟩
    rw [← hx] at hcell ⊢
    rw [hm, Nat.add_sub_cancel] at hcell
    have HB : Hid (decide (x ≠ 0) = ((x : Int) != 0)) := by
      show _ = _
      rw [Bool.eq_iff_iff, bne_iff_ne, decide_eq_true_eq]; omega
    have hmb : (m : Int) + 1 ≤ 9223372036854775807 := by omega
    rw [hm] at y0 ⊢
    clear h3 hc h0 hx hm
    go_enter Tryz.func24, Tryz.ntmps24
    go_wp2_with fail
    go_ret
    exact ⟨by rw [HB.out]; rfl, y0⟩
end Go.Proofs.YtomhfipgabpfiaaGreatDoor
