/- Contracts of package whole: Sub, Mul, Div, Show, Read. -/
import Derived.Test.YtomhfipgabpfiaaGreatDoorWhole2
namespace Go.Proofs.YtomhfipgabpfiaaGreatDoor
open Go Go.RowKit

/-- the boxes of two numbers -/
def ArgsAt (s : Nat) (n1 n2 : Bool) (v u : Value) (W : World) : Prop :=
  (W.cell? ⟨s, 0, none⟩ = some (.bool n1) ∧ W.cell? ⟨s, 1, none⟩ = some v) ∧ (W.cell? ⟨s + 1, 0, none⟩ = some (.bool n2) ∧ W.cell? ⟨s + 1, 1, none⟩ = some u) ∧ s + 1 < W.heap.size
/-- the box of an answer -/
def NilAt (b : Nat) (W : World) : Prop :=
  (W.cell? ⟨b, 0, none⟩ = some (.bool false) ∧ W.cell? ⟨b, 1, none⟩ = some (.slice none 0 0)) ∧ (W.frozen? ⟨b, 0, none⟩ = false ∧ W.frozen? ⟨b, 1, none⟩ = false) ∧ b < W.heap.size

theorem ArgsAt.ext {s : Nat} {n1 n2 : Bool} {v u : Value} {a b : World} (h : ArgsAt s n1 n2 v u a) (x : Ext a b) : ArgsAt s n1 n2 v u b := by
  obtain ⟨⟨a1, a2⟩, ⟨b1, b2⟩, hs⟩ := h
  have := x.size
  refine ⟨⟨cell_ext x a1 ?_, cell_ext x a2 ?_⟩, ⟨cell_ext x b1 ?_, cell_ext x b2 ?_⟩, ?_⟩ <;> (try simp only []) <;> omega
theorem NilAt.ext {s : Nat} {a b : World} (h : NilAt s a) (x : Ext a b) : NilAt s b := by
  obtain ⟨⟨a1, a2⟩, ⟨b1, b2⟩, hs⟩ := h
  have := x.size
  refine ⟨⟨cell_ext x a1 ?_, cell_ext x a2 ?_⟩, ⟨frozen_ext x b1 ?_, frozen_ext x b2 ?_⟩, ?_⟩ <;> (try simp only []) <;> omega
theorem argsAt_mk (w : World) (n1 n2 : Bool) (v u : Value) (t1 t2 : TypeId) : ArgsAt w.heap.size n1 n2 v u ((w.alloc (.cells #[.bool n1, v] t1)).alloc (.cells #[.bool n2, u] t2)) := by
  unfold ArgsAt
  simp [go_sem]
theorem nilAt_mk (w : World) (t : TypeId) : NilAt w.heap.size (w.alloc (.cells #[.bool false, .slice none 0 0] t)) := by
  unfold NilAt
  simp [go_sem]

theorem len_abs {A : List Nat} (hA : ∀ x ∈ A, x < Bs) (h : A.length ≤ 65535) (neg : Bool) : (dig (iv neg A).natAbs).length ≤ 65535 := by
  rw [iv_abs]; exact Nat.le_trans (dig_len_le (val_lt hA)) h
theorem iv_sgn (z : Int) : iv (decide (z < 0)) (dig z.natAbs) = z := by
  unfold iv; rw [val_dig]; split <;> simp_all <;> omega

theorem RetI.by {w w' : World} {z : Int} {e : Ending} (h : RetI w z e w') {b : Bool} {m : Nat} (hb : decide (z < 0) = b) (hm : z.natAbs = m) : ∃ v, e = .returned (.agg #[.bool b, v]) ∧ OwnL w.heap.size w' v (dig m) ∧ Ext w w' := by
  subst hb hm; exact h
theorem neg_ok {w : World} {v : Value} {A : List Nat} (hA : Limbs w v A) (hl : A.length ≤ 65536) (neg : Bool) {b : Bool} {m : Nat} (hb : decide (-(iv neg A) < 0) = b) (hm : (-(iv neg A)).natAbs = m) :
    Calls Tryz.prog 9 #[.agg #[.bool neg, v]] w fun e w' => ∃ v, e = .returned (.agg #[.bool b, v]) ∧ OwnL w.heap.size w' v (dig m) ∧ Ext w w' :=
  (neg_calls hA hl neg).mono fun _ _ h => h.by hb hm
theorem add_ok {w : World} {v u : Value} {A B : List Nat} (hA : Limbs w v A) (hB : Limbs w u B) (hl : A.length ≤ 65535) (hl2 : B.length ≤ 65535) (n1 n2 : Bool) {b : Bool} {m : Nat} (hb : decide (iv n1 A + iv n2 B < 0) = b) (hm : (iv n1 A + iv n2 B).natAbs = m) :
    Calls Tryz.prog 10 #[.agg #[.bool n1, v], .agg #[.bool n2, u]] w fun e w' => ∃ v, e = .returned (.agg #[.bool b, v]) ∧ OwnL w.heap.size w' v (dig m) ∧ Ext w w' :=
  (iadd_calls hA hB hl hl2 n1 n2).mono fun _ _ h => h.by hb hm
theorem RetI.of {w w' : World} {z : Int} {b : Bool} {m : Nat} {v : Value} (hb : decide (z < 0) = b) (hm : z.natAbs = m) (h : OwnL w.heap.size w' v (dig m)) (x : Ext w w') : RetI w z (.returned (.agg #[.bool b, v])) w' := by
  subst hb hm; exact ⟨v, rfl, h, x⟩

set_option maxHeartbeats 1000000 in
set_option maxRecDepth 100000 in
theorem isub_calls {w : World} {v u : Value} {A B : List Nat} (hA : Limbs w v A) (hB : Limbs w u B) (hl : A.length ≤ 65535) (hl2 : B.length ≤ 65535) (n1 n2 : Bool) :
    Calls Tryz.prog 11 #[.agg #[.bool n1, v], .agg #[.bool n2, u]] w (RetI w (iv n1 A - iv n2 B)) := by
  obtain ⟨pa, pc, rfl, -, -, -⟩ := hA.open
  obtain ⟨qa, qc, rfl, -, -, -⟩ := hB.open
  have L1 := Lib.hid hl
  have L2 := Lib.hid hl2
  obtain ⟨b7, hb7⟩ : ∃ b, decide (-(iv n2 B) < 0) = b := ⟨_, rfl⟩
  obtain ⟨m7, hm7⟩ : ∃ m, (-(iv n2 B)).natAbs = m := ⟨_, rfl⟩
  have L3 : Hid ((dig m7).length ≤ 65535) := by show _ ≤ _; rw [← hm7, Int.natAbs_neg]; exact len_abs hB.2 hl2 n2
  have hz : iv n1 A + iv b7 (dig m7) = iv n1 A - iv n2 B := by rw [← hb7, ← hm7, iv_sgn]; omega
  obtain ⟨b8, hb8⟩ : ∃ b, decide (iv n1 A + iv b7 (dig m7) < 0) = b := ⟨_, rfl⟩
  obtain ⟨m8, hm8⟩ : ∃ m, (iv n1 A + iv b7 (dig m7)).natAbs = m := ⟨_, rfl⟩
  have HZ := Lib.hid hz
  have H7 := Lib.hid hb7
  have K7 := Lib.hid hm7
  have H8 := Lib.hid hb8
  have K8 := Lib.hid hm8
  clear hz hb7 hm7 hb8 hm8
  have y0 := (((Ext.refl w).alloc (.cells #[.bool n1, .slice pa A.length pc] 25)).alloc (.cells #[.bool n2, .slice qa B.length qc] 25)).alloc (.cells #[.bool false, .slice none 0 0] 25)
  have m0 := (argsAt_mk w n1 n2 (.slice pa A.length pc) (.slice qa B.length qc) 25 25).ext ((Ext.refl _).alloc (.cells #[.bool false, .slice none 0 0] 25))
  have e0 := nilAt_mk ((w.alloc (.cells #[.bool n1, .slice pa A.length pc] 25)).alloc (.cells #[.bool n2, .slice qa B.length qc] 25)) 25
  rw [show ((w.alloc (.cells #[.bool n1, .slice pa A.length pc] 25)).alloc (.cells #[.bool n2, .slice qa B.length qc] 25)).heap.size = w.heap.size + 1 + 1 by simp] at e0
  obtain ⟨W0, hW0⟩ : ∃ W0, W0 = (((w.alloc (.cells #[.bool n1, .slice pa A.length pc] 25)).alloc (.cells #[.bool n2, .slice qa B.length qc] 25)).alloc (.cells #[.bool false, .slice none 0 0] 25)) := ⟨_, rfl⟩
  clear hl hl2
  go_enter Tryz.func11, Tryz.ntmps11
  go_wp2_with fail
  rw [← hW0] at y0 m0 e0 ⊢
  clear hW0
  have M0 := Lib.hid m0
  have E0 := Lib.hid e0
  obtain ⟨⟨a1, a2⟩, ⟨b1, b2⟩, -⟩ := m0
  obtain ⟨⟨c1, c2⟩, ⟨d1, d2⟩, hs⟩ := e0
  have hne : ¬ w.heap.size = w.heap.size + 1 + 1 := by omega
  have hne' : ¬ w.heap.size + 1 + 1 = w.heap.size := by omega
  go_region_held3 (fun W => W.cell? ⟨w.heap.size, 0, none⟩ = some (.bool n1) ∧ W.cell? ⟨w.heap.size, 1, none⟩ = some (.slice pa A.length pc) ∧ W.cell? ⟨w.heap.size + 1, 0, none⟩ = some (.bool n2) ∧ W.cell? ⟨w.heap.size + 1, 1, none⟩ = some (.slice qa B.length qc)) (go_keep)
    (first
      | (go_at_call 9; refine (neg_ok (hB.ext y0.drew) (by have := L2.out; omega) n2 H7.out K7.out).mono ?_; rintro e w7 ⟨r7, rfl, hr7, x7⟩; obtain ⟨⟨k1, k2⟩, ⟨k3, k4⟩, -⟩ := M0.out.ext (((Ext.refl W0).drew).trans x7); obtain ⟨⟨k5, k6⟩, ⟨k7, k8⟩, -⟩ := E0.out.ext (((Ext.refl W0).drew).trans x7); obtain ⟨ra, rc, rfl, -, -, -⟩ := hr7.limbs.open)
      | (go_at_call 10; refine (add_ok ((hA.ext y0.drew).ext x7) hr7.limbs L1.out L3.out n1 b7 H8.out K8.out).mono ?_; rintro e w8 ⟨r8, rfl, hr8, x8⟩; obtain ⟨⟨j1, j2⟩, ⟨j3, j4⟩, -⟩ := M0.out.ext (((Ext.refl W0).drew).trans (x7.trans x8)); obtain ⟨⟨j5, j6⟩, ⟨j7, j8⟩, js⟩ := E0.out.ext (((Ext.refl W0).drew).trans (x7.trans x8)); obtain ⟨sa, sc, rfl, -, -, -⟩ := hr8.limbs.open))
  go_wp2_with fail
  refine bodyPost_ret (v := .agg #[.bool b8, .slice sa (dig m8).length sc]) (by simp [results, Tryz.results11, go_sem, j5, j6]) rfl (by rw [← HZ.out]; exact RetI.of H8.out K8.out ((hr8.set2 (by have := x7.size; simp at this; omega) _ _).mono (by have := x7.size; simp at this; omega)) (ext_box2 (y0.drew.trans (x7.trans x8)) (by omega) _ _))

set_option maxHeartbeats 1000000 in
set_option maxRecDepth 100000 in
theorem ishow_calls {w : World} {v : Value} {A : List Nat} (hA : Limbs w v A) (hl : A.length ≤ 65535) (neg : Bool) (s t : ByteArray) (hs : s.data.toList = showL (iv neg A).natAbs)
    (ht : t.data.toList = if iv neg A < 0 then 45 :: s.data.toList else s.data.toList) (hsz : s.size ≤ 4294967296) :
    Calls Tryz.prog 34 #[.agg #[.bool neg, v]] w fun e w' => e = .returned (.string t) ∧ Ext w w' := by
  obtain ⟨pa, pc, rfl, -, -, -⟩ := hA.open
  have L1 := Lib.hid hl
  rw [iv_abs] at hs
  have H := Lib.hid hs
  have y0 := (Ext.refl w).alloc (.cells #[.bool neg, .slice pa A.length pc] 25)
  by_cases h0 : iv neg A < 0
  · rw [if_pos h0] at ht
    have HT : Hid (ByteArray.mk #[45] ++ s = t) := by
      show _ = _
      exact append_of (by rw [ht]; rfl)
    have HS : Hid ((iv neg A).sign = -1) := Int.sign_eq_neg_one_of_neg h0
    have hsz1 : ((s.size : Int) + 1 ≤ 9223372036854775807) := by omega
    clear hl hs ht h0 hsz
    go_enter Tryz.func34, Tryz.ntmps34
    go_wp2_with fail
    refine (show_str (hA.ext y0) (by have := L1.out; omega) s H.out).mono ?_
    rintro e w1 ⟨rfl, x1⟩
    obtain ⟨c1, c2, -⟩ := box2 x1
    go_wp2_with fail
    refine (sign_calls (hA.ext (y0.trans x1)) (by have := L1.out; omega) neg).mono ?_
    rintro e w2 ⟨rfl, x2⟩
    rw [HS.out]
    go_wp2_with fail
    go_ret
    exact ⟨ret_eq (congrArg Value.string HT.out), y0.trans (x1.trans x2)⟩
  · rw [if_neg h0] at ht
    have HT : Hid (s = t) := by
      show _ = _
      rw [← Lib.mk_data s, ← Lib.mk_data t, ht]
    obtain ⟨k, hk⟩ : ∃ k, k = (iv neg A).sign := ⟨_, rfl⟩
    have HK := Lib.hid hk
    have hk0 : ¬ k < 0 := by rw [hk, Int.sign_neg_iff]; exact h0
    clear hl hs ht h0 hsz hk
    go_enter Tryz.func34, Tryz.ntmps34
    go_wp2_with fail
    refine (show_str (hA.ext y0) (by have := L1.out; omega) s H.out).mono ?_
    rintro e w1 ⟨rfl, x1⟩
    obtain ⟨c1, c2, -⟩ := box2 x1
    go_wp2_with fail
    refine (sign_calls (hA.ext (y0.trans x1)) (by have := L1.out; omega) neg).mono ?_
    rintro e w2 ⟨rfl, x2⟩
    rw [← HK.out]
    go_wp2_with fail
    go_ret
    exact ⟨by rw [← HT.out]; rfl, y0.trans (x1.trans x2)⟩

theorem make_ok {w : World} {v : Value} {A : List Nat} (hA : Limbs w v A) (hl : A.length ≤ 65536) (neg : Bool) {b : Bool} {m : Nat} (hb : decide (iv neg A < 0) = b) (hm : (iv neg A).natAbs = m) :
    Calls Tryz.prog 22 #[.bool neg, v] w fun e w' => ∃ v, e = .returned (.agg #[.bool b, v]) ∧ OwnL w.heap.size w' v (dig m) ∧ Ext w w' :=
  (make_calls hA hl neg).mono fun _ _ h => h.by hb hm
theorem mul_iv (n1 n2 : Bool) (A B : List Nat) : iv (!(n1 == n2)) (dig (val A * val B)) = iv n1 A * iv n2 B := by
  unfold iv
  rw [val_dig]
  cases n1 <;> cases n2 <;> simp [Int.neg_mul, Int.mul_neg]
theorem len_mul {A B : List Nat} (hA : ∀ x ∈ A, x < Bs) (hB : ∀ x ∈ B, x < Bs) (h : A.length + B.length ≤ 65536) : (dig (val A * val B)).length ≤ 65536 :=
  dig_lmax (k := A.length + B.length) (by rw [Nat.pow_add]; exact Nat.mul_lt_mul'' (val_lt hA) (val_lt hB)) h

set_option maxHeartbeats 1000000 in
set_option maxRecDepth 100000 in
theorem imul_calls {w : World} {v u : Value} {A B : List Nat} (hA : Limbs w v A) (hB : Limbs w u B) (hl : A.length + B.length ≤ 65536) (n1 n2 : Bool) :
    Calls Tryz.prog 12 #[.agg #[.bool n1, v], .agg #[.bool n2, u]] w (RetI w (iv n1 A * iv n2 B)) := by
  obtain ⟨pa, pc, rfl, -, -, -⟩ := hA.open
  obtain ⟨qa, qc, rfl, -, -, -⟩ := hB.open
  have L1 := Lib.hid hl
  obtain ⟨b6, hb6⟩ : ∃ b, (!(n1 == n2)) = b := ⟨_, rfl⟩
  have L3 := Lib.hid (len_mul hA.2 hB.2 hl)
  have hz := mul_iv n1 n2 A B
  rw [hb6] at hz
  have H6 := Lib.hid hb6
  clear hb6
  obtain ⟨b8, hb8⟩ : ∃ b, decide (iv b6 (dig (val A * val B)) < 0) = b := ⟨_, rfl⟩
  obtain ⟨m8, hm8⟩ : ∃ m, (iv b6 (dig (val A * val B))).natAbs = m := ⟨_, rfl⟩
  have HZ := Lib.hid hz
  have H8 := Lib.hid hb8
  have K8 := Lib.hid hm8
  clear hz hb8 hm8
  have y0 := (((Ext.refl w).alloc (.cells #[.bool n1, .slice pa A.length pc] 25)).alloc (.cells #[.bool n2, .slice qa B.length qc] 25)).alloc (.cells #[.bool false, .slice none 0 0] 25)
  have m0 := (argsAt_mk w n1 n2 (.slice pa A.length pc) (.slice qa B.length qc) 25 25).ext ((Ext.refl _).alloc (.cells #[.bool false, .slice none 0 0] 25))
  have e0 := nilAt_mk ((w.alloc (.cells #[.bool n1, .slice pa A.length pc] 25)).alloc (.cells #[.bool n2, .slice qa B.length qc] 25)) 25
  rw [show ((w.alloc (.cells #[.bool n1, .slice pa A.length pc] 25)).alloc (.cells #[.bool n2, .slice qa B.length qc] 25)).heap.size = w.heap.size + 1 + 1 by simp] at e0
  obtain ⟨W0, hW0⟩ : ∃ W0, W0 = (((w.alloc (.cells #[.bool n1, .slice pa A.length pc] 25)).alloc (.cells #[.bool n2, .slice qa B.length qc] 25)).alloc (.cells #[.bool false, .slice none 0 0] 25)) := ⟨_, rfl⟩
  clear hl
  go_enter Tryz.func12, Tryz.ntmps12
  go_wp2_with fail
  rw [← hW0] at y0 m0 e0 ⊢
  clear hW0
  have M0 := Lib.hid m0
  have E0 := Lib.hid e0
  obtain ⟨⟨a1, a2⟩, ⟨b1, b2⟩, -⟩ := m0
  obtain ⟨⟨c1, c2⟩, ⟨d1, d2⟩, hs⟩ := e0
  have hne : ¬ w.heap.size = w.heap.size + 1 + 1 := by omega
  have hne' : ¬ w.heap.size + 1 + 1 = w.heap.size := by omega
  go_region_held3 (fun W => W.cell? ⟨w.heap.size, 0, none⟩ = some (.bool n1) ∧ W.cell? ⟨w.heap.size, 1, none⟩ = some (.slice pa A.length pc) ∧ W.cell? ⟨w.heap.size + 1, 0, none⟩ = some (.bool n2) ∧ W.cell? ⟨w.heap.size + 1, 1, none⟩ = some (.slice qa B.length qc)) (go_keep)
    (first
      | (go_at_call 40; refine (natmul_calls (hA.ext y0.drew) (hB.ext y0.drew) (lmax_16 L1.out)).mono ?_; rintro e w7 ⟨r7, rfl, hr7, x7⟩; obtain ⟨⟨k1, k2⟩, ⟨k3, k4⟩, -⟩ := M0.out.ext (((Ext.refl W0).drew).trans x7); obtain ⟨⟨k5, k6⟩, ⟨k7, k8⟩, -⟩ := E0.out.ext (((Ext.refl W0).drew).trans x7))
      | (go_at_call 22; rw [H6.out]; refine (make_ok hr7.limbs L3.out b6 H8.out K8.out).mono ?_; rintro e w8 ⟨r8, rfl, hr8, x8⟩; obtain ⟨⟨j1, j2⟩, ⟨j3, j4⟩, -⟩ := M0.out.ext (((Ext.refl W0).drew).trans (x7.trans x8)); obtain ⟨⟨j5, j6⟩, ⟨j7, j8⟩, js⟩ := E0.out.ext (((Ext.refl W0).drew).trans (x7.trans x8)); obtain ⟨sa, sc, rfl, -, -, -⟩ := hr8.limbs.open))
  go_wp2_with fail
  refine bodyPost_ret (v := .agg #[.bool b8, .slice sa (dig m8).length sc]) (by simp [results, Tryz.results12, go_sem, j5, j6]) rfl (by rw [← HZ.out]; exact RetI.of H8.out K8.out ((hr8.set2 (by have := x7.size; simp at this; omega) _ _).mono (by have := x7.size; simp at this; omega)) (ext_box2 (y0.drew.trans (x7.trans x8)) (by omega) _ _))

/-- the call returns a quotient, what is left of it, and an error -/
def RetID (w : World) (x y : Int) (e : Ending) (w' : World) : Prop :=
  ∃ v u, e = .returned (.tuple #[.agg #[.bool (decide ((if y = 0 then 0 else x / y) < 0)), v], .agg #[.bool false, u], .int .i64 (if y = 0 then 7 else 0)]) ∧ OwnL w.heap.size w' v (dig (if y = 0 then 0 else x / y).natAbs) ∧ OwnL w.heap.size w' u (dig (if y = 0 then 0 else x % y).natAbs) ∧ Ext w w'

theorem div_pos {x : Int} {b r : Nat} {z : Int} (h1 : x = (b : Int) * z + (r : Int)) (h2 : r < b) : x / (b : Int) = z ∧ x % (b : Int) = (r : Int) := by
  have hb : (0 : Int) < b := by omega
  exact (Int.ediv_emod_unique hb).2 ⟨by rw [h1, Int.add_comm], by omega, by omega⟩

theorem div_iv (n1 n2 : Bool) (A B : List Nat) (hb : val B ≠ 0) :
    iv n1 A / iv n2 B = iv (!(n1 == n2)) (dig (if (n1 && !decide (val A % val B = 0)) then val A / val B + 1 else val A / val B)) ∧
    iv n1 A % iv n2 B = ((if (n1 && !decide (val A % val B = 0)) then val B - val A % val B else val A % val B : Nat) : Int) := by
  obtain ⟨a, ha⟩ : ∃ a, a = val A := ⟨_, rfl⟩
  obtain ⟨b, hbb⟩ : ∃ b, b = val B := ⟨_, rfl⟩
  have key : ∃ (x z : Int) (r q : Nat), iv n1 A = x ∧ x = (b : Int) * z + (r : Int) ∧ r < b ∧ (if (n1 && !decide (a % b = 0)) then a / b + 1 else a / b) = q ∧ (if (n1 && !decide (a % b = 0)) then b - a % b else a % b) = r ∧ z = if n1 then -(q : Int) else (q : Int) := by
    have e := Nat.div_add_mod a b
    have l := Nat.mod_lt a (show 0 < b by omega)
    generalize a / b = q at *
    generalize a % b = r at *
    cases n1 with
    | false => exact ⟨_, (q : Int), r, q, rfl, by unfold iv; rw [← ha, ← e]; simp, l, by simp, by simp, by simp⟩
    | true =>
      by_cases h : r = 0
      · subst h
        exact ⟨_, -(q : Int), 0, q, rfl, by unfold iv; rw [← ha, ← e]; simp [Int.mul_neg], l, by simp, by simp, by simp⟩
      · refine ⟨_, -((q + 1 : Nat) : Int), b - r, q + 1, rfl, ?_, by omega, by simp [h], by simp [h], by simp⟩
        unfold iv
        rw [← ha, ← e]
        simp only [if_true, Int.mul_neg]
        rw [show ((b - r : Nat) : Int) = (b : Int) - (r : Int) by omega]
        push_cast
        rw [Int.mul_add]
        omega
  rw [← ha, ← hbb]
  obtain ⟨x, z, r, q, k1, k2, k3, k4, k5, k6⟩ := key
  rw [k4, k5, k1]
  obtain ⟨g1, g2⟩ := div_pos k2 k3
  have hy : iv n2 B = if n2 then -(b : Int) else (b : Int) := by rw [hbb]; rfl
  have hq : iv (!(n1 == n2)) (dig q) = if n2 then -z else z := by
    unfold iv
    rw [val_dig, k6]
    cases n1 <;> cases n2 <;> simp
  rw [hy, hq]
  cases n2 with
  | false => exact ⟨g1, g2⟩
  | true =>
    simp only [if_true]
    exact ⟨by rw [Int.ediv_neg, g1], by rw [Int.emod_neg, g2]⟩
end Go.Proofs.YtomhfipgabpfiaaGreatDoor
