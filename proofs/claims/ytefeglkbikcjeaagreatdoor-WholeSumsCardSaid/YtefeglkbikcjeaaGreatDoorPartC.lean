/- Facts and contracts, joined: Whole3, Whole4, Whole5, Whole6, Whole7, Whole8, Whole9, LawKit, LawTxt, RatPlain, RegGen, Rat0, RegGen2, Gcd, RatKit. -/
import Derived.Test.YtefeglkbikcjeaaGreatDoorPartB
import Derived.Test.YtefeglkbikcjeaaGreatDoorPartA
import Derived.WalkMore
import Derived.ScopeJumps

/- Contracts of package whole: Sub, Mul, Div, Show, Read. -/
namespace Go.Proofs.YtefeglkbikcjeaaGreatDoor
open Go Go.RowKit

/-- the boxes of two numbers -/
def ArgsAt (s : Nat) (n1 n2 : Bool) (v u : Value) (W : World) : Prop :=
  (W.cell? ⟨s, 0, none⟩ = some (.bool n1) ∧ W.cell? ⟨s, 1, none⟩ = some v) ∧ (W.cell? ⟨s + 1, 0, none⟩ = some (.bool n2) ∧ W.cell? ⟨s + 1, 1, none⟩ = some u) ∧ s + 1 < W.heap.size
/-- the box of an answer -/
def NilAt (b : Nat) (W : World) : Prop :=
  (W.cell? ⟨b, 0, none⟩ = some (.bool false) ∧ W.cell? ⟨b, 1, none⟩ = some (.slice none 0 0)) ∧ (W.frozen? ⟨b, 0, none⟩ = false ∧ W.frozen? ⟨b, 1, none⟩ = false) ∧ b < W.heap.size

theorem ArgsAt.ext {s : Nat} {n1 n2 : Bool} {v u : Value} {a b : World} (h : ArgsAt s n1 n2 v u a) (x : Ext a b) : ArgsAt s n1 n2 v u b := by
  obtain ⟨⟨a1, a2⟩, ⟨b1, b2⟩, hs⟩ := h
  have := x.size
  refine ⟨⟨cell_ext x a1 ?_, cell_ext x a2 ?_⟩, ⟨cell_ext x b1 ?_, cell_ext x b2 ?_⟩, ?_⟩ <;> (try simp only []) <;> omega
theorem NilAt.ext {s : Nat} {a b : World} (h : NilAt s a) (x : Ext a b) : NilAt s b := by
  obtain ⟨⟨a1, a2⟩, ⟨b1, b2⟩, hs⟩ := h
  have := x.size
  refine ⟨⟨cell_ext x a1 ?_, cell_ext x a2 ?_⟩, ⟨frozen_ext x b1 ?_, frozen_ext x b2 ?_⟩, ?_⟩ <;> (try simp only []) <;> omega
theorem argsAt_mk (w : World) (n1 n2 : Bool) (v u : Value) (t1 t2 : TypeId) : ArgsAt w.heap.size n1 n2 v u ((w.alloc (.cells #[.bool n1, v] t1)).alloc (.cells #[.bool n2, u] t2)) := by
  unfold ArgsAt
  simp [go_sem]
theorem nilAt_mk (w : World) (t : TypeId) : NilAt w.heap.size (w.alloc (.cells #[.bool false, .slice none 0 0] t)) := by
  unfold NilAt
  simp [go_sem]

theorem len_abs {A : List Nat} (hA : ∀ x ∈ A, x < Bs) (h : A.length ≤ 65535) (neg : Bool) : (dig (iv neg A).natAbs).length ≤ 65535 := by
  rw [iv_abs]; exact Nat.le_trans (dig_len_le (val_lt hA)) h
theorem iv_sgn (z : Int) : iv (decide (z < 0)) (dig z.natAbs) = z := by
  unfold iv; rw [val_dig]; split <;> simp_all <;> omega

theorem RetI.by {w w' : World} {z : Int} {e : Ending} (h : RetI w z e w') {b : Bool} {m : Nat} (hb : decide (z < 0) = b) (hm : z.natAbs = m) : ∃ v, e = .returned (.agg #[.bool b, v]) ∧ OwnL w.heap.size w' v (dig m) ∧ Ext w w' := by
  subst hb hm; exact h
theorem neg_ok {w : World} {v : Value} {A : List Nat} (hA : Limbs w v A) (hl : A.length ≤ 65536) (neg : Bool) {b : Bool} {m : Nat} (hb : decide (-(iv neg A) < 0) = b) (hm : (-(iv neg A)).natAbs = m) :
    Calls Tryz.prog 12 #[.agg #[.bool neg, v]] w fun e w' => ∃ v, e = .returned (.agg #[.bool b, v]) ∧ OwnL w.heap.size w' v (dig m) ∧ Ext w w' :=
  (neg_calls hA hl neg).mono fun _ _ h => h.by hb hm
theorem add_ok {w : World} {v u : Value} {A B : List Nat} (hA : Limbs w v A) (hB : Limbs w u B) (hl : A.length ≤ 65535) (hl2 : B.length ≤ 65535) (n1 n2 : Bool) {b : Bool} {m : Nat} (hb : decide (iv n1 A + iv n2 B < 0) = b) (hm : (iv n1 A + iv n2 B).natAbs = m) :
    Calls Tryz.prog 13 #[.agg #[.bool n1, v], .agg #[.bool n2, u]] w fun e w' => ∃ v, e = .returned (.agg #[.bool b, v]) ∧ OwnL w.heap.size w' v (dig m) ∧ Ext w w' :=
  (iadd_calls hA hB hl hl2 n1 n2).mono fun _ _ h => h.by hb hm
theorem RetI.of {w w' : World} {z : Int} {b : Bool} {m : Nat} {v : Value} (hb : decide (z < 0) = b) (hm : z.natAbs = m) (h : OwnL w.heap.size w' v (dig m)) (x : Ext w w') : RetI w z (.returned (.agg #[.bool b, v])) w' := by
  subst hb hm; exact ⟨v, rfl, h, x⟩

set_option maxHeartbeats 1000000 in
set_option maxRecDepth 100000 in
theorem isub_calls {w : World} {v u : Value} {A B : List Nat} (hA : Limbs w v A) (hB : Limbs w u B) (hl : A.length ≤ 65535) (hl2 : B.length ≤ 65535) (n1 n2 : Bool) :
    Calls Tryz.prog 14 #[.agg #[.bool n1, v], .agg #[.bool n2, u]] w (RetI w (iv n1 A - iv n2 B)) := by
  obtain ⟨pa, pc, rfl, -, -, -⟩ := hA.open
  obtain ⟨qa, qc, rfl, -, -, -⟩ := hB.open
  have L1 := Lib.hid hl
  have L2 := Lib.hid hl2
  obtain ⟨b7, hb7⟩ : ∃ b, decide (-(iv n2 B) < 0) = b := ⟨_, rfl⟩
  obtain ⟨m7, hm7⟩ : ∃ m, (-(iv n2 B)).natAbs = m := ⟨_, rfl⟩
  have L3 : Hid ((dig m7).length ≤ 65535) := by show _ ≤ _; rw [← hm7, Int.natAbs_neg]; exact len_abs hB.2 hl2 n2
  have hz : iv n1 A + iv b7 (dig m7) = iv n1 A - iv n2 B := by rw [← hb7, ← hm7, iv_sgn]; omega
  obtain ⟨b8, hb8⟩ : ∃ b, decide (iv n1 A + iv b7 (dig m7) < 0) = b := ⟨_, rfl⟩
  obtain ⟨m8, hm8⟩ : ∃ m, (iv n1 A + iv b7 (dig m7)).natAbs = m := ⟨_, rfl⟩
  have HZ := Lib.hid hz
  have H7 := Lib.hid hb7
  have K7 := Lib.hid hm7
  have H8 := Lib.hid hb8
  have K8 := Lib.hid hm8
  clear hz hb7 hm7 hb8 hm8
  have y0 := (((Ext.refl w).alloc (.cells #[.bool n1, .slice pa A.length pc] 25)).alloc (.cells #[.bool n2, .slice qa B.length qc] 25)).alloc (.cells #[.bool false, .slice none 0 0] 25)
  have m0 := (argsAt_mk w n1 n2 (.slice pa A.length pc) (.slice qa B.length qc) 25 25).ext ((Ext.refl _).alloc (.cells #[.bool false, .slice none 0 0] 25))
  have e0 := nilAt_mk ((w.alloc (.cells #[.bool n1, .slice pa A.length pc] 25)).alloc (.cells #[.bool n2, .slice qa B.length qc] 25)) 25
  rw [show ((w.alloc (.cells #[.bool n1, .slice pa A.length pc] 25)).alloc (.cells #[.bool n2, .slice qa B.length qc] 25)).heap.size = w.heap.size + 1 + 1 by simp] at e0
  obtain ⟨W0, hW0⟩ : ∃ W0, W0 = (((w.alloc (.cells #[.bool n1, .slice pa A.length pc] 25)).alloc (.cells #[.bool n2, .slice qa B.length qc] 25)).alloc (.cells #[.bool false, .slice none 0 0] 25)) := ⟨_, rfl⟩
  clear hl hl2
  go_enter Tryz.func14, Tryz.ntmps14
  go_wp2_with fail
  rw [← hW0] at y0 m0 e0 ⊢
  clear hW0
  have M0 := Lib.hid m0
  have E0 := Lib.hid e0
  obtain ⟨⟨a1, a2⟩, ⟨b1, b2⟩, -⟩ := m0
  obtain ⟨⟨c1, c2⟩, ⟨d1, d2⟩, hs⟩ := e0
  have hne : ¬ w.heap.size = w.heap.size + 1 + 1 := by omega
  have hne' : ¬ w.heap.size + 1 + 1 = w.heap.size := by omega
  go_region_held3 (fun W => W.cell? ⟨w.heap.size, 0, none⟩ = some (.bool n1) ∧ W.cell? ⟨w.heap.size, 1, none⟩ = some (.slice pa A.length pc) ∧ W.cell? ⟨w.heap.size + 1, 0, none⟩ = some (.bool n2) ∧ W.cell? ⟨w.heap.size + 1, 1, none⟩ = some (.slice qa B.length qc)) (go_keep)
    (first
      | (go_at_call 12; refine (neg_ok (hB.ext y0.drew) (by have := L2.out; omega) n2 H7.out K7.out).mono ?_; rintro e w7 ⟨r7, rfl, hr7, x7⟩; obtain ⟨⟨k1, k2⟩, ⟨k3, k4⟩, -⟩ := M0.out.ext (((Ext.refl W0).drew).trans x7); obtain ⟨⟨k5, k6⟩, ⟨k7, k8⟩, -⟩ := E0.out.ext (((Ext.refl W0).drew).trans x7); obtain ⟨ra, rc, rfl, -, -, -⟩ := hr7.limbs.open)
      | (go_at_call 13; refine (add_ok ((hA.ext y0.drew).ext x7) hr7.limbs L1.out L3.out n1 b7 H8.out K8.out).mono ?_; rintro e w8 ⟨r8, rfl, hr8, x8⟩; obtain ⟨⟨j1, j2⟩, ⟨j3, j4⟩, -⟩ := M0.out.ext (((Ext.refl W0).drew).trans (x7.trans x8)); obtain ⟨⟨j5, j6⟩, ⟨j7, j8⟩, js⟩ := E0.out.ext (((Ext.refl W0).drew).trans (x7.trans x8)); obtain ⟨sa, sc, rfl, -, -, -⟩ := hr8.limbs.open))
  go_wp2_with fail
  refine bodyPost_ret (v := .agg #[.bool b8, .slice sa (dig m8).length sc]) (by simp [results, Tryz.results14, go_sem, j5, j6]) rfl (by rw [← HZ.out]; exact RetI.of H8.out K8.out ((hr8.set2 (by have := x7.size; simp at this; omega) _ _).mono (by have := x7.size; simp at this; omega)) (ext_box2 (y0.drew.trans (x7.trans x8)) (by omega) _ _))

set_option maxHeartbeats 1000000 in
set_option maxRecDepth 100000 in
theorem ishow_calls {w : World} {v : Value} {A : List Nat} (hA : Limbs w v A) (hl : A.length ≤ 65535) (neg : Bool) (s t : ByteArray) (hs : s.data.toList = showL (iv neg A).natAbs)
    (ht : t.data.toList = if iv neg A < 0 then 45 :: s.data.toList else s.data.toList) (hsz : s.size ≤ 4294967296) :
    Calls Tryz.prog 62 #[.agg #[.bool neg, v]] w fun e w' => e = .returned (.string t) ∧ Ext w w' := by
  obtain ⟨pa, pc, rfl, -, -, -⟩ := hA.open
  have L1 := Lib.hid hl
  rw [iv_abs] at hs
  have H := Lib.hid hs
  have y0 := (Ext.refl w).alloc (.cells #[.bool neg, .slice pa A.length pc] 25)
  by_cases h0 : iv neg A < 0
  · rw [if_pos h0] at ht
    have HT : Hid (ByteArray.mk #[45] ++ s = t) := by
      show _ = _
      exact append_of (by rw [ht]; rfl)
    have HS : Hid ((iv neg A).sign = -1) := Int.sign_eq_neg_one_of_neg h0
    have hsz1 : ((s.size : Int) + 1 ≤ 9223372036854775807) := by omega
    clear hl hs ht h0 hsz
    go_enter Tryz.func62, Tryz.ntmps62
    go_wp2_with fail
    refine (show_str (hA.ext y0) (by have := L1.out; omega) s H.out).mono ?_
    rintro e w1 ⟨rfl, x1⟩
    obtain ⟨c1, c2, -⟩ := box2 x1
    go_wp2_with fail
    refine (sign_calls (hA.ext (y0.trans x1)) (by have := L1.out; omega) neg).mono ?_
    rintro e w2 ⟨rfl, x2⟩
    rw [HS.out]
    go_wp2_with fail
    go_ret
    exact ⟨ret_eq (congrArg Value.string HT.out), y0.trans (x1.trans x2)⟩
  · rw [if_neg h0] at ht
    have HT : Hid (s = t) := by
      show _ = _
      rw [← Lib.mk_data s, ← Lib.mk_data t, ht]
    obtain ⟨k, hk⟩ : ∃ k, k = (iv neg A).sign := ⟨_, rfl⟩
    have HK := Lib.hid hk
    have hk0 : ¬ k < 0 := by rw [hk, Int.sign_neg_iff]; exact h0
    clear hl hs ht h0 hsz hk
    go_enter Tryz.func62, Tryz.ntmps62
    go_wp2_with fail
    refine (show_str (hA.ext y0) (by have := L1.out; omega) s H.out).mono ?_
    rintro e w1 ⟨rfl, x1⟩
    obtain ⟨c1, c2, -⟩ := box2 x1
    go_wp2_with fail
    refine (sign_calls (hA.ext (y0.trans x1)) (by have := L1.out; omega) neg).mono ?_
    rintro e w2 ⟨rfl, x2⟩
    rw [← HK.out]
    go_wp2_with fail
    go_ret
    exact ⟨by rw [← HT.out]; rfl, y0.trans (x1.trans x2)⟩

theorem make_ok {w : World} {v : Value} {A : List Nat} (hA : Limbs w v A) (hl : A.length ≤ 65536) (neg : Bool) {b : Bool} {m : Nat} (hb : decide (iv neg A < 0) = b) (hm : (iv neg A).natAbs = m) :
    Calls Tryz.prog 70 #[.bool neg, v] w fun e w' => ∃ v, e = .returned (.agg #[.bool b, v]) ∧ OwnL w.heap.size w' v (dig m) ∧ Ext w w' :=
  (make_calls hA hl neg).mono fun _ _ h => h.by hb hm
theorem mul_iv (n1 n2 : Bool) (A B : List Nat) : iv (!(n1 == n2)) (dig (val A * val B)) = iv n1 A * iv n2 B := by
  unfold iv
  rw [val_dig]
  cases n1 <;> cases n2 <;> simp [Int.neg_mul, Int.mul_neg]
theorem len_mul {A B : List Nat} (hA : ∀ x ∈ A, x < Bs) (hB : ∀ x ∈ B, x < Bs) (h : A.length + B.length ≤ 65536) : (dig (val A * val B)).length ≤ 65536 :=
  dig_lmax (k := A.length + B.length) (by rw [Nat.pow_add]; exact Nat.mul_lt_mul'' (val_lt hA) (val_lt hB)) h

set_option maxHeartbeats 1000000 in
set_option maxRecDepth 100000 in
theorem imul_calls {w : World} {v u : Value} {A B : List Nat} (hA : Limbs w v A) (hB : Limbs w u B) (hl : A.length + B.length ≤ 65536) (n1 n2 : Bool) :
    Calls Tryz.prog 15 #[.agg #[.bool n1, v], .agg #[.bool n2, u]] w (RetI w (iv n1 A * iv n2 B)) := by
  obtain ⟨pa, pc, rfl, -, -, -⟩ := hA.open
  obtain ⟨qa, qc, rfl, -, -, -⟩ := hB.open
  have L1 := Lib.hid hl
  obtain ⟨b6, hb6⟩ : ∃ b, (!(n1 == n2)) = b := ⟨_, rfl⟩
  have L3 := Lib.hid (len_mul hA.2 hB.2 hl)
  have hz := mul_iv n1 n2 A B
  rw [hb6] at hz
  have H6 := Lib.hid hb6
  clear hb6
  obtain ⟨b8, hb8⟩ : ∃ b, decide (iv b6 (dig (val A * val B)) < 0) = b := ⟨_, rfl⟩
  obtain ⟨m8, hm8⟩ : ∃ m, (iv b6 (dig (val A * val B))).natAbs = m := ⟨_, rfl⟩
  have HZ := Lib.hid hz
  have H8 := Lib.hid hb8
  have K8 := Lib.hid hm8
  clear hz hb8 hm8
  have y0 := (((Ext.refl w).alloc (.cells #[.bool n1, .slice pa A.length pc] 25)).alloc (.cells #[.bool n2, .slice qa B.length qc] 25)).alloc (.cells #[.bool false, .slice none 0 0] 25)
  have m0 := (argsAt_mk w n1 n2 (.slice pa A.length pc) (.slice qa B.length qc) 25 25).ext ((Ext.refl _).alloc (.cells #[.bool false, .slice none 0 0] 25))
  have e0 := nilAt_mk ((w.alloc (.cells #[.bool n1, .slice pa A.length pc] 25)).alloc (.cells #[.bool n2, .slice qa B.length qc] 25)) 25
  rw [show ((w.alloc (.cells #[.bool n1, .slice pa A.length pc] 25)).alloc (.cells #[.bool n2, .slice qa B.length qc] 25)).heap.size = w.heap.size + 1 + 1 by simp] at e0
  obtain ⟨W0, hW0⟩ : ∃ W0, W0 = (((w.alloc (.cells #[.bool n1, .slice pa A.length pc] 25)).alloc (.cells #[.bool n2, .slice qa B.length qc] 25)).alloc (.cells #[.bool false, .slice none 0 0] 25)) := ⟨_, rfl⟩
  clear hl
  go_enter Tryz.func15, Tryz.ntmps15
  go_wp2_with fail
  rw [← hW0] at y0 m0 e0 ⊢
  clear hW0
  have M0 := Lib.hid m0
  have E0 := Lib.hid e0
  obtain ⟨⟨a1, a2⟩, ⟨b1, b2⟩, -⟩ := m0
  obtain ⟨⟨c1, c2⟩, ⟨d1, d2⟩, hs⟩ := e0
  have hne : ¬ w.heap.size = w.heap.size + 1 + 1 := by omega
  have hne' : ¬ w.heap.size + 1 + 1 = w.heap.size := by omega
  go_region_held3 (fun W => W.cell? ⟨w.heap.size, 0, none⟩ = some (.bool n1) ∧ W.cell? ⟨w.heap.size, 1, none⟩ = some (.slice pa A.length pc) ∧ W.cell? ⟨w.heap.size + 1, 0, none⟩ = some (.bool n2) ∧ W.cell? ⟨w.heap.size + 1, 1, none⟩ = some (.slice qa B.length qc)) (go_keep)
    (first
      | (go_at_call 72; refine (natmul_calls (hA.ext y0.drew) (hB.ext y0.drew) (lmax_16 L1.out)).mono ?_; rintro e w7 ⟨r7, rfl, hr7, x7⟩; obtain ⟨⟨k1, k2⟩, ⟨k3, k4⟩, -⟩ := M0.out.ext (((Ext.refl W0).drew).trans x7); obtain ⟨⟨k5, k6⟩, ⟨k7, k8⟩, -⟩ := E0.out.ext (((Ext.refl W0).drew).trans x7))
      | (go_at_call 70; rw [H6.out]; refine (make_ok hr7.limbs L3.out b6 H8.out K8.out).mono ?_; rintro e w8 ⟨r8, rfl, hr8, x8⟩; obtain ⟨⟨j1, j2⟩, ⟨j3, j4⟩, -⟩ := M0.out.ext (((Ext.refl W0).drew).trans (x7.trans x8)); obtain ⟨⟨j5, j6⟩, ⟨j7, j8⟩, js⟩ := E0.out.ext (((Ext.refl W0).drew).trans (x7.trans x8)); obtain ⟨sa, sc, rfl, -, -, -⟩ := hr8.limbs.open))
  go_wp2_with fail
  refine bodyPost_ret (v := .agg #[.bool b8, .slice sa (dig m8).length sc]) (by simp [results, Tryz.results15, go_sem, j5, j6]) rfl (by rw [← HZ.out]; exact RetI.of H8.out K8.out ((hr8.set2 (by have := x7.size; simp at this; omega) _ _).mono (by have := x7.size; simp at this; omega)) (ext_box2 (y0.drew.trans (x7.trans x8)) (by omega) _ _))

/-- the call returns a quotient, what is left of it, and an error -/
def RetID (w : World) (x y : Int) (e : Ending) (w' : World) : Prop :=
  ∃ v u, e = .returned (.tuple #[.agg #[.bool (decide ((if y = 0 then 0 else x / y) < 0)), v], .agg #[.bool false, u], .int .i64 (if y = 0 then 7 else 0)]) ∧ OwnL w.heap.size w' v (dig (if y = 0 then 0 else x / y).natAbs) ∧ OwnL w.heap.size w' u (dig (if y = 0 then 0 else x % y).natAbs) ∧ Ext w w'

theorem div_pos {x : Int} {b r : Nat} {z : Int} (h1 : x = (b : Int) * z + (r : Int)) (h2 : r < b) : x / (b : Int) = z ∧ x % (b : Int) = (r : Int) := by
  have hb : (0 : Int) < b := by omega
  exact (Int.ediv_emod_unique hb).2 ⟨by rw [h1, Int.add_comm], by omega, by omega⟩

theorem div_iv (n1 n2 : Bool) (A B : List Nat) (hb : val B ≠ 0) :
    iv n1 A / iv n2 B = iv (!(n1 == n2)) (dig (if (n1 && !decide (val A % val B = 0)) then val A / val B + 1 else val A / val B)) ∧
    iv n1 A % iv n2 B = ((if (n1 && !decide (val A % val B = 0)) then val B - val A % val B else val A % val B : Nat) : Int) := by
  obtain ⟨a, ha⟩ : ∃ a, a = val A := ⟨_, rfl⟩
  obtain ⟨b, hbb⟩ : ∃ b, b = val B := ⟨_, rfl⟩
  have key : ∃ (x z : Int) (r q : Nat), iv n1 A = x ∧ x = (b : Int) * z + (r : Int) ∧ r < b ∧ (if (n1 && !decide (a % b = 0)) then a / b + 1 else a / b) = q ∧ (if (n1 && !decide (a % b = 0)) then b - a % b else a % b) = r ∧ z = if n1 then -(q : Int) else (q : Int) := by
    have e := Nat.div_add_mod a b
    have l := Nat.mod_lt a (show 0 < b by omega)
    generalize a / b = q at *
    generalize a % b = r at *
    cases n1 with
    | false => exact ⟨_, (q : Int), r, q, rfl, by unfold iv; rw [← ha, ← e]; simp, l, by simp, by simp, by simp⟩
    | true =>
      by_cases h : r = 0
      · subst h
        exact ⟨_, -(q : Int), 0, q, rfl, by unfold iv; rw [← ha, ← e]; simp [Int.mul_neg], l, by simp, by simp, by simp⟩
      · refine ⟨_, -((q + 1 : Nat) : Int), b - r, q + 1, rfl, ?_, by omega, by simp [h], by simp [h], by simp⟩
        unfold iv
        rw [← ha, ← e]
        simp only [if_true, Int.mul_neg]
        rw [show ((b - r : Nat) : Int) = (b : Int) - (r : Int) by omega]
        push_cast
        rw [Int.mul_add]
        omega
  rw [← ha, ← hbb]
  obtain ⟨x, z, r, q, k1, k2, k3, k4, k5, k6⟩ := key
  rw [k4, k5, k1]
  obtain ⟨g1, g2⟩ := div_pos k2 k3
  have hy : iv n2 B = if n2 then -(b : Int) else (b : Int) := by rw [hbb]; rfl
  have hq : iv (!(n1 == n2)) (dig q) = if n2 then -z else z := by
    unfold iv
    rw [val_dig, k6]
    cases n1 <;> cases n2 <;> simp
  rw [hy, hq]
  cases n2 with
  | false => exact ⟨g1, g2⟩
  | true =>
    simp only [if_true]
    exact ⟨by rw [Int.ediv_neg, g1], by rw [Int.emod_neg, g2]⟩
end Go.Proofs.YtefeglkbikcjeaaGreatDoor

/- Contracts of package whole: Div, Read. -/
namespace Go.Proofs.YtefeglkbikcjeaaGreatDoor
open Go Go.RowKit

theorem div_no {w : World} {v u : Value} {A B : List Nat} (hA : Limbs w v A) (hB : Limbs w u B) (hlA : A.length ≤ 65536) (hlB : B.length ≤ 65536) (h : val B = 0) :
    Calls Tryz.prog 73 #[v, u] w fun e w' => ∃ x y, e = .returned (.tuple #[x, y, .int .i64 7]) ∧ Ext w w' :=
  (quodiv_calls hA hB hlA hlB).mono fun _ _ ⟨x, y, h1, _, _, h4⟩ => ⟨x, y, by rw [h1, if_pos h], h4⟩
theorem div_ok {w : World} {v u : Value} {A B : List Nat} (hA : Limbs w v A) (hB : Limbs w u B) (hlA : A.length ≤ 65536) (hlB : B.length ≤ 65536) (h : ¬ val B = 0) :
    Calls Tryz.prog 73 #[v, u] w fun e w' => ∃ x y, e = .returned (.tuple #[x, y, .int .i64 0]) ∧ OwnL w.heap.size w' x (dig (val A / val B)) ∧ OwnL w.heap.size w' y (dig (val A % val B)) ∧ Ext w w' :=
  (quodiv_calls hA hB hlA hlB).mono fun _ _ ⟨x, y, h1, h2, h3, h4⟩ => ⟨x, y, by rw [h1, if_neg h], by simpa only [if_neg h] using h2, by simpa only [if_neg h] using h3, h4⟩

theorem add1_ok {w : World} {v u : Value} {q : Nat} (hA : Limbs w v (dig q)) (hB : Limbs w u (dig 1)) (hl : (dig q).length ≤ 65535) :
    Calls Tryz.prog 75 #[v, u] w (RetNat w (q + 1)) := by
  have h := natadd_calls hA hB (lmax_lt (by omega)) (lmax_lt (len_one (by rw [Bs_def]; omega)))
  rw [val_dig, val_dig] at h
  exact h
theorem subr_ok {w : World} {v u : Value} {B : List Nat} {r : Nat} (hA : Limbs w v B) (hB : Limbs w u (dig r)) (hl : B.length ≤ 65535) (hr : r < val B) :
    Calls Tryz.prog 77 #[v, u] w fun e w' => ∃ r', e = .returned (.tuple #[r', .int .i64 0]) ∧ OwnL w.heap.size w' r' (dig (val B - r)) ∧ Ext w w' := by
  have h := sub_ok hA hB (lmax_lt (by omega)) (lmax_lt (Nat.le_trans (dig_len_le (Nat.lt_trans hr (val_lt hA.2))) (by omega))) (by rw [val_dig]; omega)
  rw [val_dig] at h
  exact h
theorem zerod_ok {w : World} {v : Value} {r : Nat} (hA : Limbs w v (dig r)) (hl : (dig r).length ≤ 65536) {b : Bool} (hb : decide (r = 0) = b) :
    Calls Tryz.prog 74 #[v] w fun e w' => e = .returned (.bool b) ∧ w = w' :=
  zero_bool hA (lmax_16 hl) b (by rw [val_dig]; exact hb)
theorem maker_ok {w : World} {v : Value} {r : Nat} (hA : Limbs w v (dig r)) (hl : (dig r).length ≤ 65536) :
    Calls Tryz.prog 70 #[.bool false, v] w fun e w' => ∃ v, e = .returned (.agg #[.bool false, v]) ∧ OwnL w.heap.size w' v (dig r) ∧ Ext w w' :=
  make_ok hA hl false (by rw [iv_dig_false]; simp) (by rw [iv_dig_false]; omega)
theorem RetID.no {w w' : World} (x : Int) (h : Ext w w') : RetID w x 0 (.returned (.tuple #[.agg #[.bool false, .slice none 0 0], .agg #[.bool false, .slice none 0 0], .int .i64 7])) w' := by
  refine ⟨_, _, rfl, ?_, ?_, h⟩ <;> simp only [if_true] <;> rw [show (0 : Int).natAbs = 0 from rfl, dig_zero] <;> exact OwnL.nil _ _
theorem RetID.of {w w' : World} {x y q : Int} {r m : Nat} {b : Bool} {v u : Value} (hy : ¬ y = 0) (hq : x / y = q) (hr : x % y = (r : Int)) (hb : decide (q < 0) = b) (hm : q.natAbs = m) (hv : OwnL w.heap.size w' v (dig m)) (hu : OwnL w.heap.size w' u (dig r)) (h : Ext w w') :
    RetID w x y (.returned (.tuple #[.agg #[.bool b, v], .agg #[.bool false, u], .int .i64 0])) w' := by
  subst hq hb hm
  refine ⟨v, u, by simp only [if_neg hy], ?_, ?_, h⟩
  · simp only [if_neg hy]; exact hv
  · simp only [if_neg hy]; rw [hr, Int.natAbs_natCast]; exact hu

set_option maxHeartbeats 2000000 in
set_option maxRecDepth 100000 in
theorem idiv_calls {w : World} {v u : Value} {A B : List Nat} (hA : Limbs w v A) (hB : Limbs w u B) (hl : A.length ≤ 65535) (hl2 : B.length ≤ 65535) (n1 n2 : Bool) :
    Calls Tryz.prog 16 #[.agg #[.bool n1, v], .agg #[.bool n2, u]] w (RetID w (iv n1 A) (iv n2 B)) := by
  obtain ⟨pa, pc, rfl, -, -, -⟩ := hA.open
  obtain ⟨qa, qc, rfl, -, -, -⟩ := hB.open
  have L1 := Lib.hid hl
  have L2 := Lib.hid hl2
  have y1 := (((Ext.refl w).alloc (.cells #[.bool n1, .slice pa A.length pc] 25)).alloc (.cells #[.bool n2, .slice qa B.length qc] 25))
  have y2 := y1.alloc (.cells #[.bool false, .slice none 0 0] 25)
  have y0 := y2.alloc (.cells #[.bool false, .slice none 0 0] 25)
  have m0 := (argsAt_mk w n1 n2 (.slice pa A.length pc) (.slice qa B.length qc) 25 25).ext (((Ext.refl _).alloc (.cells #[.bool false, .slice none 0 0] 25)).alloc (.cells #[.bool false, .slice none 0 0] 25))
  have e0 := (nilAt_mk ((w.alloc (.cells #[.bool n1, .slice pa A.length pc] 25)).alloc (.cells #[.bool n2, .slice qa B.length qc] 25)) 25).ext ((Ext.refl _).alloc (.cells #[.bool false, .slice none 0 0] 25))
  rw [show ((w.alloc (.cells #[.bool n1, .slice pa A.length pc] 25)).alloc (.cells #[.bool n2, .slice qa B.length qc] 25)).heap.size = w.heap.size + 1 + 1 by simp] at e0
  have f0 := nilAt_mk (((w.alloc (.cells #[.bool n1, .slice pa A.length pc] 25)).alloc (.cells #[.bool n2, .slice qa B.length qc] 25)).alloc (.cells #[.bool false, .slice none 0 0] 25)) 25
  rw [show (((w.alloc (.cells #[.bool n1, .slice pa A.length pc] 25)).alloc (.cells #[.bool n2, .slice qa B.length qc] 25)).alloc (.cells #[.bool false, .slice none 0 0] 25)).heap.size = w.heap.size + 1 + 1 + 1 by simp] at f0
  obtain ⟨W0, hW0⟩ : ∃ W0, W0 = ((((w.alloc (.cells #[.bool n1, .slice pa A.length pc] 25)).alloc (.cells #[.bool n2, .slice qa B.length qc] 25)).alloc (.cells #[.bool false, .slice none 0 0] 25)).alloc (.cells #[.bool false, .slice none 0 0] 25)) := ⟨_, rfl⟩
  have hl1 := hl
  have hl3 := hl2
  clear hl hl2 y1 y2
  have hne : ¬ w.heap.size = w.heap.size + 1 + 1 := by omega
  have hne' : ¬ w.heap.size + 1 + 1 = w.heap.size := by omega
  have hnf : ¬ w.heap.size = w.heap.size + 1 + 1 + 1 := by omega
  have hnf' : ¬ w.heap.size + 1 + 1 + 1 = w.heap.size := by omega
  have hng : ¬ w.heap.size + 1 = w.heap.size + 1 + 1 + 1 := by omega
  have hng' : ¬ w.heap.size + 1 + 1 + 1 = w.heap.size + 1 := by omega
  by_cases hz : val B = 0
  · have hy : iv n2 B = 0 := by unfold iv; rw [hz]; simp
    rw [hy]
    have HZ := Lib.hid hz
    clear hz hy hl1 hl3
    go_enter Tryz.func16, Tryz.ntmps16
    go_wp2_with fail
    rw [← hW0] at y0 m0 e0 f0 ⊢
    obtain ⟨⟨a1, a2⟩, ⟨b1, b2⟩, -⟩ := m0
    clear hW0
    refine (div_no (hA.ext y0) (hB.ext y0) (by have := L1.out; omega) (by have := L2.out; omega) HZ.out).mono ?_
    rintro e w1 ⟨r, q, rfl, x1⟩
    obtain ⟨⟨c1, c2⟩, ⟨d1, d2⟩, s1⟩ := e0.ext x1
    obtain ⟨⟨c3, c4⟩, ⟨d3, d4⟩, s2⟩ := f0.ext x1
    go_wp2_with fail
    refine bodyPost_ret (v := .tuple #[.agg #[.bool false, .slice none 0 0], .agg #[.bool false, .slice none 0 0], .int .i64 7]) (by simp [results, Tryz.results16, go_sem, c1, c2, c3, c4]) rfl (RetID.no _ (ext_box2 (ext_box2 (y0.trans x1) (by omega) _ _) (by omega) _ _))
  · have hdv := div_iv n1 n2 A B hz
    have hy : ¬ iv n2 B = 0 := by unfold iv; cases n2 <;> simp <;> omega
    obtain ⟨z, hzz⟩ : ∃ z, decide (val A % val B = 0) = z := ⟨_, rfl⟩
    rw [hzz] at hdv
    have hq1 : (dig (val A / val B)).length ≤ 65535 := Nat.le_trans (dig_len_le (Nat.lt_of_le_of_lt (Nat.div_le_self _ _) (val_lt hA.2))) hl1
    have hq2 : (dig (val A / val B + 1)).length ≤ 65536 := by
      have h := len_add (A := dig (val A / val B)) (B := dig 1) (dig_lt _) (dig_lt _) hq1 (Nat.le_trans (dig_len_le (n := 1) (k := 1) (by rw [Nat.pow_one, Bs_def]; omega)) (by omega))
      rwa [val_dig, val_dig] at h
    have hr0 : val A % val B < val B := Nat.mod_lt _ (by omega)
    have hr1 : (dig (val A % val B)).length ≤ 65535 := Nat.le_trans (dig_len_le (Nat.lt_trans hr0 (val_lt hB.2))) hl3
    have hr2 : (dig (val B - val A % val B)).length ≤ 65536 := len_sub hB.2 hl3 _
    generalize hQ : val A / val B = Q at *
    generalize hR : val A % val B = R at *
    have HZ := Lib.hid hz
    have HY := Lib.hid hy
    have HZZ := Lib.hid hzz
    have HQ := Lib.hid hQ
    have HR := Lib.hid hR
    have Q1 := Lib.hid hq1
    have Q2 := Lib.hid hq2
    have R0 := Lib.hid hr0
    have R1 := Lib.hid hr1
    have R2 := Lib.hid hr2
    clear hz hy hzz hQ hR hq1 hq2 hr0 hr1 hr2 hl1 hl3
    cases n1 with
    | false =>
      cases n2 with
      | false =>
        have HD : Hid (iv false A / iv false B = iv false (dig Q) ∧ iv false A % iv false B = ((R : Nat) : Int)) := by show _ ∧ _; simpa using hdv
        obtain ⟨b8, hb8⟩ : ∃ b, decide (iv false (dig Q) < 0) = b := ⟨_, rfl⟩
        obtain ⟨m8, hm8⟩ : ∃ m, (iv false (dig Q)).natAbs = m := ⟨_, rfl⟩
        have H8 := Lib.hid hb8
        have K8 := Lib.hid hm8
        clear hdv hb8 hm8
        go_enter Tryz.func16, Tryz.ntmps16
        go_wp2_with fail
        rw [← hW0] at y0 m0 e0 f0 ⊢
        clear hW0
        have M0 := Lib.hid m0
        have E0 := Lib.hid e0
        have F0 := Lib.hid f0
        obtain ⟨⟨a1, a2⟩, ⟨b1, b2⟩, hs0⟩ := m0
        clear e0 f0
        refine (div_ok (hA.ext y0) (hB.ext y0) (by have := L1.out; omega) (by have := L2.out; omega) HZ.out).mono ?_
        rintro e w1 ⟨q, r, rfl, hq, hr, x1⟩
        rw [HQ.out] at hq
        rw [HR.out] at hr
        obtain ⟨⟨g1, g2⟩, ⟨g3, g4⟩, -⟩ := M0.out.ext x1
        go_wp2_with fail
        refine (make_ok hq.limbs (Nat.le_succ_of_le Q1.out) false H8.out K8.out).mono ?_
        rintro e w6 ⟨v8, rfl, hv8, x6⟩
        go_wp2_with fail
        refine (maker_ok (hr.limbs.ext x6) (Nat.le_succ_of_le R1.out)).mono ?_
        rintro e w7 ⟨v9, rfl, hv9, x7⟩
        obtain ⟨⟨c1, c2⟩, ⟨d1, d2⟩, s1⟩ := E0.out.ext (x1.trans (x6.trans x7))
        obtain ⟨⟨c3, c4⟩, ⟨d3, d4⟩, s2⟩ := F0.out.ext (x1.trans (x6.trans x7))
        have hv8' := hv8.ext x7
        obtain ⟨sa, sc, rfl, -, -, -⟩ := hv8.limbs.open
        obtain ⟨ta, tc, rfl, -, -, -⟩ := hv9.limbs.open
        have hz0 := F0.out.2.2
        go_wp2_with fail
        refine bodyPost_ret (v := .tuple #[.agg #[.bool b8, .slice sa (dig m8).length sc], .agg #[.bool false, .slice ta (dig R).length tc], .int .i64 0]) (by simp [results, Tryz.results16, go_sem, c1, c2, c3, c4]) rfl (RetID.of HY.out HD.out.1 HD.out.2 H8.out K8.out ?_ ?_ (ext_box2 (ext_box2 (y0.trans (x1.trans (x6.trans x7))) (by omega) _ _) (by omega) _ _))
        · have z1 := x1.size; have z6 := x6.size; exact ((hv8'.set2 (by omega) _ _).set2 (by omega) _ _).mono (by omega)
        · have z1 := x1.size; have z6 := x6.size; exact ((hv9.set2 (by omega) _ _).set2 (by omega) _ _).mono (by omega)
      | true =>
        have HD : Hid (iv false A / iv true B = iv true (dig Q) ∧ iv false A % iv true B = ((R : Nat) : Int)) := by show _ ∧ _; simpa using hdv
        obtain ⟨b8, hb8⟩ : ∃ b, decide (iv true (dig Q) < 0) = b := ⟨_, rfl⟩
        obtain ⟨m8, hm8⟩ : ∃ m, (iv true (dig Q)).natAbs = m := ⟨_, rfl⟩
        have H8 := Lib.hid hb8
        have K8 := Lib.hid hm8
        clear hdv hb8 hm8
        go_enter Tryz.func16, Tryz.ntmps16
        go_wp2_with fail
        rw [← hW0] at y0 m0 e0 f0 ⊢
        clear hW0
        have M0 := Lib.hid m0
        have E0 := Lib.hid e0
        have F0 := Lib.hid f0
        obtain ⟨⟨a1, a2⟩, ⟨b1, b2⟩, hs0⟩ := m0
        clear e0 f0
        refine (div_ok (hA.ext y0) (hB.ext y0) (by have := L1.out; omega) (by have := L2.out; omega) HZ.out).mono ?_
        rintro e w1 ⟨q, r, rfl, hq, hr, x1⟩
        rw [HQ.out] at hq
        rw [HR.out] at hr
        obtain ⟨⟨g1, g2⟩, ⟨g3, g4⟩, -⟩ := M0.out.ext x1
        go_wp2_with fail
        refine (make_ok hq.limbs (Nat.le_succ_of_le Q1.out) true H8.out K8.out).mono ?_
        rintro e w6 ⟨v8, rfl, hv8, x6⟩
        go_wp2_with fail
        refine (maker_ok (hr.limbs.ext x6) (Nat.le_succ_of_le R1.out)).mono ?_
        rintro e w7 ⟨v9, rfl, hv9, x7⟩
        obtain ⟨⟨c1, c2⟩, ⟨d1, d2⟩, s1⟩ := E0.out.ext (x1.trans (x6.trans x7))
        obtain ⟨⟨c3, c4⟩, ⟨d3, d4⟩, s2⟩ := F0.out.ext (x1.trans (x6.trans x7))
        have hv8' := hv8.ext x7
        obtain ⟨sa, sc, rfl, -, -, -⟩ := hv8.limbs.open
        obtain ⟨ta, tc, rfl, -, -, -⟩ := hv9.limbs.open
        have hz0 := F0.out.2.2
        go_wp2_with fail
        refine bodyPost_ret (v := .tuple #[.agg #[.bool b8, .slice sa (dig m8).length sc], .agg #[.bool false, .slice ta (dig R).length tc], .int .i64 0]) (by simp [results, Tryz.results16, go_sem, c1, c2, c3, c4]) rfl (RetID.of HY.out HD.out.1 HD.out.2 H8.out K8.out ?_ ?_ (ext_box2 (ext_box2 (y0.trans (x1.trans (x6.trans x7))) (by omega) _ _) (by omega) _ _))
        · have z1 := x1.size; have z6 := x6.size; exact ((hv8'.set2 (by omega) _ _).set2 (by omega) _ _).mono (by omega)
        · have z1 := x1.size; have z6 := x6.size; exact ((hv9.set2 (by omega) _ _).set2 (by omega) _ _).mono (by omega)
    | true =>
      cases n2 with
      | false =>
        cases z with
        | false =>
          have HD : Hid (iv true A / iv false B = iv true (dig (Q + 1)) ∧ iv true A % iv false B = (((val B - R) : Nat) : Int)) := by show _ ∧ _; simpa using hdv
          obtain ⟨b8, hb8⟩ : ∃ b, decide (iv true (dig (Q + 1)) < 0) = b := ⟨_, rfl⟩
          obtain ⟨m8, hm8⟩ : ∃ m, (iv true (dig (Q + 1))).natAbs = m := ⟨_, rfl⟩
          have H8 := Lib.hid hb8
          have K8 := Lib.hid hm8
          clear hdv hb8 hm8
          go_enter Tryz.func16, Tryz.ntmps16
          go_wp2_with fail
          rw [← hW0] at y0 m0 e0 f0 ⊢
          clear hW0
          have M0 := Lib.hid m0
          have E0 := Lib.hid e0
          have F0 := Lib.hid f0
          obtain ⟨⟨a1, a2⟩, ⟨b1, b2⟩, hs0⟩ := m0
          clear e0 f0
          refine (div_ok (hA.ext y0) (hB.ext y0) (by have := L1.out; omega) (by have := L2.out; omega) HZ.out).mono ?_
          rintro e w1 ⟨q, r, rfl, hq, hr, x1⟩
          rw [HQ.out] at hq
          rw [HR.out] at hr
          obtain ⟨⟨g1, g2⟩, ⟨g3, g4⟩, -⟩ := M0.out.ext x1
          go_wp2_with fail
          refine (zerod_ok hr.limbs (Nat.le_succ_of_le R1.out) HZZ.out).mono ?_
          rintro e w2 ⟨rfl, rfl⟩
          go_wp2_with fail
          refine (of_calls (n := 1) (by rw [Bs_def]; decide)).mono ?_
          rintro e w3 ⟨o, rfl, ho, x3⟩
          go_wp2_with fail
          refine (add1_ok (hq.limbs.ext x3) ho.limbs Q1.out).mono ?_
          rintro e w4 ⟨qp, rfl, hqp, x4⟩
          obtain ⟨⟨g1, g2⟩, ⟨g3, g4⟩, -⟩ := M0.out.ext (x1.trans (x3.trans x4))
          go_wp2_with fail
          refine (subr_ok (hB.ext (y0.trans (x1.trans (x3.trans x4)))) (hr.limbs.ext (x3.trans x4)) L2.out R0.out).mono ?_
          rintro e w5 ⟨rp, rfl, hrp, x5⟩
          obtain ⟨⟨g1, g2⟩, ⟨g3, g4⟩, -⟩ := M0.out.ext (x1.trans (x3.trans (x4.trans x5)))
          go_wp2_with fail
          refine (make_ok (hqp.limbs.ext x5) Q2.out true H8.out K8.out).mono ?_
          rintro e w6 ⟨v8, rfl, hv8, x6⟩
          go_wp2_with fail
          refine (maker_ok (hrp.limbs.ext x6) R2.out).mono ?_
          rintro e w7 ⟨v9, rfl, hv9, x7⟩
          obtain ⟨⟨c1, c2⟩, ⟨d1, d2⟩, s1⟩ := E0.out.ext (x1.trans (x3.trans (x4.trans (x5.trans (x6.trans x7)))))
          obtain ⟨⟨c3, c4⟩, ⟨d3, d4⟩, s2⟩ := F0.out.ext (x1.trans (x3.trans (x4.trans (x5.trans (x6.trans x7)))))
          have hv8' := hv8.ext x7
          obtain ⟨sa, sc, rfl, -, -, -⟩ := hv8.limbs.open
          obtain ⟨ta, tc, rfl, -, -, -⟩ := hv9.limbs.open
          have hz0 := F0.out.2.2
          go_wp2_with fail
          refine bodyPost_ret (v := .tuple #[.agg #[.bool b8, .slice sa (dig m8).length sc], .agg #[.bool false, .slice ta (dig (val B - R)).length tc], .int .i64 0]) (by simp [results, Tryz.results16, go_sem, c1, c2, c3, c4]) rfl (RetID.of HY.out HD.out.1 HD.out.2 H8.out K8.out ?_ ?_ (ext_box2 (ext_box2 (y0.trans (x1.trans (x3.trans (x4.trans (x5.trans (x6.trans x7)))))) (by omega) _ _) (by omega) _ _))
          · have z1 := x1.size; have z3 := x3.size; have z4 := x4.size; have z5 := x5.size; have z6 := x6.size; exact ((hv8'.set2 (by omega) _ _).set2 (by omega) _ _).mono (by omega)
          · have z1 := x1.size; have z3 := x3.size; have z4 := x4.size; have z5 := x5.size; have z6 := x6.size; exact ((hv9.set2 (by omega) _ _).set2 (by omega) _ _).mono (by omega)
        | true =>
          have HD : Hid (iv true A / iv false B = iv true (dig Q) ∧ iv true A % iv false B = ((R : Nat) : Int)) := by show _ ∧ _; simpa using hdv
          obtain ⟨b8, hb8⟩ : ∃ b, decide (iv true (dig Q) < 0) = b := ⟨_, rfl⟩
          obtain ⟨m8, hm8⟩ : ∃ m, (iv true (dig Q)).natAbs = m := ⟨_, rfl⟩
          have H8 := Lib.hid hb8
          have K8 := Lib.hid hm8
          clear hdv hb8 hm8
          go_enter Tryz.func16, Tryz.ntmps16
          go_wp2_with fail
          rw [← hW0] at y0 m0 e0 f0 ⊢
          clear hW0
          have M0 := Lib.hid m0
          have E0 := Lib.hid e0
          have F0 := Lib.hid f0
          obtain ⟨⟨a1, a2⟩, ⟨b1, b2⟩, hs0⟩ := m0
          clear e0 f0
          refine (div_ok (hA.ext y0) (hB.ext y0) (by have := L1.out; omega) (by have := L2.out; omega) HZ.out).mono ?_
          rintro e w1 ⟨q, r, rfl, hq, hr, x1⟩
          rw [HQ.out] at hq
          rw [HR.out] at hr
          obtain ⟨⟨g1, g2⟩, ⟨g3, g4⟩, -⟩ := M0.out.ext x1
          go_wp2_with fail
          refine (zerod_ok hr.limbs (Nat.le_succ_of_le R1.out) HZZ.out).mono ?_
          rintro e w2 ⟨rfl, rfl⟩
          go_wp2_with fail
          refine (make_ok hq.limbs (Nat.le_succ_of_le Q1.out) true H8.out K8.out).mono ?_
          rintro e w6 ⟨v8, rfl, hv8, x6⟩
          go_wp2_with fail
          refine (maker_ok (hr.limbs.ext x6) (Nat.le_succ_of_le R1.out)).mono ?_
          rintro e w7 ⟨v9, rfl, hv9, x7⟩
          obtain ⟨⟨c1, c2⟩, ⟨d1, d2⟩, s1⟩ := E0.out.ext (x1.trans (x6.trans x7))
          obtain ⟨⟨c3, c4⟩, ⟨d3, d4⟩, s2⟩ := F0.out.ext (x1.trans (x6.trans x7))
          have hv8' := hv8.ext x7
          obtain ⟨sa, sc, rfl, -, -, -⟩ := hv8.limbs.open
          obtain ⟨ta, tc, rfl, -, -, -⟩ := hv9.limbs.open
          have hz0 := F0.out.2.2
          go_wp2_with fail
          refine bodyPost_ret (v := .tuple #[.agg #[.bool b8, .slice sa (dig m8).length sc], .agg #[.bool false, .slice ta (dig R).length tc], .int .i64 0]) (by simp [results, Tryz.results16, go_sem, c1, c2, c3, c4]) rfl (RetID.of HY.out HD.out.1 HD.out.2 H8.out K8.out ?_ ?_ (ext_box2 (ext_box2 (y0.trans (x1.trans (x6.trans x7))) (by omega) _ _) (by omega) _ _))
          · have z1 := x1.size; have z6 := x6.size; exact ((hv8'.set2 (by omega) _ _).set2 (by omega) _ _).mono (by omega)
          · have z1 := x1.size; have z6 := x6.size; exact ((hv9.set2 (by omega) _ _).set2 (by omega) _ _).mono (by omega)
      | true =>
        cases z with
        | false =>
          have HD : Hid (iv true A / iv true B = iv false (dig (Q + 1)) ∧ iv true A % iv true B = (((val B - R) : Nat) : Int)) := by show _ ∧ _; simpa using hdv
          obtain ⟨b8, hb8⟩ : ∃ b, decide (iv false (dig (Q + 1)) < 0) = b := ⟨_, rfl⟩
          obtain ⟨m8, hm8⟩ : ∃ m, (iv false (dig (Q + 1))).natAbs = m := ⟨_, rfl⟩
          have H8 := Lib.hid hb8
          have K8 := Lib.hid hm8
          clear hdv hb8 hm8
          go_enter Tryz.func16, Tryz.ntmps16
          go_wp2_with fail
          rw [← hW0] at y0 m0 e0 f0 ⊢
          clear hW0
          have M0 := Lib.hid m0
          have E0 := Lib.hid e0
          have F0 := Lib.hid f0
          obtain ⟨⟨a1, a2⟩, ⟨b1, b2⟩, hs0⟩ := m0
          clear e0 f0
          refine (div_ok (hA.ext y0) (hB.ext y0) (by have := L1.out; omega) (by have := L2.out; omega) HZ.out).mono ?_
          rintro e w1 ⟨q, r, rfl, hq, hr, x1⟩
          rw [HQ.out] at hq
          rw [HR.out] at hr
          obtain ⟨⟨g1, g2⟩, ⟨g3, g4⟩, -⟩ := M0.out.ext x1
          go_wp2_with fail
          refine (zerod_ok hr.limbs (Nat.le_succ_of_le R1.out) HZZ.out).mono ?_
          rintro e w2 ⟨rfl, rfl⟩
          go_wp2_with fail
          refine (of_calls (n := 1) (by rw [Bs_def]; decide)).mono ?_
          rintro e w3 ⟨o, rfl, ho, x3⟩
          go_wp2_with fail
          refine (add1_ok (hq.limbs.ext x3) ho.limbs Q1.out).mono ?_
          rintro e w4 ⟨qp, rfl, hqp, x4⟩
          obtain ⟨⟨g1, g2⟩, ⟨g3, g4⟩, -⟩ := M0.out.ext (x1.trans (x3.trans x4))
          go_wp2_with fail
          refine (subr_ok (hB.ext (y0.trans (x1.trans (x3.trans x4)))) (hr.limbs.ext (x3.trans x4)) L2.out R0.out).mono ?_
          rintro e w5 ⟨rp, rfl, hrp, x5⟩
          obtain ⟨⟨g1, g2⟩, ⟨g3, g4⟩, -⟩ := M0.out.ext (x1.trans (x3.trans (x4.trans x5)))
          go_wp2_with fail
          refine (make_ok (hqp.limbs.ext x5) Q2.out false H8.out K8.out).mono ?_
          rintro e w6 ⟨v8, rfl, hv8, x6⟩
          go_wp2_with fail
          refine (maker_ok (hrp.limbs.ext x6) R2.out).mono ?_
          rintro e w7 ⟨v9, rfl, hv9, x7⟩
          obtain ⟨⟨c1, c2⟩, ⟨d1, d2⟩, s1⟩ := E0.out.ext (x1.trans (x3.trans (x4.trans (x5.trans (x6.trans x7)))))
          obtain ⟨⟨c3, c4⟩, ⟨d3, d4⟩, s2⟩ := F0.out.ext (x1.trans (x3.trans (x4.trans (x5.trans (x6.trans x7)))))
          have hv8' := hv8.ext x7
          obtain ⟨sa, sc, rfl, -, -, -⟩ := hv8.limbs.open
          obtain ⟨ta, tc, rfl, -, -, -⟩ := hv9.limbs.open
          have hz0 := F0.out.2.2
          go_wp2_with fail
          refine bodyPost_ret (v := .tuple #[.agg #[.bool b8, .slice sa (dig m8).length sc], .agg #[.bool false, .slice ta (dig (val B - R)).length tc], .int .i64 0]) (by simp [results, Tryz.results16, go_sem, c1, c2, c3, c4]) rfl (RetID.of HY.out HD.out.1 HD.out.2 H8.out K8.out ?_ ?_ (ext_box2 (ext_box2 (y0.trans (x1.trans (x3.trans (x4.trans (x5.trans (x6.trans x7)))))) (by omega) _ _) (by omega) _ _))
          · have z1 := x1.size; have z3 := x3.size; have z4 := x4.size; have z5 := x5.size; have z6 := x6.size; exact ((hv8'.set2 (by omega) _ _).set2 (by omega) _ _).mono (by omega)
          · have z1 := x1.size; have z3 := x3.size; have z4 := x4.size; have z5 := x5.size; have z6 := x6.size; exact ((hv9.set2 (by omega) _ _).set2 (by omega) _ _).mono (by omega)
        | true =>
          have HD : Hid (iv true A / iv true B = iv false (dig Q) ∧ iv true A % iv true B = ((R : Nat) : Int)) := by show _ ∧ _; simpa using hdv
          obtain ⟨b8, hb8⟩ : ∃ b, decide (iv false (dig Q) < 0) = b := ⟨_, rfl⟩
          obtain ⟨m8, hm8⟩ : ∃ m, (iv false (dig Q)).natAbs = m := ⟨_, rfl⟩
          have H8 := Lib.hid hb8
          have K8 := Lib.hid hm8
          clear hdv hb8 hm8
          go_enter Tryz.func16, Tryz.ntmps16
          go_wp2_with fail
          rw [← hW0] at y0 m0 e0 f0 ⊢
          clear hW0
          have M0 := Lib.hid m0
          have E0 := Lib.hid e0
          have F0 := Lib.hid f0
          obtain ⟨⟨a1, a2⟩, ⟨b1, b2⟩, hs0⟩ := m0
          clear e0 f0
          refine (div_ok (hA.ext y0) (hB.ext y0) (by have := L1.out; omega) (by have := L2.out; omega) HZ.out).mono ?_
          rintro e w1 ⟨q, r, rfl, hq, hr, x1⟩
          rw [HQ.out] at hq
          rw [HR.out] at hr
          obtain ⟨⟨g1, g2⟩, ⟨g3, g4⟩, -⟩ := M0.out.ext x1
          go_wp2_with fail
          refine (zerod_ok hr.limbs (Nat.le_succ_of_le R1.out) HZZ.out).mono ?_
          rintro e w2 ⟨rfl, rfl⟩
          go_wp2_with fail
          refine (make_ok hq.limbs (Nat.le_succ_of_le Q1.out) false H8.out K8.out).mono ?_
          rintro e w6 ⟨v8, rfl, hv8, x6⟩
          go_wp2_with fail
          refine (maker_ok (hr.limbs.ext x6) (Nat.le_succ_of_le R1.out)).mono ?_
          rintro e w7 ⟨v9, rfl, hv9, x7⟩
          obtain ⟨⟨c1, c2⟩, ⟨d1, d2⟩, s1⟩ := E0.out.ext (x1.trans (x6.trans x7))
          obtain ⟨⟨c3, c4⟩, ⟨d3, d4⟩, s2⟩ := F0.out.ext (x1.trans (x6.trans x7))
          have hv8' := hv8.ext x7
          obtain ⟨sa, sc, rfl, -, -, -⟩ := hv8.limbs.open
          obtain ⟨ta, tc, rfl, -, -, -⟩ := hv9.limbs.open
          have hz0 := F0.out.2.2
          go_wp2_with fail
          refine bodyPost_ret (v := .tuple #[.agg #[.bool b8, .slice sa (dig m8).length sc], .agg #[.bool false, .slice ta (dig R).length tc], .int .i64 0]) (by simp [results, Tryz.results16, go_sem, c1, c2, c3, c4]) rfl (RetID.of HY.out HD.out.1 HD.out.2 H8.out K8.out ?_ ?_ (ext_box2 (ext_box2 (y0.trans (x1.trans (x6.trans x7))) (by omega) _ _) (by omega) _ _))
          · have z1 := x1.size; have z6 := x6.size; exact ((hv8'.set2 (by omega) _ _).set2 (by omega) _ _).mono (by omega)
          · have z1 := x1.size; have z6 := x6.size; exact ((hv9.set2 (by omega) _ _).set2 (by omega) _ _).mono (by omega)
end Go.Proofs.YtefeglkbikcjeaaGreatDoor

/- Contracts of package whole: Read. -/
namespace Go.Proofs.YtefeglkbikcjeaaGreatDoor
open Go Go.RowKit

/-- the error that the text of a whole number gives, and what it reads -/
noncomputable def errI (l : List UInt8) : Nat := if l.head? = some 45 then (if errR l.tail ≠ 0 then errR l.tail else if readN l.tail = 0 then 3 else 0) else errR l
noncomputable def readI (l : List UInt8) : Int := if errI l ≠ 0 then 0 else if l.head? = some 45 then -(readN l.tail : Int) else (readN l : Int)
def RetIR (w : World) (k : Int) (z : Int) (e : Ending) (w' : World) : Prop :=
  ∃ v, e = .returned (.tuple #[.agg #[.bool (decide (z < 0)), v], .int .i64 k]) ∧ OwnL w.heap.size w' v (dig z.natAbs) ∧ Ext w w'
theorem RetIR.err {w w' : World} {l : List UInt8} {k : Int} (h : ((errI l : Nat) : Int) = k) (hk : k ≠ 0) (x : Ext w w') : RetIR w (errI l : Nat) (readI l) (.returned (.tuple #[.agg #[.bool false, .slice none 0 0], .int .i64 k])) w' := by
  have : readI l = 0 := by unfold readI; rw [if_pos (by omega)]
  rw [this]
  exact ⟨_, by rw [h]; rfl, by rw [show (0 : Int).natAbs = 0 from rfl, dig_zero]; exact OwnL.nil _ _, x⟩
theorem RetIR.ok {w w' : World} {l : List UInt8} {z : Int} {b : Bool} {m : Nat} {v : Value} (h : errI l = 0) (hz : readI l = z) (hb : decide (z < 0) = b) (hm : z.natAbs = m) (hv : OwnL w.heap.size w' v (dig m)) (x : Ext w w') : RetIR w (errI l : Nat) (readI l) (.returned (.tuple #[.agg #[.bool b, v], .int .i64 0])) w' := by
  subst hz hb hm
  exact ⟨_, by rw [h]; rfl, hv, x⟩

theorem head_45 {l : List UInt8} : (l.take 1 == [45]) = decide (l.head? = some 45) := by
  cases l with
  | nil => rfl
  | cons a l => by_cases h : a = 45 <;> simp [h]

set_option maxHeartbeats 2000000 in
set_option maxRecDepth 100000 in
theorem iread_calls (s : ByteArray) (w : World) (hs : s.size ≤ 500) :
    Calls Tryz.prog 59 #[.string s] w (RetIR w (errI s.data.toList : Nat) (readI s.data.toList)) := by
  have hsi : (s.size : Int) ≤ 500 := by omega
  have y0 := (Ext.refl w).alloc (.cells #[.bool false, .slice none 0 0] 25)
  have hE : ((s.extract 0 1).toList == [45]) = decide (s.data.toList.head? = some 45) := by rw [Lib.extract_toList, List.drop_zero]; exact head_45
  have hlen : s.data.toList.length = s.size := (Lib.size_eq s).symm
  have HS := Lib.hid hs
  by_cases hh : s.data.toList.head? = some 45
  · have h1 : (0 : Int) < s.size := by
      have : s.data.toList ≠ [] := by intro h; rw [h] at hh; simp at hh
      have := List.length_pos_iff.2 this
      omega
    obtain ⟨t, ht⟩ : ∃ t, t = s.extract 1 s.size := ⟨_, rfl⟩
    have htl : t.data.toList = s.data.toList.tail := by rw [ht, Lib.extract_data, List.drop_one, List.take_of_length_le (by rw [List.length_tail]; omega)]
    have hts : t.size ≤ 500 := by rw [Lib.size_eq t, htl, List.length_tail]; omega
    obtain ⟨k, hk⟩ : ∃ k, ((errR t.data.toList : Nat) : Int) = k := ⟨_, rfl⟩
    obtain ⟨n, hn⟩ : ∃ n, readN t.data.toList = n := ⟨_, rfl⟩
    have hL : (dig n).length ≤ 65536 := by rw [← hn]; exact digits_501 (by rw [← Lib.size_eq t]; omega)
    have hEI : ((errI s.data.toList : Nat) : Int) = if k = 0 then (if n = 0 then 3 else 0) else k := by
      unfold errI
      rw [if_pos hh, ← htl, hn, ← hk]
      by_cases h : errR t.data.toList = 0
      · rw [h]; by_cases h2 : n = 0 <;> simp [h2]
      · rw [if_pos h, if_neg (by omega)]
    have hRI : readI s.data.toList = if errI s.data.toList ≠ 0 then 0 else -(n : Int) := by
      unfold readI
      rw [if_pos hh, ← htl, hn]
    rw [decide_eq_true hh] at hE
    have HT := Lib.hid ht
    have HK := Lib.hid hk
    have HN := Lib.hid hn
    have HL := Lib.hid hL
    have HTS : Hid (t.size ≤ maxLen) := by show _ ≤ _; unfold maxLen; omega
    have HEI := Lib.hid hEI
    have HRI := Lib.hid hRI
    clear ht htl hts hk hn hL hEI hRI hlen hh hs
    by_cases hk0 : k = 0
    · subst hk0
      obtain ⟨z, hz⟩ : ∃ z, decide (n = 0) = z := ⟨_, rfl⟩
      cases z with
      | true =>
        have hn0 : n = 0 := by simpa using hz
        have HE3 : Hid (((errI s.data.toList : Nat) : Int) = 3) := by show _ = _; rw [HEI.out, if_pos rfl, if_pos hn0]
        have HZ := Lib.hid hz
        clear hz hn0
        go_enter Tryz.func59, Tryz.ntmps59
        go_wp2_with fail
        rw [← HT.out]
        refine (read_str t _ HTS.out 0 n HK.out HN.out).mono ?_
        rintro e w1 ⟨v, rfl, hv, x1⟩
        obtain ⟨c1, c2, d1, d2⟩ := box2 x1
        go_wp2_with fail
        refine (zerod_ok hv.limbs HL.out HZ.out).mono ?_
        rintro e w2 ⟨rfl, rfl⟩
        go_wp2_with fail
        refine bodyPost_ret (v := .tuple #[.agg #[.bool false, .slice none 0 0], .int .i64 3]) (by simp [results, Tryz.results59, go_sem, c1, c2]) rfl (RetIR.err HE3.out (by decide) (ext_box2 (y0.trans x1) (Nat.le_refl _) _ _))
      | false =>
        have hn0 : ¬ n = 0 := by simpa using hz
        have HE3 : Hid (errI s.data.toList = 0) := by show _ = _; have := HEI.out; rw [if_pos rfl, if_neg hn0] at this; omega
        have HR3 : Hid (readI s.data.toList = -(n : Int)) := by show _ = _; rw [HRI.out, if_neg (by rw [HE3.out]; simp)]
        have HB : Hid (decide (iv true (dig n) < 0) = true) := by show _ = _; rw [iv_dig_true]; simp; omega
        have HM : Hid ((iv true (dig n)).natAbs = n) := by show _ = _; rw [iv_dig_true]; omega
        have HZ := Lib.hid hz
        have HN0 := Lib.hid hn0
        clear hz hn0
        go_enter Tryz.func59, Tryz.ntmps59
        go_wp2_with fail
        rw [← HT.out]
        refine (read_str t _ HTS.out 0 n HK.out HN.out).mono ?_
        rintro e w1 ⟨v, rfl, hv, x1⟩
        go_wp2_with fail
        refine (zerod_ok hv.limbs HL.out HZ.out).mono ?_
        rintro e w2 ⟨rfl, rfl⟩
        go_wp2_with fail
        refine (make_ok hv.limbs HL.out true HB.out HM.out).mono ?_
        rintro e w3 ⟨r, rfl, hr, x3⟩
        obtain ⟨c1, c2, d1, d2⟩ := box2 (x1.trans x3)
        obtain ⟨ra, rc, rfl, -, -, -⟩ := hr.limbs.open
        go_wp2_with fail
        refine bodyPost_ret (v := .tuple #[.agg #[.bool true, .slice ra (dig n).length rc], .int .i64 0]) (by simp [results, Tryz.results59, go_sem, c1, c2]) rfl (RetIR.ok (m := n) HE3.out HR3.out (by have := HN0.out; simp; omega) (by omega) ?_ (ext_box2 (y0.trans (x1.trans x3)) (Nat.le_refl _) _ _))
        have z1 := x1.size
        simp at z1
        exact (hr.set2 (by omega) _ _).mono (by omega)
    · have HE3 : Hid (((errI s.data.toList : Nat) : Int) = k) := by show _ = _; rw [HEI.out, if_neg hk0]
      go_enter Tryz.func59, Tryz.ntmps59
      go_wp2_with fail
      rw [← HT.out]
      refine (read_str t _ HTS.out k n HK.out HN.out).mono ?_
      rintro e w1 ⟨v, rfl, hv, x1⟩
      obtain ⟨c1, c2, d1, d2⟩ := box2 x1
      go_wp2_with fail
      refine bodyPost_ret (v := .tuple #[.agg #[.bool false, .slice none 0 0], .int .i64 k]) (by simp [results, Tryz.results59, go_sem, c1, c2]) rfl (RetIR.err HE3.out hk0 (ext_box2 (y0.trans x1) (Nat.le_refl _) _ _))
  · rw [decide_eq_false hh] at hE
    obtain ⟨k, hk⟩ : ∃ k, ((errR s.data.toList : Nat) : Int) = k := ⟨_, rfl⟩
    obtain ⟨n, hn⟩ : ∃ n, readN s.data.toList = n := ⟨_, rfl⟩
    have hL : (dig n).length ≤ 65536 := by rw [← hn]; exact digits_501 (by omega)
    have hEI : ((errI s.data.toList : Nat) : Int) = k := by unfold errI; rw [if_neg hh]; exact hk
    have hRI : readI s.data.toList = if errI s.data.toList ≠ 0 then 0 else (n : Int) := by unfold readI; rw [if_neg hh, hn]
    have HK := Lib.hid hk
    have HN := Lib.hid hn
    have HL := Lib.hid hL
    have HTS : Hid (s.size ≤ maxLen) := by show _ ≤ _; unfold maxLen; omega
    have HEI := Lib.hid hEI
    have HRI := Lib.hid hRI
    clear hk hn hL hEI hRI hlen hh hs
    by_cases h0 : s.size = 0
    · have hsz : (s.size : Int) ≤ 0 := by omega
      clear h0
      by_cases hk0 : k = 0
      · subst hk0
        have HE3 : Hid (errI s.data.toList = 0) := by show _ = _; have := HEI.out; omega
        have HR3 : Hid (readI s.data.toList = (n : Int)) := by show _ = _; rw [HRI.out, if_neg (by rw [HE3.out]; simp)]
        go_enter Tryz.func59, Tryz.ntmps59
        go_wp2_with fail
        refine (read_str s _ HTS.out 0 n HK.out HN.out).mono ?_
        rintro e w1 ⟨v, rfl, hv, x1⟩
        go_wp2_with fail
        refine (maker_ok hv.limbs HL.out).mono ?_
        rintro e w3 ⟨r, rfl, hr, x3⟩
        obtain ⟨c1, c2, d1, d2⟩ := box2 (x1.trans x3)
        obtain ⟨ra, rc, rfl, -, -, -⟩ := hr.limbs.open
        go_wp2_with fail
        refine bodyPost_ret (v := .tuple #[.agg #[.bool false, .slice ra (dig n).length rc], .int .i64 0]) (by simp [results, Tryz.results59, go_sem, c1, c2]) rfl (RetIR.ok (m := n) HE3.out HR3.out (by simp) (by omega) ?_ (ext_box2 (y0.trans (x1.trans x3)) (Nat.le_refl _) _ _))
        have z1 := x1.size
        simp at z1
        exact (hr.set2 (by omega) _ _).mono (by omega)
      · have HE3 := HEI
        go_enter Tryz.func59, Tryz.ntmps59
        go_wp2_with fail
        refine (read_str s _ HTS.out k n HK.out HN.out).mono ?_
        rintro e w1 ⟨v, rfl, hv, x1⟩
        obtain ⟨c1, c2, d1, d2⟩ := box2 x1
        go_wp2_with fail
        refine bodyPost_ret (v := .tuple #[.agg #[.bool false, .slice none 0 0], .int .i64 k]) (by simp [results, Tryz.results59, go_sem, c1, c2]) rfl (RetIR.err HE3.out hk0 (ext_box2 (y0.trans x1) (Nat.le_refl _) _ _))
    · have hsz : (0 : Int) < s.size := by omega
      clear h0
      by_cases hk0 : k = 0
      · subst hk0
        have HE3 : Hid (errI s.data.toList = 0) := by show _ = _; have := HEI.out; omega
        have HR3 : Hid (readI s.data.toList = (n : Int)) := by show _ = _; rw [HRI.out, if_neg (by rw [HE3.out]; simp)]
        go_enter Tryz.func59, Tryz.ntmps59
        go_wp2_with fail
        refine (read_str s _ HTS.out 0 n HK.out HN.out).mono ?_
        rintro e w1 ⟨v, rfl, hv, x1⟩
        go_wp2_with fail
        refine (maker_ok hv.limbs HL.out).mono ?_
        rintro e w3 ⟨r, rfl, hr, x3⟩
        obtain ⟨c1, c2, d1, d2⟩ := box2 (x1.trans x3)
        obtain ⟨ra, rc, rfl, -, -, -⟩ := hr.limbs.open
        go_wp2_with fail
        refine bodyPost_ret (v := .tuple #[.agg #[.bool false, .slice ra (dig n).length rc], .int .i64 0]) (by simp [results, Tryz.results59, go_sem, c1, c2]) rfl (RetIR.ok (m := n) HE3.out HR3.out (by simp) (by omega) ?_ (ext_box2 (y0.trans (x1.trans x3)) (Nat.le_refl _) _ _))
        have z1 := x1.size
        simp at z1
        exact (hr.set2 (by omega) _ _).mono (by omega)
      · have HE3 := HEI
        go_enter Tryz.func59, Tryz.ntmps59
        go_wp2_with fail
        refine (read_str s _ HTS.out k n HK.out HN.out).mono ?_
        rintro e w1 ⟨v, rfl, hv, x1⟩
        obtain ⟨c1, c2, d1, d2⟩ := box2 x1
        go_wp2_with fail
        refine bodyPost_ret (v := .tuple #[.agg #[.bool false, .slice none 0 0], .int .i64 k]) (by simp [results, Tryz.results59, go_sem, c1, c2]) rfl (RetIR.err HE3.out hk0 (ext_box2 (y0.trans x1) (Nat.le_refl _) _ _))
end Go.Proofs.YtefeglkbikcjeaaGreatDoor

/- Contracts of tombolaref05 and of the law's helpers: Same, same. -/
namespace Go.Proofs.YtefeglkbikcjeaaGreatDoor
open Go Go.RowKit

set_option maxHeartbeats 2000000 in
set_option maxRecDepth 100000 in
theorem isame_calls {w : World} {v u : Value} {A B : List Nat} (hA : Limbs w v A) (hB : Limbs w u B) (n1 n2 : Bool) :
    Calls Tryz.prog 17 #[.agg #[.bool n1, v], .agg #[.bool n2, u]] w fun e w' => e = .returned (.bool (decide (n1 = n2 ∧ A = B))) ∧ Ext w w' := by
  obtain ⟨a, cap, rfl, h1, h2, h3⟩ := hA.open
  obtain ⟨b, cap', rfl, g1, g2, g3⟩ := hB.open
  unfold maxLen at h2 g2
  have H3 := Lib.hid h3
  have G3 := Lib.hid g3
  have y0 := ((Ext.refl w).alloc (.cells #[.bool n1, .slice a A.length cap] 25)).alloc (.cells #[.bool n2, .slice b B.length cap'] 25)
  have m0 := (argsAt_mk w n1 n2 (.slice a A.length cap) (.slice b B.length cap') 25 25)
  obtain ⟨W0, hW0⟩ : ∃ W0, W0 = ((w.alloc (.cells #[.bool n1, .slice a A.length cap] 25)).alloc (.cells #[.bool n2, .slice b B.length cap'] 25)) := ⟨_, rfl⟩
  clear h3 g3
  obtain ⟨r, hr⟩ : ∃ r, decide (n1 = n2 ∧ A = B) = r := ⟨_, rfl⟩
  rw [hr]
  have HR := Lib.hid hr
  clear hr
  by_cases hn : n1 = n2
  · subst hn
    by_cases hln : A.length = B.length
    · have HLN := Lib.hid hln
      rw [hln] at hW0 m0 y0
      have hle : (A.length : Int) = (B.length : Int) := by omega
      go_enter Tryz.func17, Tryz.ntmps17
      go_wp2_with fail
      rw [← hW0] at m0 y0 ⊢
      clear hW0 hle
      have M0 := Lib.hid m0
      clear m0
      go_loopw [5] (fun v5 wr => ∃ i : Nat, v5 = .int .i64 (i : Int) ∧ i ≤ A.length ∧ A.take i = B.take i ∧ Ext W0 wr) (fun v5 _ => A.length - (intOf v5).toNat)
      case atStart => exact ⟨0, rfl, Nat.zero_le _, rfl, Ext.refl _⟩
      case round =>
        obtain ⟨i, rfl, hi, he, hx⟩ := hrel
        obtain ⟨⟨a1, a2⟩, ⟨b1, b2⟩, -⟩ := M0.out.ext hx
        have HE := Lib.hid he
        clear he
        have hAB : A.length = B.length := HLN.out
        by_cases hin : i < A.length
        · obtain ⟨ba, oa, rfl, hba, hca⟩ := H3.out i hin
          obtain ⟨bb, ob, rfl, hbb, hcb⟩ := G3.out i (by omega)
          have hcA : wr.cell? ⟨ba, oa + i, none⟩ = some (.int .u64 (el A i : Nat)) := by rw [Below.cell (y0.trans hx) (p := ⟨ba, oa + i, none⟩) hba]; exact hca i hin
          have hcB : wr.cell? ⟨bb, ob + i, none⟩ = some (.int .u64 (el B i : Nat)) := by rw [Below.cell (y0.trans hx) (p := ⟨bb, ob + i, none⟩) hbb]; exact hcb i (by omega)
          have hinB : i < B.length := by omega
          clear hca hcb
          go_wp2_with (go_quiet (fail))
          · rename_i hq
            have HD : Hid (r = false) := HR.out.symm.trans (decide_eq_false fun e => by rw [e.2] at hq; simp at hq)
            go_ret
            exact ⟨ret_eq (by rw [HD.out]; rfl), y0.trans (hx.drewN _)⟩
          · rename_i hq
            have hq' : el A i = el B i := by simp at hq; omega
            refine ⟨⟨i + 1, rfl, by omega, ?_, hx.drewN _⟩, by simp [intOf]; omega⟩
            rw [List.take_succ_eq_append_getElem hin, List.take_succ_eq_append_getElem hinB, HE.out]
            rw [el_of_lt hin, el_of_lt hinB] at hq'
            rw [hq']
        · obtain rfl : i = A.length := by omega
          have HD : Hid (r = true) := by
            have h := HE.out
            rw [List.take_length, HLN.out, List.take_length] at h
            exact HR.out.symm.trans (decide_eq_true (by simp [h]))
          go_wp2_with fail
          go_ret
          exact ⟨ret_eq (by rw [HD.out]; rfl), y0.trans hx⟩
    · have HD : Hid (r = false) := HR.out.symm.trans (decide_eq_false fun e => hln (by rw [e.2]))
      go_enter Tryz.func17, Tryz.ntmps17
      go_wp2_with fail
      go_ret
      exact ⟨ret_eq (by rw [HD.out]; rfl), y0⟩
  · have HD : Hid (r = false) := HR.out.symm.trans (decide_eq_false fun e => hn e.1)
    have hg : (n1 == n2) = false := by simpa using hn
    go_enter Tryz.func17, Tryz.ntmps17
    go_wp2_with fail
    go_ret
    exact ⟨ret_eq (by rw [HD.out]; rfl), y0⟩

theorem lsame_calls {w : World} {v u : Value} {A B : List Nat} (hA : Limbs w v A) (hB : Limbs w u B) (n1 n2 : Bool) :
    Calls Tryz.prog 61 #[.agg #[.bool n1, v], .agg #[.bool n2, u]] w fun e w' => e = .returned (.bool (decide (n1 = n2 ∧ A = B))) ∧ Ext w w' := by
  obtain ⟨a, cap, rfl, -, -, -⟩ := hA.open
  obtain ⟨b, cap', rfl, -, -, -⟩ := hB.open
  have y0 := ((Ext.refl w).alloc (.cells #[.bool n1, .slice a A.length cap] 25)).alloc (.cells #[.bool n2, .slice b B.length cap'] 25)
  have hs := isame_calls (hA.ext y0) (hB.ext y0) n1 n2
  obtain ⟨r, hr⟩ : ∃ r, decide (n1 = n2 ∧ A = B) = r := ⟨_, rfl⟩
  rw [hr] at hs ⊢
  go_enter Tryz.func61, Tryz.ntmps61
  go_wp2_with fail
  refine hs.mono ?_
  rintro e w1 ⟨rfl, x1⟩
  go_wp2_with fail
  go_ret
  exact ⟨rfl, y0.trans x1⟩

theorem same_int (x y : Int) : decide (decide (x < 0) = decide (y < 0) ∧ dig x.natAbs = dig y.natAbs) = decide (x = y) := by
  rw [Bool.eq_iff_iff, decide_eq_true_eq, decide_eq_true_eq]
  constructor
  · rintro ⟨h1, h2⟩
    have h3 : x.natAbs = y.natAbs := by rw [← val_dig x.natAbs, h2, val_dig]
    have h4 : x < 0 ↔ y < 0 := by simpa using h1
    omega
  · rintro rfl; exact ⟨rfl, rfl⟩

/-- the whole number z, as it is told: its sign, its magnitude -/
def IsI (w : World) (b : Bool) (v : Value) (m : Nat) (z : Int) : Prop := decide (z < 0) = b ∧ z.natAbs = m ∧ Limbs w v (dig m)
theorem IsI.ext {w w' : World} {b : Bool} {v : Value} {m : Nat} {z : Int} (h : IsI w b v m z) (x : Ext w w') : IsI w' b v m z := ⟨h.1, h.2.1, h.2.2.ext x⟩
theorem IsI.iv {w : World} {b : Bool} {v : Value} {m : Nat} {z : Int} (h : IsI w b v m z) : iv b (dig m) = z := by
  rw [← h.1, ← h.2.1, iv_sgn]
theorem RetI.isI {w w' : World} {z : Int} {e : Ending} (h : RetI w z e w') : ∃ b v m, e = .returned (.agg #[.bool b, v]) ∧ IsI w' b v m z ∧ Ext w w' := by
  obtain ⟨v, rfl, h1, h2⟩ := h
  exact ⟨_, v, _, rfl, ⟨rfl, rfl, h1.limbs⟩, h2⟩
theorem same_is {w : World} {b1 b2 : Bool} {v u : Value} {m1 m2 : Nat} {x y : Int} (hx : IsI w b1 v m1 x) (hy : IsI w b2 u m2 y) (c : Bool) (hc : decide (x = y) = c) :
    Calls Tryz.prog 61 #[.agg #[.bool b1, v], .agg #[.bool b2, u]] w fun e w' => e = .returned (.bool c) ∧ Ext w w' := by
  have h := lsame_calls hx.2.2 hy.2.2 b1 b2
  rw [← hx.1, ← hy.1, ← hx.2.1, ← hy.2.1, same_int, hc] at h
  rw [← hx.1, ← hy.1]
  exact h
end Go.Proofs.YtefeglkbikcjeaaGreatDoor

/- Contracts of package whole, by the whole numbers that the values stand for. -/
namespace Go.Proofs.YtefeglkbikcjeaaGreatDoor
open Go Go.RowKit

/-- a value that stands for z, in any way, of no more than k limbs -/
def InI (w : World) (b : Bool) (v : Value) (k : Nat) (z : Int) : Prop := ∃ A, Limbs w v A ∧ iv b A = z ∧ A.length ≤ k
/-- z has no more than k limbs -/
def LenI (k : Nat) (z : Int) : Prop := z.natAbs < Bs ^ k
/-- the call returns z, as it is told -/
def RetIs (w : World) (z : Int) (e : Ending) (w' : World) : Prop := ∃ b v m, e = .returned (.agg #[.bool b, v]) ∧ IsI w' b v m z ∧ Ext w w'

theorem InI.ext {w w' : World} {b : Bool} {v : Value} {k : Nat} {z : Int} (h : InI w b v k z) (x : Ext w w') : InI w' b v k z := by
  obtain ⟨A, h1, h2, h3⟩ := h; exact ⟨A, h1.ext x, h2, h3⟩
theorem IsI.inI {w : World} {b : Bool} {v : Value} {m k : Nat} {z : Int} (h : IsI w b v m z) (hk : LenI k z) : InI w b v k z :=
  ⟨dig m, h.2.2, h.iv, by rw [← h.2.1]; exact dig_len_le hk⟩
theorem IsI.slice {w : World} {b : Bool} {v : Value} {m : Nat} {z : Int} (h : IsI w b v m z) : ∃ a n c, v = .slice a n c := by
  obtain ⟨a, c, h, -⟩ := h.2.2.open; exact ⟨a, _, c, h⟩
theorem InI.slice {w : World} {b : Bool} {v : Value} {k : Nat} {z : Int} (h : InI w b v k z) : ∃ a n c, v = .slice a n c := by
  obtain ⟨A, h1, -⟩ := h; obtain ⟨a, c, h, -⟩ := h1.open; exact ⟨a, _, c, h⟩
theorem InI.len {w : World} {b : Bool} {v : Value} {k : Nat} {z : Int} (h : InI w b v k z) : LenI k z := by
  obtain ⟨A, h1, h2, h3⟩ := h
  unfold LenI
  rw [← h2, iv_abs]
  exact Nat.lt_of_lt_of_le (val_lt h1.2) (Nat.pow_le_pow_right Bs_pos h3)
theorem RetI.is {w w' : World} {z : Int} {e : Ending} (h : RetI w z e w') : RetIs w z e w' := h.isI

theorem LenI.mono {k l : Nat} {z : Int} (h : LenI k z) (hk : k ≤ l) : LenI l z := Nat.lt_of_lt_of_le h (Nat.pow_le_pow_right Bs_pos hk)
theorem LenI.small {z : Int} (h : z.natAbs ≤ 9223372036854775808) : LenI 1 z := by unfold LenI; rw [Nat.pow_one, Bs_def]; omega
theorem LenI.add {k : Nat} {x y : Int} (h1 : LenI k x) (h2 : LenI k y) : LenI (k + 1) (x + y) := by
  unfold LenI at *
  have c : 2 * Bs ^ k ≤ Bs ^ (k + 1) := by rw [Nat.pow_succ, Nat.mul_comm (Bs ^ k)]; exact Nat.mul_le_mul_right _ two_le_Bs
  generalize Bs ^ k = X at *
  generalize Bs ^ (k + 1) = Y at *
  omega
theorem LenI.neg {k : Nat} {x : Int} (h1 : LenI k x) : LenI k (-x) := by unfold LenI at *; rwa [Int.natAbs_neg]
theorem LenI.sub {k : Nat} {x y : Int} (h1 : LenI k x) (h2 : LenI k y) : LenI (k + 1) (x - y) := by rw [Int.sub_eq_add_neg]; exact h1.add h2.neg
theorem LenI.mul {k l : Nat} {x y : Int} (h1 : LenI k x) (h2 : LenI l y) : LenI (k + l) (x * y) := by
  unfold LenI at *
  rw [Int.natAbs_mul, Nat.pow_add]
  exact Nat.mul_lt_mul'' h1 h2

theorem of_is (w : World) (n : Int) (h1 : -9223372036854775808 ≤ n) (h2 : n ≤ 9223372036854775807) : Calls Tryz.prog 58 #[.int .i64 n] w (RetIs w n) :=
  (iof_calls w n h1 h2).mono fun _ _ h => h.is
theorem add_is {w : World} {b1 b2 : Bool} {v u : Value} {k l : Nat} {x y : Int} (hx : InI w b1 v k x) (hy : InI w b2 u l y) (hk : k ≤ 65535) (hl : l ≤ 65535) :
    Calls Tryz.prog 13 #[.agg #[.bool b1, v], .agg #[.bool b2, u]] w (RetIs w (x + y)) := by
  obtain ⟨A, a1, rfl, a3⟩ := hx
  obtain ⟨B, c1, rfl, c3⟩ := hy
  exact (iadd_calls a1 c1 (by omega) (by omega) b1 b2).mono fun _ _ h => h.is
theorem sub_is {w : World} {b1 b2 : Bool} {v u : Value} {k l : Nat} {x y : Int} (hx : InI w b1 v k x) (hy : InI w b2 u l y) (hk : k ≤ 65535) (hl : l ≤ 65535) :
    Calls Tryz.prog 14 #[.agg #[.bool b1, v], .agg #[.bool b2, u]] w (RetIs w (x - y)) := by
  obtain ⟨A, a1, rfl, a3⟩ := hx
  obtain ⟨B, c1, rfl, c3⟩ := hy
  exact (isub_calls a1 c1 (by omega) (by omega) b1 b2).mono fun _ _ h => h.is
theorem mul_is {w : World} {b1 b2 : Bool} {v u : Value} {k l : Nat} {x y : Int} (hx : InI w b1 v k x) (hy : InI w b2 u l y) (hk : k + l ≤ 65536) :
    Calls Tryz.prog 15 #[.agg #[.bool b1, v], .agg #[.bool b2, u]] w (RetIs w (x * y)) := by
  obtain ⟨A, a1, rfl, a3⟩ := hx
  obtain ⟨B, c1, rfl, c3⟩ := hy
  exact (imul_calls a1 c1 (by omega) b1 b2).mono fun _ _ h => h.is
theorem neg_is {w : World} {b1 : Bool} {v : Value} {k : Nat} {x : Int} (hx : InI w b1 v k x) (hk : k ≤ 65535) :
    Calls Tryz.prog 12 #[.agg #[.bool b1, v]] w (RetIs w (-x)) := by
  obtain ⟨A, a1, rfl, a3⟩ := hx
  exact (neg_calls a1 (by omega) b1).mono fun _ _ h => h.is
theorem make_is {w : World} {b1 : Bool} {v : Value} {k : Nat} {x : Int} (hx : InI w b1 v k x) (hk : k ≤ 65535) :
    Calls Tryz.prog 70 #[.bool b1, v] w (RetIs w x) := by
  obtain ⟨A, a1, rfl, a3⟩ := hx
  exact (make_calls a1 (by omega) b1).mono fun _ _ h => h.is
theorem sign_is {w : World} {b1 : Bool} {v : Value} {k : Nat} {x : Int} (hx : InI w b1 v k x) (hk : k ≤ 65535) (s : Int) (hs : x.sign = s) :
    Calls Tryz.prog 64 #[.agg #[.bool b1, v]] w fun e w' => e = .returned (.int .i64 s) ∧ Ext w w' := by
  obtain ⟨A, a1, rfl, a3⟩ := hx
  subst hs
  exact sign_calls a1 (by omega) b1
theorem cmp_is {w : World} {b1 b2 : Bool} {v u : Value} {k l : Nat} {x y : Int} (hx : InI w b1 v k x) (hy : InI w b2 u l y) (hk : k ≤ 65535) (hl : l ≤ 65535) (s : Int) (hs : cmpI x y = s) :
    Calls Tryz.prog 110 #[.agg #[.bool b1, v], .agg #[.bool b2, u]] w fun e w' => e = .returned (.int .i64 s) ∧ Ext w w' := by
  obtain ⟨A, a1, rfl, a3⟩ := hx
  obtain ⟨B, c1, rfl, c3⟩ := hy
  subst hs
  exact icmp_calls a1 c1 (by omega) (by omega) b1 b2
theorem small_is {w : World} {b1 : Bool} {v : Value} {k : Nat} {x : Int} (hx : InI w b1 v k x) (hk : k ≤ 65535) (s : Int) (hs : smallI x = s) (f : Bool) (hf : fitsI x = f) :
    Calls Tryz.prog 60 #[.agg #[.bool b1, v]] w fun e w' => e = .returned (.tuple #[.int .i64 s, .bool f]) ∧ Ext w w' := by
  obtain ⟨A, a1, rfl, a3⟩ := hx
  subst hs hf
  exact ismall_calls a1 (by omega) b1
theorem divy_is {w : World} {b1 b2 : Bool} {v u : Value} {k l : Nat} {x y : Int} (hx : InI w b1 v k x) (hy : InI w b2 u l y) (hk : k ≤ 65535) (hl : l ≤ 65535) (h0 : y ≠ 0) :
    Calls Tryz.prog 16 #[.agg #[.bool b1, v], .agg #[.bool b2, u]] w fun e w' => ∃ c1 u1 m1 u2 m2, e = .returned (.tuple #[.agg #[.bool c1, u1], .agg #[.bool false, u2], .int .i64 0]) ∧ IsI w' c1 u1 m1 (x / y) ∧ IsI w' false u2 m2 (x % y) ∧ Ext w w' := by
  obtain ⟨A, a1, rfl, a3⟩ := hx
  obtain ⟨B, c1, rfl, c3⟩ := hy
  refine (idiv_calls a1 c1 (by omega) (by omega) b1 b2).mono ?_
  rintro e w' ⟨v1, v2, rfl, g1, g2, x1⟩
  simp only [if_neg h0] at *
  exact ⟨_, v1, _, v2, _, rfl, ⟨rfl, rfl, g1.limbs⟩, ⟨by simpa using Int.emod_nonneg _ h0, rfl, g2.limbs⟩, x1⟩
theorem divz_is {w : World} {b1 b2 : Bool} {v u : Value} {k l : Nat} {x y : Int} (hx : InI w b1 v k x) (hy : InI w b2 u l y) (hk : k ≤ 65535) (hl : l ≤ 65535) (h0 : y = 0) :
    Calls Tryz.prog 16 #[.agg #[.bool b1, v], .agg #[.bool b2, u]] w fun e w' => ∃ u1 m1 u2 m2, e = .returned (.tuple #[.agg #[.bool false, u1], .agg #[.bool false, u2], .int .i64 7]) ∧ IsI w' false u1 m1 0 ∧ IsI w' false u2 m2 0 ∧ Ext w w' := by
  obtain ⟨A, a1, rfl, a3⟩ := hx
  obtain ⟨B, c1, rfl, c3⟩ := hy
  refine (idiv_calls a1 c1 (by omega) (by omega) b1 b2).mono ?_
  rintro e w' ⟨v1, v2, rfl, g1, g2, x1⟩
  simp only [if_pos h0] at *
  exact ⟨v1, _, v2, _, rfl, ⟨rfl, rfl, g1.limbs⟩, ⟨rfl, rfl, g2.limbs⟩, x1⟩

theorem dig_top {m : Nat} (h : (dig m).length ≠ 0) : el (dig m) ((dig m).length - 1) ≠ 0 := by
  intro h0
  obtain ⟨k, hk⟩ : ∃ k, (dig m).length = k + 1 := ⟨(dig m).length - 1, by omega⟩
  rw [hk, Nat.add_sub_cancel] at h0
  have h1 : valTo (dig m) (k + 1) = m := by rw [valTo_all (by omega), val_dig]
  rw [valTo, h0, Nat.mul_zero, Nat.add_zero] at h1
  have h2 := valTo_lt (dig_lt m) k
  rw [h1] at h2
  have := dig_len_le h2
  omega

theorem may_is {w : World} {b : Bool} {v : Value} {m : Nat} {z : Int} (h : IsI w b v m z) :
    Calls Tryz.prog 63 #[.agg #[.bool b, v]] w fun e w' => e = .returned (.bool true) ∧ Ext w w' := by
  have hc := may_int h.2.2 b
  have ht : (if (dig m).length = 0 then !b else decide (el (dig m) ((dig m).length - 1) ≠ 0)) = true := by
    split
    · rename_i h0
      have hm : m = 0 := by rw [← val_dig m, List.length_eq_zero_iff.1 h0]; rfl
      rw [← h.1]
      have := h.2.1
      simp; omega
    · rename_i h0
      exact decide_eq_true (dig_top h0)
  rw [ht] at hc
  exact hc
end Go.Proofs.YtefeglkbikcjeaaGreatDoor

/- The law's awake. -/
namespace Go.Proofs.YtefeglkbikcjeaaGreatDoor
open Go Go.RowKit

theorem read_is (s : ByteArray) (w : World) (hs : s.size ≤ 500) (k : Int) (z : Int) (hk : ((errI s.data.toList : Nat) : Int) = k) (hz : readI s.data.toList = z) :
    Calls Tryz.prog 59 #[.string s] w fun e w' => ∃ b v m, e = .returned (.tuple #[.agg #[.bool b, v], .int .i64 k]) ∧ IsI w' b v m z ∧ Ext w w' := by
  subst hk hz
  exact (iread_calls s w hs).mono fun _ _ ⟨v, h1, h2, h3⟩ => ⟨_, v, _, h1, ⟨rfl, rfl, h2.limbs⟩, h3⟩
/-- a whole number's text -/
noncomputable def showI (z : Int) : List UInt8 := if z < 0 then 45 :: showL z.natAbs else showL z.natAbs
theorem show_is {w : World} {b : Bool} {v : Value} {k : Nat} {z : Int} (h : InI w b v k z) (hk : k ≤ 65535) (t : ByteArray) (ht : t.data.toList = showI z) (hz : (showL z.natAbs).length ≤ 4294967296) :
    Calls Tryz.prog 62 #[.agg #[.bool b, v]] w fun e w' => e = .returned (.string t) ∧ Ext w w' := by
  obtain ⟨A, a1, rfl, a3⟩ := h
  obtain ⟨s, hs⟩ := str_of (showL (iv b A).natAbs)
  exact ishow_calls a1 (by omega) b s t hs (by rw [ht, showI, hs]) (by rw [Lib.size_eq s, hs]; exact hz)

theorem errI_neg (t : List UInt8) : errI (45 :: t) = if errR t ≠ 0 then errR t else if readN t = 0 then 3 else 0 := by unfold errI; rw [if_pos (List.head?_cons ..), List.tail_cons]
theorem readI_neg (t : List UInt8) (h : errI (45 :: t) = 0) : readI (45 :: t) = -(readN t : Int) := by unfold readI; rw [if_neg (by rw [h]; simp), if_pos (List.head?_cons ..), List.tail_cons]
theorem err_big : errI [45, 49, 56, 52, 52, 54, 55, 52, 52, 48, 55, 51, 55, 48, 57, 53, 53, 49, 54, 49, 54] = 0 ∧ readI [45, 49, 56, 52, 52, 54, 55, 52, 52, 48, 55, 51, 55, 48, 57, 53, 53, 49, 54, 49, 54] = -18446744073709551616 := by
  have e1 : errR [49, 56, 52, 52, 54, 55, 52, 52, 48, 55, 51, 55, 48, 57, 53, 53, 49, 54, 49, 54] = 0 := by decide +kernel
  have e2 : readN [49, 56, 52, 52, 54, 55, 52, 52, 48, 55, 51, 55, 48, 57, 53, 53, 49, 54, 49, 54] = 18446744073709551616 := by decide +kernel
  have e3 : errI (45 :: [49, 56, 52, 52, 54, 55, 52, 52, 48, 55, 51, 55, 48, 57, 53, 53, 49, 54, 49, 54]) = 0 := by
    rw [errI_neg, e1, e2]; rfl
  exact ⟨e3, by rw [readI_neg _ e3, e2]; rfl⟩
theorem err_no : errI [45, 48] = 3 ∧ readI [45, 48] = 0 := by
  have e1 : errR [48] = 0 := by decide +kernel
  have e2 : readN [48] = 0 := by decide +kernel
  have e3 : errI (45 :: [48]) = 3 := by rw [errI_neg, e1, e2]; rfl
  exact ⟨e3, by unfold readI; rw [e3]; rfl⟩

/-- the boxes of awake -/
def AwkAt (s t : Nat) (n1 n2 n3 : Bool) (v1 v2 v3 : Value) (W : World) : Prop :=
  (W.cell? ⟨s, 0, none⟩ = some (.bool n1) ∧ W.cell? ⟨s, 1, none⟩ = some v1) ∧ (W.cell? ⟨s + 1, 0, none⟩ = some (.bool n2) ∧ W.cell? ⟨s + 1, 1, none⟩ = some v2) ∧ (W.cell? ⟨t, 0, none⟩ = some (.bool n3) ∧ W.cell? ⟨t, 1, none⟩ = some v3) ∧ s + 1 < W.heap.size ∧ t < W.heap.size
theorem AwkAt.ext {s t : Nat} {n1 n2 n3 : Bool} {v1 v2 v3 : Value} {a b : World} (h : AwkAt s t n1 n2 n3 v1 v2 v3 a) (x : Ext a b) : AwkAt s t n1 n2 n3 v1 v2 v3 b := by
  obtain ⟨⟨a1, a2⟩, ⟨b1, b2⟩, ⟨c1, c2⟩, hs, ht⟩ := h
  have := x.size
  refine ⟨⟨cell_ext x a1 ?_, cell_ext x a2 ?_⟩, ⟨cell_ext x b1 ?_, cell_ext x b2 ?_⟩, ⟨cell_ext x c1 ?_, cell_ext x c2 ?_⟩, ?_, ?_⟩ <;> (try simp only []) <;> omega
theorem big_is {w : World} : IsI (w.alloc (.cells #[.int .u64 0, .int .u64 1] 61)) true (.slice (some ⟨w.heap.size, 0, none⟩) 2 2) 18446744073709551616 (-18446744073709551616) := by
  refine ⟨by decide, by decide, ?_⟩
  have h : dig 18446744073709551616 = [0, 1] := by
    rw [← show val [0, 1] = 18446744073709551616 by simp [val, Bs_def]]
    exact dig_val (by rw [Bs_def]; simp) (.inr (by simp))
  rw [h]
  exact limbs_lit w [0, 1] (by rw [Bs_def]; simp) _ rfl 2 rfl (by rw [Lmax_def]; simp)
theorem big_len : LenI 2 (-18446744073709551616) := by unfold LenI; rw [show (2 : Nat) = 1 + 1 from rfl, Nat.pow_succ, Nat.pow_one, Bs_def]; decide
theorem show_m2 : (ByteArray.mk #[45, 50]).data.toList = showI (-2) := by
  unfold showI
  rw [if_pos (by decide), show showL ((-2 : Int)).natAbs = [50] from showL_of (by decide +kernel) (by decide +kernel)]

set_option maxHeartbeats 4000000 in
set_option maxRecDepth 100000 in
theorem lawake_calls (w : World) : Calls Tryz.prog 9 #[] w fun e w' => e = .returned (.bool true) ∧ Ext w w' := by
  have y0 := Ext.refl w
  go_enter Tryz.func9, Tryz.ntmps9
  go_wp2_with fail
  refine (of_is _ (-17) (by decide) (by decide)).mono ?_
  rintro e w1 ⟨b1, v1, m1, rfl, i1, x1⟩
  go_wp2_with fail
  refine (of_is _ (-5) (by decide) (by decide)).mono ?_
  rintro e w2 ⟨b2, v2, m2, rfl, i2, x2⟩
  go_wp2_with fail
  refine (divy_is ((i1.ext x2).inI (LenI.small (by decide))) (i2.inI (LenI.small (by decide))) (by decide) (by decide) (by decide)).mono ?_
  rintro e w3 ⟨b3, v3, m3, v4, m4, rfl, i3, i4, x3⟩
  obtain ⟨qa, qn, qc, rfl⟩ := i3.slice
  obtain ⟨ra, rn, rc, rfl⟩ := i4.slice
  rw [show (-17 : Int) / -5 = 4 by decide] at i3
  rw [show (-17 : Int) % -5 = 3 by decide] at i4
  go_wp2_with fail
  have y3 := (x1.trans (x2.trans x3))
  refine (of_is _ 1 (by decide) (by decide)).mono ?_
  rintro e w5 ⟨b5, v5, m5, rfl, i5, x5⟩
  obtain ⟨⟨p1, p2⟩, ⟨p3, p4⟩, -⟩ := box22 x5
  have hs5 : w3.heap.size + 1 < w5.heap.size := by have := x5.size; simp at this; omega
  have y5 : Ext w3 w5 := (((Ext.refl w3).alloc _).alloc _).trans x5
  go_wp2_with fail
  refine (of_is _ 0 (by decide) (by decide)).mono ?_
  rintro e w6 ⟨b6, v6, m6, rfl, i6, x6⟩
  go_wp2_with fail
  refine (divz_is ((i5.ext x6).inI (LenI.small (by decide))) (i6.inI (LenI.small (by decide))) (by decide) (by decide) rfl).mono ?_
  rintro e w7 ⟨v7, m7, v8, m8, rfl, i7, i8, x7⟩
  obtain ⟨sa, sn, sc, rfl⟩ := i7.slice
  obtain ⟨ta, tn, tc, rfl⟩ := i8.slice
  go_wp2_with fail
  refine (read_is _ _ (by decide) 0 (-18446744073709551616) (by rw [show _ = _ from err_big.1]; rfl) err_big.2).mono ?_
  rintro e w8 ⟨b8, v8, m9, rfl, i9, x8⟩
  obtain ⟨ua, un, uc, rfl⟩ := i9.slice
  go_wp2_with fail
  refine (read_is _ _ (by decide) 3 0 (by rw [show _ = _ from err_no.1]; rfl) err_no.2).mono ?_
  rintro e w9 ⟨b9, v9, m10, rfl, i10, x9⟩
  obtain ⟨za, zn, zc, rfl⟩ := i10.slice
  obtain ⟨t1, t2, -⟩ := box2 x9
  go_wp2_with fail
  refine (of_is _ (-9223372036854775808) (by decide) (by decide)).mono ?_
  rintro e w10 ⟨b10, v10, m10', rfl, i10', x10⟩
  go_wp2_with fail
  refine (small_is (i10'.inI (LenI.small (by decide))) (by decide) (-9223372036854775808) (by decide) true (by decide)).mono ?_
  rintro e w11 ⟨rfl, x11⟩
  go_wp2_with fail
  have Y9 : Ext w9 w11 := ((Ext.refl w9).alloc _).trans (x10.trans x11)
  have Y8 : Ext w8 w11 := ((((Ext.refl w8).alloc _).trans x9)).trans Y9
  have Y7 : Ext w7 w11 := ((((Ext.refl w7).alloc _).alloc _).trans x8).trans Y8
  have Y5 : Ext w5 w11 := x6.trans (x7.trans Y7)
  have Y3 : Ext w3 w11 := y5.trans Y5
  have Y0 : Ext w w11 := y3.trans Y3
  have B0 : AwkAt w3.heap.size w8.heap.size b3 false b8 (.slice qa qn qc) (.slice ra rn rc) (.slice ua un uc) w11 := ⟨⟨cell_ext Y5 p1 (by show w3.heap.size < _; omega), cell_ext Y5 p2 (by show w3.heap.size < _; omega)⟩, ⟨cell_ext Y5 p3 hs5, cell_ext Y5 p4 hs5⟩, ⟨cell_ext Y9 t1 (by have := x9.size; simp at this; show w8.heap.size < _; omega), cell_ext Y9 t2 (by have := x9.size; simp at this; show w8.heap.size < _; omega)⟩, by have := Y5.size; omega, by have := Y9.size; have := x9.size; simp at this; omega⟩
  have HB := Lib.hid B0
  obtain ⟨⟨g1, g2⟩, ⟨g3, g4⟩, ⟨g5, g6⟩, -⟩ := B0
  have X0 : Ext w11 w11.drew := (Ext.refl w11).drew
  have z0 := X0
  simp only [List.append_eq, List.cons_append, List.nil_append]
  go_region_held3 (fun W => W.cell? ⟨w3.heap.size, 0, none⟩ = some (.bool b3) ∧ W.cell? ⟨w3.heap.size, 1, none⟩ = some (.slice qa qn qc) ∧ W.cell? ⟨w3.heap.size + 1, 0, none⟩ = some (.bool false) ∧ W.cell? ⟨w3.heap.size + 1, 1, none⟩ = some (.slice ra rn rc) ∧ W.cell? ⟨w8.heap.size, 0, none⟩ = some (.bool b8) ∧ W.cell? ⟨w8.heap.size, 1, none⟩ = some (.slice ua un uc)) (go_keep)
    (first
      | (have pre := z18; go_at_call 64; refine (sign_is ((i9.ext (Y8.trans X18)).inI (k := 2) big_len) (by decide) (-1) (by decide)).mono ?_; rintro e a19 ⟨rfl, z19⟩; have X19 := X18.trans z19; obtain ⟨⟨g1, g2⟩, ⟨g3, g4⟩, ⟨g5, g6⟩, -⟩ := HB.out.ext X19)
      | (have pre := z17; go_at_call 63; refine (may_is (i9.ext (Y8.trans X17))).mono ?_; rintro e a18 ⟨rfl, z18⟩; have X18 := X17.trans z18; obtain ⟨⟨g1, g2⟩, ⟨g3, g4⟩, ⟨g5, g6⟩, -⟩ := HB.out.ext X18)
      | (have pre := z16; go_at_call 62; refine (show_is (e16.inI (LenI.small (by decide))) (by decide) ⟨#[45, 50]⟩ show_m2 (by decide +kernel)).mono ?_; rintro e a17 ⟨rfl, z17⟩; have X17 := X16.trans z17; obtain ⟨⟨g1, g2⟩, ⟨g3, g4⟩, ⟨g5, g6⟩, -⟩ := HB.out.ext X17)
      | (have pre := z15; go_at_call 58; refine (of_is _ (-2) (by decide) (by decide)).mono ?_; rintro e a16 ⟨sb16, sv16, sm16, rfl, e16, z16⟩; have X16 := X15.trans z16; obtain ⟨⟨g1, g2⟩, ⟨g3, g4⟩, ⟨g5, g6⟩, -⟩ := HB.out.ext X16)
      | (have pre := z14; go_at_call 61; refine (same_is (i9.ext (Y8.trans (X14.alloc _))) big_is true (by decide)).mono ?_; rintro e a15 ⟨rfl, z15⟩; have X15 := (X14.alloc _).trans z15; obtain ⟨⟨g1, g2⟩, ⟨g3, g4⟩, ⟨g5, g6⟩, -⟩ := HB.out.ext X15)
      | (have pre := z13; go_at_call 61; refine (same_is (i4.ext (Y3.trans X13)) e13 true (by decide)).mono ?_; rintro e a14 ⟨rfl, z14⟩; have X14 := X13.trans z14; obtain ⟨⟨g1, g2⟩, ⟨g3, g4⟩, ⟨g5, g6⟩, -⟩ := HB.out.ext X14; have ne1 := World.new_ne a14 _ g1; have ne2 := World.new_ne a14 _ g2; have ne3 := World.new_ne a14 _ g3; have ne4 := World.new_ne a14 _ g4; have ne5 := World.new_ne a14 _ g5; have ne6 := World.new_ne a14 _ g6)
      | (have pre := z12; go_at_call 58; refine (of_is _ (3) (by decide) (by decide)).mono ?_; rintro e a13 ⟨sb13, sv13, sm13, rfl, e13, z13⟩; have X13 := X12.trans z13; obtain ⟨⟨g1, g2⟩, ⟨g3, g4⟩, ⟨g5, g6⟩, -⟩ := HB.out.ext X13)
      | (have pre := z11; go_at_call 61; refine (same_is (i3.ext (Y3.trans X11)) e11 true (by decide)).mono ?_; rintro e a12 ⟨rfl, z12⟩; have X12 := X11.trans z12; obtain ⟨⟨g1, g2⟩, ⟨g3, g4⟩, ⟨g5, g6⟩, -⟩ := HB.out.ext X12)
      | (have pre := z10; go_at_call 58; refine (of_is _ (4) (by decide) (by decide)).mono ?_; rintro e a11 ⟨sb11, sv11, sm11, rfl, e11, z11⟩; have X11 := X10.trans z11; obtain ⟨⟨g1, g2⟩, ⟨g3, g4⟩, ⟨g5, g6⟩, -⟩ := HB.out.ext X11)
      | (have pre := z9; go_at_call 61; refine (same_is (e8.ext z9) e9 true (by decide)).mono ?_; rintro e a10 ⟨rfl, z10⟩; have X10 := X9.trans z10; obtain ⟨⟨g1, g2⟩, ⟨g3, g4⟩, ⟨g5, g6⟩, -⟩ := HB.out.ext X10)
      | (have pre := z8; go_at_call 58; refine (of_is _ (15) (by decide) (by decide)).mono ?_; rintro e a9 ⟨sb9, sv9, sm9, rfl, e9, z9⟩; have X9 := X8.trans z9; obtain ⟨⟨g1, g2⟩, ⟨g3, g4⟩, ⟨g5, g6⟩, -⟩ := HB.out.ext X9)
      | (have pre := z7; go_at_call 15; refine (mul_is ((e6.ext z7).inI (LenI.small (by decide))) (e7.inI (LenI.small (by decide))) (by decide)).mono ?_; rintro e a8 ⟨sb8, sv8, sm8, rfl, e8, z8⟩; have X8 := X7.trans z8; obtain ⟨⟨g1, g2⟩, ⟨g3, g4⟩, ⟨g5, g6⟩, -⟩ := HB.out.ext X8)
      | (have pre := z6; go_at_call 58; refine (of_is _ (-5) (by decide) (by decide)).mono ?_; rintro e a7 ⟨sb7, sv7, sm7, rfl, e7, z7⟩; have X7 := X6.trans z7; obtain ⟨⟨g1, g2⟩, ⟨g3, g4⟩, ⟨g5, g6⟩, -⟩ := HB.out.ext X7)
      | (have pre := z5; go_at_call 58; refine (of_is _ (-3) (by decide) (by decide)).mono ?_; rintro e a6 ⟨sb6, sv6, sm6, rfl, e6, z6⟩; have X6 := X5.trans z6; obtain ⟨⟨g1, g2⟩, ⟨g3, g4⟩, ⟨g5, g6⟩, -⟩ := HB.out.ext X6)
      | (have pre := z4; go_at_call 61; refine (same_is (e3.ext z4) e4 true (by decide)).mono ?_; rintro e a5 ⟨rfl, z5⟩; have X5 := X4.trans z5; obtain ⟨⟨g1, g2⟩, ⟨g3, g4⟩, ⟨g5, g6⟩, -⟩ := HB.out.ext X5)
      | (have pre := z3; go_at_call 58; refine (of_is _ (-2) (by decide) (by decide)).mono ?_; rintro e a4 ⟨sb4, sv4, sm4, rfl, e4, z4⟩; have X4 := X3.trans z4; obtain ⟨⟨g1, g2⟩, ⟨g3, g4⟩, ⟨g5, g6⟩, -⟩ := HB.out.ext X4)
      | (have pre := z2; go_at_call 13; refine (add_is ((e1.ext z2).inI (LenI.small (by decide))) (e2.inI (LenI.small (by decide))) (by decide) (by decide)).mono ?_; rintro e a3 ⟨sb3, sv3, sm3, rfl, e3, z3⟩; have X3 := X2.trans z3; obtain ⟨⟨g1, g2⟩, ⟨g3, g4⟩, ⟨g5, g6⟩, -⟩ := HB.out.ext X3)
      | (have pre := z1; go_at_call 58; refine (of_is _ (-5) (by decide) (by decide)).mono ?_; rintro e a2 ⟨sb2, sv2, sm2, rfl, e2, z2⟩; have X2 := X1.trans z2; obtain ⟨⟨g1, g2⟩, ⟨g3, g4⟩, ⟨g5, g6⟩, -⟩ := HB.out.ext X2)
      | (have pre := z0; go_at_call 58; refine (of_is _ (3) (by decide) (by decide)).mono ?_; rintro e a1 ⟨sb1, sv1, sm1, rfl, e1, z1⟩; have X1 := X0.trans z1; obtain ⟨⟨g1, g2⟩, ⟨g3, g4⟩, ⟨g5, g6⟩, -⟩ := HB.out.ext X1))
  go_wp2_with fail
  go_ret
  exact ⟨rfl, Y0.trans X19⟩
end Go.Proofs.YtefeglkbikcjeaaGreatDoor

/- Contracts of tombolaref05: Make, Sign, Show, Read; the law's long. -/
namespace Go.Proofs.YtefeglkbikcjeaaGreatDoor
open Go Go.RowKit

def longI (Ls : List (List Nat)) : Bool := Ls.any fun A => decide (10 < A.length)

set_option maxHeartbeats 1000000 in
set_option maxRecDepth 1000000 in
theorem ilong_calls {w : World} {v : Value} {xs : List Value} {n : Nat} {Ls : List (List Nat)} (hv : Sl 2 w v n xs) (hn : Ls.length = n) (hx : ∀ i, i < n → ∃ A u, Ls[i]? = some A ∧ Limbs w u A ∧ xs[i * 2 + 1]? = some u) :
    Calls Tryz.prog 8 #[v] w fun e w' => e = .returned (.bool (longI Ls)) ∧ w = w' := by
  obtain ⟨h1, a, cap, rfl, h3, h4, h5, h6⟩ := hv
  unfold maxLen at h4
  have H5 := Lib.hid h5
  have H6 := Lib.hid h6
  have HX := Lib.hid hx
  have HLN := Lib.hid hn
  have HXL := Lib.hid h1
  clear h5 h6 hx hn h1
  go_enter Tryz.func8, Tryz.ntmps8
  go_wp2_with fail
  go_loop [2, 3] (fun _ v3 => ∃ i : Nat, v3 = .int .i64 (i : Int) ∧ i ≤ n ∧ longI (Ls.take i) = false) (fun _ v3 => n - (intOf v3).toNat)
  case atStart => exact ⟨0, rfl, Nat.zero_le _, rfl⟩
  case round =>
    obtain ⟨i, rfl, hi, hl⟩ := hrel
    have HL := Lib.hid hl
    clear hl
    by_cases hin : i < n
    · cases a with
      | none => have := H5.out rfl; omega
      | some p =>
        obtain ⟨q1, q2, q3⟩ := H6.out p rfl (by omega)
        obtain ⟨b, o, sp⟩ := p
        subst q1
        obtain ⟨A, u, hA, hL, hu⟩ := HX.out i hin
        obtain ⟨hil, hiu⟩ := List.getElem?_eq_some_iff.1 hu
        have hc := q3 _ hil
        obtain ⟨pa, pc, hs, -, -, -⟩ := hL.open
        rw [hiu, hs] at hc
        have hcell : w.cell? ⟨b, o + i * 2 + 1, none⟩ = some (.slice pa A.length pc) := by rw [Nat.add_assoc]; exact hc
        clear hc hiu
        have HA := Lib.hid hA
        clear hs hA q3 hL hu hil
        by_cases h24 : 10 < A.length
        · have HD : Hid (longI Ls = true) := by
            show _ = _
            rw [longI, List.any_eq_true]
            exact ⟨A, List.mem_of_getElem? HA.out, by simpa using h24⟩
          have h25 : (11 : Int) ≤ (A.length : Int) := by omega
          clear h24
          go_wp2_with fail
          go_ret
          exact ⟨ret_eq (by rw [HD.out]; rfl), rfl⟩
        · have h25 : (A.length : Int) ≤ 10 := by omega
          have HF : Hid (longI (Ls.take (i + 1)) = false) := by
            show _ = _
            have h := HL.out
            obtain ⟨hil, hiA⟩ := List.getElem?_eq_some_iff.1 HA.out
            rw [List.take_succ_eq_append_getElem hil, longI, List.any_append, hiA]
            rw [longI] at h
            rw [h]
            simp; omega
          clear h24
          go_wp2_with fail
          exact ⟨⟨i + 1, rfl, by omega, HF.out⟩, by simp [intOf]; omega⟩
    · obtain rfl : i = n := by omega
      have HD : Hid (longI Ls = false) := by
        show _ = _
        have h := HL.out
        rwa [← HLN.out, List.take_length] at h
      go_wp2_with fail
      go_ret
      exact ⟨ret_eq (by rw [HD.out]; rfl), rfl⟩

theorem sl2_lit (w : World) (t : TypeId) (C : Array Value) (n : Nat) (hn : C.size = n * 2) (h63 : n ≤ maxLen) :
    Sl 2 (w.alloc (.cells C t)) (.slice (some ⟨w.heap.size, 0, none⟩) n n) n C.toList := by
  refine ⟨by simpa using hn, _, n, rfl, Nat.le_refl _, h63, (fun e => by cases e), fun p hp _ => ?_⟩
  obtain rfl := Option.some.inj hp
  refine ⟨rfl, by simp, fun j hj => ?_⟩
  have hj' : j < C.size := by simpa using hj
  rw [cell_of_row _ w.heap.size _ C t (0, 0) (heap_alloc_new w _), Nat.zero_add, Array.getElem?_eq_getElem hj']
  simp

theorem ilong1_calls {w : World} {v : Value} {A : List Nat} (hA : Limbs w v A) (c : Bool) (b : Bool) (hb : decide (10 < A.length) = b) {s : Nat} (hs : w.heap.size = s) :
    Calls Tryz.prog 8 #[.slice (some ⟨s, 0, none⟩) 1 1] (w.alloc (.cells #[.bool c, v] 25)) fun e w' => e = .returned (.bool b) ∧ w.alloc (.cells #[.bool c, v] 25) = w' := by
  subst hs
  have h := ilong_calls (Ls := [A]) (sl2_lit w 25 #[.bool c, v] 1 rfl (by unfold maxLen; omega)) rfl (fun i hi => by
    obtain rfl : i = 0 := by omega
    exact ⟨A, v, rfl, hA.ext ((Ext.refl w).alloc _), rfl⟩)
  refine h.mono fun e w' ⟨h1, h2⟩ => ⟨by rw [h1, ← hb]; simp [longI], h2⟩
theorem ilong2_calls {w : World} {v u : Value} {A B : List Nat} (hA : Limbs w v A) (hB : Limbs w u B) (c d : Bool) (b : Bool) (hb : (decide (10 < A.length) || decide (10 < B.length)) = b) {s : Nat} (hs : w.heap.size = s) :
    Calls Tryz.prog 8 #[.slice (some ⟨s, 0, none⟩) 2 2] (w.alloc (.cells #[.bool c, v, .bool d, u] 25)) fun e w' => e = .returned (.bool b) ∧ w.alloc (.cells #[.bool c, v, .bool d, u] 25) = w' := by
  subst hs
  have h := ilong_calls (Ls := [A, B]) (sl2_lit w 25 #[.bool c, v, .bool d, u] 2 rfl (by unfold maxLen; omega)) rfl (fun i hi => by
    have y := (Ext.refl w).alloc (.cells #[.bool c, v, .bool d, u] 25)
    by_cases h0 : i = 0
    · subst h0; exact ⟨A, v, rfl, hA.ext y, rfl⟩
    · obtain rfl : i = 1 := by omega
      exact ⟨B, u, rfl, hB.ext y, rfl⟩)
  refine h.mono fun e w' ⟨h1, h2⟩ => ⟨by rw [h1, ← hb]; simp [longI], h2⟩
theorem ilong3_calls {w : World} {v u z : Value} {A B C : List Nat} (hA : Limbs w v A) (hB : Limbs w u B) (hC : Limbs w z C) (c d f : Bool) (b : Bool) (hb : (decide (10 < A.length) || (decide (10 < B.length) || decide (10 < C.length))) = b) {s : Nat} (hs : w.heap.size = s) :
    Calls Tryz.prog 8 #[.slice (some ⟨s, 0, none⟩) 3 3] (w.alloc (.cells #[.bool c, v, .bool d, u, .bool f, z] 25)) fun e w' => e = .returned (.bool b) ∧ w.alloc (.cells #[.bool c, v, .bool d, u, .bool f, z] 25) = w' := by
  subst hs
  have h := ilong_calls (Ls := [A, B, C]) (sl2_lit w 25 #[.bool c, v, .bool d, u, .bool f, z] 3 rfl (by unfold maxLen; omega)) rfl (fun i hi => by
    have y := (Ext.refl w).alloc (.cells #[.bool c, v, .bool d, u, .bool f, z] 25)
    by_cases h0 : i = 0
    · subst h0; exact ⟨A, v, rfl, hA.ext y, rfl⟩
    by_cases h1 : i = 1
    · subst h1; exact ⟨B, u, rfl, hB.ext y, rfl⟩
    · obtain rfl : i = 2 := by omega
      exact ⟨C, z, rfl, hC.ext y, rfl⟩)
  refine h.mono fun e w' ⟨h1, h2⟩ => ⟨by rw [h1, ← hb]; simp [longI], h2⟩
set_option maxHeartbeats 1000000 in
set_option maxRecDepth 100000 in
theorem refmake_calls {w : World} {v : Value} {A : List Nat} (hA : Limbs w v A) (hl : A.length ≤ 65536) (neg : Bool) :
    Calls Tryz.prog 69 #[.bool neg, v] w (RetI w (iv neg A)) := by
  have HE : Hid (decide (iv neg A < 0) = (neg && !decide (val A = 0))) := iv_neg neg A
  have HB : Hid ((iv neg A).natAbs = val A) := iv_abs neg A
  have HL := Lib.hid hl
  have HLM := Lib.hid (dig_val_len hA.2)
  obtain ⟨pa, pc, rfl, -, -, -⟩ := hA.open
  have y0 := (Ext.refl w).alloc (.cells #[.bool false, .slice none 0 0] 25)
  clear hl
  cases neg with
  | false =>
    go_enter Tryz.func69, Tryz.ntmps69
    go_wp2_with fail
    refine (reftrim_calls (hA.ext y0) HL.out).mono ?_
    rintro e w1 ⟨r, rfl, hr, x1⟩
    obtain ⟨c1, c2, c3, c4⟩ := box2 x1
    obtain ⟨ra, rc, rfl, -, -, -⟩ := hr.limbs.open
    go_wp2_with fail
    refine bodyPost_ret (v := .agg #[.bool false, .slice ra (dig (val A)).length rc]) (by simp [results, Tryz.results69, go_sem, c1, c2]) rfl ⟨_, by rw [HE.out]; rfl, ?_, ?_⟩
    · rw [HB.out]; exact (hr.set2 (by simp) _ _).mono (by simp)
    · exact ext_box2 (y0.trans x1) (Nat.le_refl _) _ _
  | true =>
    obtain ⟨n, hn⟩ : ∃ n, n = val A := ⟨_, rfl⟩
    by_cases h0 : n = 0
    · have HD : Hid (dig (val A) = []) := by show _ = _; rw [← hn, h0, dig_zero]
      have HV : Hid (decide (val A = 0) = true) := by show _ = _; rw [← hn]; simpa using h0
      clear hn h0
      go_enter Tryz.func69, Tryz.ntmps69
      go_wp2_with fail
      refine (reftrim_calls (hA.ext y0) HL.out).mono ?_
      rintro e w1 ⟨r, rfl, hr, x1⟩
      obtain ⟨c1, c2, c3, c4⟩ := box2 x1
      rw [HD.out] at hr
      obtain ⟨ra, rc, rfl, -, -, -⟩ := hr.limbs.open
      go_wp2_with fail
      refine bodyPost_ret (v := .agg #[.bool false, .slice ra 0 rc]) (by simp [results, Tryz.results69, go_sem, c1, c2]) rfl ⟨_, by rw [HE.out, HV.out]; rfl, ?_, ?_⟩
      · rw [HB.out, HD.out]; exact (hr.set2 (by simp) _ _).mono (by simp)
      · exact ext_box2 (y0.trans x1) (Nat.le_refl _) _ _
    · have HV : Hid (decide (val A = 0) = false) := by show _ = _; rw [← hn]; simpa using h0
      have HD : Hid ((1 : Int) ≤ ((dig (val A)).length : Nat)) := by
        show _ ≤ _
        have : dig (val A) ≠ [] := by rw [← hn]; intro e; apply h0; rw [← val_dig n, e]; rfl
        have := List.length_pos_iff.2 this
        omega
      clear hn h0
      go_enter Tryz.func69, Tryz.ntmps69
      go_wp2_with fail
      refine (reftrim_calls (hA.ext y0) HL.out).mono ?_
      rintro e w1 ⟨r, rfl, hr, x1⟩
      obtain ⟨c1, c2, c3, c4⟩ := box2 x1
      obtain ⟨ra, rc, rfl, -, -, -⟩ := hr.limbs.open
      have h1 := HD.out
      have h2 : 0 < (dig (val A)).length := by omega
      go_wp2_with fail
      refine bodyPost_ret (v := .agg #[.bool true, .slice ra (dig (val A)).length rc]) (by simp [results, Tryz.results69, go_sem, c1, c2]) rfl ⟨_, by rw [HE.out, HV.out]; rfl, ?_, ?_⟩
      · rw [HB.out]; exact (hr.set2 (by simp) _ _).mono (by simp)
      · exact ext_box2 (y0.trans x1) (Nat.le_refl _) _ _

theorem refmake_ok {w : World} {v : Value} {A : List Nat} (hA : Limbs w v A) (hl : A.length ≤ 65536) (neg : Bool) {b : Bool} {m : Nat} (hb : decide (iv neg A < 0) = b) (hm : (iv neg A).natAbs = m) :
    Calls Tryz.prog 69 #[.bool neg, v] w fun e w' => ∃ v, e = .returned (.agg #[.bool b, v]) ∧ OwnL w.heap.size w' v (dig m) ∧ Ext w w' :=
  (refmake_calls hA hl neg).mono fun _ _ h => h.by hb hm

theorem refmaker_ok {w : World} {v : Value} {r : Nat} (hA : Limbs w v (dig r)) (hl : (dig r).length ≤ 65536) :
    Calls Tryz.prog 69 #[.bool false, v] w fun e w' => ∃ v, e = .returned (.agg #[.bool false, v]) ∧ OwnL w.heap.size w' v (dig r) ∧ Ext w w' :=
  refmake_ok hA hl false (by rw [iv_dig_false]; simp) (by rw [iv_dig_false]; omega)
theorem len_pos {n : Nat} (h : ¬ n = 0) : (1 : Int) ≤ ((dig n).length : Nat) := by
  have : dig n ≠ [] := by intro e; apply h; rw [← val_dig n, e]; rfl
  have := List.length_pos_iff.2 this
  omega
end Go.Proofs.YtefeglkbikcjeaaGreatDoor

/- Small facts for the walks that a program prints: cells of boxes, lengths of whole numbers. -/
namespace Go.Proofs.YtefeglkbikcjeaaGreatDoor
open Go Go.RowKit

/-- a cell of a box -/
def At (s o : Nat) (u : Value) (W : World) : Prop := W.cell? ⟨s, o, none⟩ = some u ∧ s < W.heap.size
theorem At.ext {s o : Nat} {u : Value} {a b : World} (h : At s o u a) (x : Ext a b) : At s o u b :=
  ⟨cell_ext x h.1 h.2, Nat.lt_of_lt_of_le h.2 x.size⟩
theorem At.n0 {w : World} {C : Array Value} {t : TypeId} {o : Nat} {u : Value} (h : C[o]? = some u) : At w.heap.size o u (w.alloc (.cells C t)) := by
  refine ⟨?_, by simp⟩
  rw [cell_of_row _ w.heap.size _ C t (0, 0) (heap_alloc_new w _)]; exact h
theorem At.n1 {w : World} {x1 : Obj} {C : Array Value} {t : TypeId} {o : Nat} {u : Value} (h : C[o]? = some u) : At (w.heap.size + 1) o u ((w.alloc x1).alloc (.cells C t)) := by
  have := At.n0 (w := w.alloc x1) (t := t) h; simpa using this
theorem At.n2 {w : World} {x1 x2 : Obj} {C : Array Value} {t : TypeId} {o : Nat} {u : Value} (h : C[o]? = some u) : At (w.heap.size + 1 + 1) o u (((w.alloc x1).alloc x2).alloc (.cells C t)) := by
  have := At.n1 (w := w.alloc x1) (x1 := x2) (t := t) h; simpa using this
theorem At.n3 {w : World} {x1 x2 x3 : Obj} {C : Array Value} {t : TypeId} {o : Nat} {u : Value} (h : C[o]? = some u) : At (w.heap.size + 1 + 1 + 1) o u ((((w.alloc x1).alloc x2).alloc x3).alloc (.cells C t)) := by
  have := At.n2 (w := w.alloc x1) (x1 := x2) (x2 := x3) (t := t) h; simpa using this
theorem At.n4 {w : World} {x1 x2 x3 x4 : Obj} {C : Array Value} {t : TypeId} {o : Nat} {u : Value} (h : C[o]? = some u) : At (w.heap.size + 1 + 1 + 1 + 1) o u (((((w.alloc x1).alloc x2).alloc x3).alloc x4).alloc (.cells C t)) := by
  have := At.n3 (w := w.alloc x1) (x1 := x2) (x2 := x3) (x3 := x4) (t := t) h; simpa using this
theorem At.n5 {w : World} {x1 x2 x3 x4 x5 : Obj} {C : Array Value} {t : TypeId} {o : Nat} {u : Value} (h : C[o]? = some u) : At (w.heap.size + 1 + 1 + 1 + 1 + 1) o u ((((((w.alloc x1).alloc x2).alloc x3).alloc x4).alloc x5).alloc (.cells C t)) := by
  have := At.n4 (w := w.alloc x1) (x1 := x2) (x2 := x3) (x3 := x4) (x4 := x5) (t := t) h; simpa using this

theorem zero_is (w : World) : IsI w false (.slice none 0 0) 0 0 := ⟨by decide, rfl, by rw [dig_zero]; exact Limbs.nil w⟩
theorem LenI.div {k : Nat} {x : Int} (y : Int) (h : LenI k x) : LenI k (x / y) := by
  unfold LenI at *
  exact Nat.lt_of_le_of_lt (Int.natAbs_ediv_le_natAbs x y) h
theorem LenI.mod {k : Nat} (x : Int) {y : Int} (hy : y ≠ 0) (h : LenI k y) : LenI k (x % y) := by
  unfold LenI at *
  have h1 := Int.emod_nonneg x hy
  have h2 := Int.emod_lt x hy
  omega
theorem LenI.zero : LenI 1 0 := LenI.small (by decide)
theorem cmpI_range (x y : Int) : -1 ≤ cmpI x y ∧ cmpI x y ≤ 1 := by unfold cmpI; split; decide; split <;> decide
theorem rem_cmp {w : World} {b : Bool} {v u : Value} {m : Nat} {z : Int} {B : List Nat} (hr : IsI w b v m z) (hB : Limbs w u B) (hl : B.length ≤ 10) (hz : z.natAbs < val B) :
    Calls Tryz.prog 124 #[v, u] w fun e w' => e = .returned (.int .i64 (-1)) ∧ Ext w w' := by
  have hm := hr.2.1
  have hv := val_lt hB.2
  have hd : (dig m).length ≤ 10 := dig_len_le (Nat.lt_of_lt_of_le (Nat.lt_trans (by omega) hv) (Nat.pow_le_pow_right Bs_pos hl))
  refine (cmp_int hr.2.2 hB (lmax_16 (by omega)) (lmax_16 (by omega)) (-1) (by rw [val_dig]; exact cmpN_lt (by omega))).mono ?_
  rintro e w' ⟨h1, rfl⟩
  exact ⟨h1, Ext.refl _⟩
theorem zero_ext {w : World} {v : Value} {A : List Nat} (hA : Limbs w v A) (hl : A.length ≤ 65536) (b : Bool) (hb : decide (val A = 0) = b) :
    Calls Tryz.prog 74 #[v] w fun e w' => e = .returned (.bool b) ∧ Ext w w' := by
  refine (zero_bool hA (lmax_16 hl) b hb).mono ?_
  rintro e w' ⟨h1, rfl⟩
  exact ⟨h1, Ext.refl _⟩
theorem sign_range (z : Int) : -1 ≤ z.sign ∧ z.sign ≤ 1 := by
  rcases Int.lt_trichotomy z 0 with h | h | h
  · rw [Int.sign_eq_neg_one_of_neg h]; decide
  · subst h; decide
  · rw [Int.sign_eq_one_of_pos h]; decide
theorem mul_range {a b : Int} (h1 : -1 ≤ a ∧ a ≤ 1) (h2 : -1 ≤ b ∧ b ≤ 1) : -1 ≤ a * b ∧ a * b ≤ 1 := by
  have : a = -1 ∨ a = 0 ∨ a = 1 := by omega
  rcases this with h | h | h <;> rw [h] <;> omega
theorem sign_sub_cmp (x y : Int) : (x - y).sign = cmpI x y := by
  unfold cmpI
  split
  · exact Int.sign_eq_neg_one_of_neg (by omega)
  · split
    · exact Int.sign_eq_one_of_pos (by omega)
    · rw [show x - y = 0 by omega]; rfl
theorem cmpI_swap (x y : Int) : cmpI y x = -cmpI x y := by unfold cmpI; split <;> split <;> (try split) <;> omega
theorem cmpI_self (x : Int) : cmpI x x = 0 := by unfold cmpI; simp
theorem cmpI_add (x y z : Int) : cmpI (x + z) (y + z) = cmpI x y := by unfold cmpI; split <;> split <;> (try split) <;> (try split) <;> omega
theorem cmpI_mul (x y z : Int) : cmpI (x * z) (y * z) = cmpI x y * z.sign := by
  rw [← sign_sub_cmp, ← sign_sub_cmp, ← Int.sub_mul, Int.sign_mul]
theorem cmpI_zero {x y : Int} : cmpI x y = 0 ↔ x = y := by unfold cmpI; constructor <;> intro h <;> (repeat' split at h) <;> (repeat' split) <;> omega
theorem cmpI_le {x y : Int} : cmpI x y ≤ 0 ↔ x ≤ y := by unfold cmpI; constructor <;> intro h <;> (repeat' split at h) <;> (repeat' split) <;> omega
end Go.Proofs.YtefeglkbikcjeaaGreatDoor

/- Texts of whole numbers: what is read back is what was shown; the reference's contracts by the numbers. -/
namespace Go.Proofs.YtefeglkbikcjeaaGreatDoor
open Go Go.RowKit

theorem rsame_is {w : World} {b1 b2 : Bool} {v u : Value} {m1 m2 : Nat} {x y : Int} (hx : IsI w b1 v m1 x) (hy : IsI w b2 u m2 y) (c : Bool) (hc : decide (x = y) = c) :
    Calls Tryz.prog 17 #[.agg #[.bool b1, v], .agg #[.bool b2, u]] w fun e w' => e = .returned (.bool c) ∧ Ext w w' := by
  have h := isame_calls hx.2.2 hy.2.2 b1 b2
  rw [← hx.1, ← hy.1, ← hx.2.1, ← hy.2.1, same_int, hc] at h
  rw [← hx.1, ← hy.1]
  exact h

theorem LenI.show {k : Nat} {z : Int} (h : LenI k z) (hk : 1 ≤ k) : (showL z.natAbs).length ≤ 20 * k := by
  refine (showL_len (by omega)).2 (Nat.lt_of_lt_of_le h ?_)
  rw [show (10 : Nat) ^ (20 * k) = (10 ^ 20) ^ k by rw [← Nat.pow_mul]]
  exact Nat.pow_le_pow_left (by rw [Bs_def]; decide +kernel) k
theorem showI_len {k : Nat} {z : Int} (h : LenI k z) (hk : 1 ≤ k) : (showI z).length ≤ 20 * k + 1 := by
  have := h.show hk
  unfold showI
  split
  · rw [List.length_cons]; omega
  · omega
theorem showL_head45 (n : Nat) : (showL n).head? ≠ some 45 := by
  intro h
  cases e : showL n with
  | nil => exact showL_ne n e
  | cons a l =>
    rw [e] at h
    have ha := showL_all n
    rw [e, List.all_cons, Bool.and_eq_true] at ha
    simp at h
    rw [h] at ha
    exact absurd ha.1 (by decide)
theorem show_back {k : Nat} {z : Int} (h : LenI k z) (hk : 1 ≤ k) (hk2 : k ≤ 900) : errI (showI z) = 0 ∧ readI (showI z) = z := by
  have hl := h.show hk
  obtain ⟨r1, r2⟩ := read_show (n := z.natAbs) (by omega)
  unfold showI
  by_cases hz : z < 0
  · rw [if_pos hz]
    have e : errI (45 :: showL z.natAbs) = 0 := by rw [errI_neg, r1, r2, if_neg (by simp), if_neg (by omega)]
    exact ⟨e, by rw [readI_neg _ e, r2]; omega⟩
  · rw [if_neg hz]
    have e : errI (showL z.natAbs) = 0 := by unfold errI; rw [if_neg (showL_head45 _), r1]
    exact ⟨e, by unfold readI; rw [if_neg (by rw [e]; simp), if_neg (showL_head45 _), r2]; omega⟩
theorem back_show {l : List UInt8} (h : errI l = 0) : showI (readI l) = l := by
  by_cases h45 : l.head? = some 45
  · obtain ⟨t, rfl⟩ : ∃ t, l = 45 :: t := by
      cases l with
      | nil => simp at h45
      | cons a t => simp at h45; exact ⟨t, by rw [h45]⟩
    rw [readI_neg _ h]
    rw [errI_neg] at h
    have h1 : errR t = 0 := by
      rcases Nat.eq_zero_or_pos (errR t) with e | e
      · exact e
      · rw [if_pos (by omega)] at h; omega
    have h2 : readN t ≠ 0 := by
      intro e
      rw [if_neg (by omega), if_pos e] at h; omega
    unfold showI
    rw [if_pos (by omega), show (-(readN t : Int)).natAbs = readN t by omega, show_read h1]
  · have h1 : errR l = 0 := by unfold errI at h; rw [if_neg h45] at h; exact h
    have h2 : readI l = (readN l : Int) := by unfold readI; rw [if_neg (by rw [h]; simp), if_neg h45]
    rw [h2]
    unfold showI
    rw [if_neg (by omega), show ((readN l : Nat) : Int).natAbs = readN l by omega, show_read h1]
theorem readN_lt {r : List UInt8} {n : Nat} (hr : r.length ≤ n) (_hn : 1 ≤ n) : readN r < Bs ^ n := by
  unfold readN
  split
  · rename_i he
    have h1 := dval_lt (l := r.map dv) (by
      intro d hd
      obtain ⟨b, hb, rfl⟩ := List.mem_map.1 hd
      have := List.all_eq_true.1 (errR_parts he).2.1 b hb
      exact dv_lt this)
    rw [List.length_map] at h1
    exact Nat.lt_of_lt_of_le h1 (Nat.le_trans (Nat.pow_le_pow_right (by decide) hr) (ten_bs n))
  · exact Nat.pow_pos Bs_pos
theorem readI_lt {l : List UInt8} {n : Nat} (h : l.length ≤ n) (_hn : 1 ≤ n) : LenI n (readI l) := by
  have key : ∀ r : List UInt8, r.length ≤ n → readN r < Bs ^ n := by
    intro r hr
    unfold readN
    split
    · rename_i he
      have h1 := dval_lt (l := r.map dv) (by
        intro d hd
        obtain ⟨b, hb, rfl⟩ := List.mem_map.1 hd
        have := List.all_eq_true.1 (errR_parts he).2.1 b hb
        exact dv_lt this)
      rw [List.length_map] at h1
      exact Nat.lt_of_lt_of_le h1 (Nat.le_trans (Nat.pow_le_pow_right (by decide) hr) (ten_bs n))
    · exact Nat.pow_pos Bs_pos
  unfold LenI readI
  split
  · exact Nat.pow_pos Bs_pos
  · split
    · have := key l.tail (by rw [List.length_tail]; omega)
      omega
    · have := key l h
      omega
theorem showI_inj {k : Nat} {x y : Int} (hx : LenI k x) (hy : LenI k y) (hk : 1 ≤ k) (hk2 : k ≤ 900) (h : showI x = showI y) : x = y := by
  rw [← (show_back hx hk hk2).2, h, (show_back hy hk hk2).2]

/-- a cell of a box may be written -/
def Fr (s o : Nat) (W : World) : Prop := W.frozen? ⟨s, o, none⟩ = false ∧ s < W.heap.size
theorem Fr.ext {s o : Nat} {a b : World} (h : Fr s o a) (x : Ext a b) : Fr s o b :=
  ⟨frozen_ext x h.1 h.2, Nat.lt_of_lt_of_le h.2 x.size⟩
theorem Fr.n0 {w : World} {C : Array Value} {t : TypeId} {o : Nat} : Fr w.heap.size o (w.alloc (.cells C t)) := ⟨by simp [go_sem], by simp⟩
end Go.Proofs.YtefeglkbikcjeaaGreatDoor

/- Plain facts of fractions: what is made of numerator and denominator, and how long it is. -/
namespace Go.Proofs.YtefeglkbikcjeaaGreatDoor

theorem mk_num {z : Int} {d : Nat} (hd : d ≠ 0) : (mkRat z d).num = z / (z.natAbs.gcd d : Nat) := by
  rw [Rat.num_mkRat, if_neg hd, Nat.gcd_comm]
theorem mk_den {z : Int} {d : Nat} (hd : d ≠ 0) : (mkRat z d).den = d / z.natAbs.gcd d := by
  rw [Rat.den_mkRat, if_neg hd, Nat.gcd_comm]
theorem mk_abs {z : Int} {d : Nat} (hd : d ≠ 0) : (mkRat z d).num.natAbs = z.natAbs / z.natAbs.gcd d := by
  rw [mk_num hd, Int.natAbs_ediv_of_dvd]
  · rfl
  · exact Int.ofNat_dvd_left.2 (Nat.gcd_dvd_left _ _)
theorem mk_sign {z : Int} {d : Nat} (hd : d ≠ 0) : (mkRat z d).num < 0 ↔ z < 0 := by
  have hg : 0 < z.natAbs.gcd d := Nat.gcd_pos_of_pos_right _ (by omega)
  rw [mk_num hd]
  have hdv : ((z.natAbs.gcd d : Nat) : Int) ∣ z := Int.ofNat_dvd_left.2 (Nat.gcd_dvd_left _ _)
  obtain ⟨c, hc⟩ := hdv
  have hg' : (0 : Int) < (z.natAbs.gcd d : Nat) := by omega
  generalize ((z.natAbs.gcd d : Nat) : Int) = g at *
  subst hc
  rw [Int.mul_ediv_cancel_left _ (by omega)]
  constructor <;> intro h
  · exact Int.mul_neg_of_pos_of_neg hg' h
  · rcases Int.lt_or_le c 0 with h1 | h1
    · exact h1
    · have := Int.mul_nonneg (Int.le_of_lt hg') h1; omega
/-- numerator's limbs divided by the greatest common divisor, with the sign -/
theorem iv_mk {b : Bool} {A : List Nat} {d : Nat} (hd : d ≠ 0) : iv b (dig (val A / (val A).gcd d)) = (mkRat (iv b A) d).num := by
  have h1 := mk_abs (z := iv b A) hd
  have h2 := mk_sign (z := iv b A) hd
  rw [iv_abs] at h1
  rw [← h1]
  unfold iv at h2 ⊢
  rw [val_dig]
  cases b
  · simp only [Bool.false_eq_true, if_false] at h2 ⊢; omega
  · simp only [if_true] at h2 ⊢; 
    rcases Nat.eq_zero_or_pos (val A) with h0 | h0
    · have : (mkRat (-(val A : Int)) d).num = 0 := by rw [h0]; simp
      rw [this]; rfl
    · have := h2.2 (by omega); omega

/-- numerator and denominator have no more than k limbs -/
def LenR (k : Nat) (q : Rat) : Prop := q.num.natAbs < Bs ^ k ∧ q.den < Bs ^ k
theorem LenR.mono {k l : Nat} {q : Rat} (h : LenR k q) (hk : k ≤ l) : LenR l q :=
  ⟨Nat.lt_of_lt_of_le h.1 (Nat.pow_le_pow_right Bs_pos hk), Nat.lt_of_lt_of_le h.2 (Nat.pow_le_pow_right Bs_pos hk)⟩
theorem one_lt_pow {k : Nat} (hk : 1 ≤ k) : 1 < Bs ^ k := Nat.lt_of_lt_of_le (by rw [Nat.pow_one]; exact two_le_Bs) (Nat.pow_le_pow_right Bs_pos hk)
theorem LenR.mk {k : Nat} {z : Int} {d : Nat} (hk : 1 ≤ k) (hz : z.natAbs < Bs ^ k) (hd : d < Bs ^ k) : LenR k (mkRat z d) := by
  by_cases h : d = 0
  · subst h; rw [Rat.mkRat_zero]; exact ⟨Nat.pow_pos Bs_pos, one_lt_pow hk⟩
  · exact ⟨by rw [mk_abs h]; exact Nat.lt_of_le_of_lt (Nat.div_le_self _ _) hz, by rw [mk_den h]; exact Nat.lt_of_le_of_lt (Nat.div_le_self _ _) hd⟩
theorem LenR.neg {k : Nat} {q : Rat} (h : LenR k q) : LenR k (-q) := by
  unfold LenR at *; rw [Rat.neg_num, Rat.neg_den, Int.natAbs_neg]; exact h
theorem LenR.pos {k : Nat} {q : Rat} (h : LenR k q) : 1 ≤ k := by
  rcases Nat.eq_zero_or_pos k with e | e
  · subst e; have h1 := h.2; have h2 := q.den_pos; simp at h1; omega
  · exact e
theorem natAbs_add_lt {x y : Int} {X : Nat} (hx : x.natAbs < X) (hy : y.natAbs < X) : (x + y).natAbs < 2 * X := by omega
theorem LenR.add {k l : Nat} {a b : Rat} (h1 : LenR k a) (h2 : LenR l b) : LenR (k + l + 1) (a + b) := by
  have hb : 2 * Bs ^ (k + l) ≤ Bs ^ (k + l + 1) := by rw [Nat.pow_succ, Nat.mul_comm (Bs ^ (k + l))]; exact Nat.mul_le_mul_right _ two_le_Bs
  have p1 : (a.num * b.den).natAbs < Bs ^ (k + l) := by rw [Int.natAbs_mul, Nat.pow_add]; exact Nat.mul_lt_mul'' h1.1 (by simpa using h2.2)
  have p2 : (b.num * a.den).natAbs < Bs ^ (k + l) := by rw [Int.natAbs_mul, Nat.pow_add, Nat.mul_comm]; exact Nat.mul_lt_mul'' (by simpa using h1.2) h2.1
  have p3 : a.den * b.den < Bs ^ (k + l) := by rw [Nat.pow_add]; exact Nat.mul_lt_mul'' h1.2 h2.2
  rw [Rat.add_def']
  exact LenR.mk (by omega) (Nat.lt_of_lt_of_le (natAbs_add_lt p1 p2) hb) (by omega)
theorem LenR.sub {k l : Nat} {a b : Rat} (h1 : LenR k a) (h2 : LenR l b) : LenR (k + l + 1) (a - b) := by
  rw [Rat.sub_eq_add_neg]; exact h1.add h2.neg
theorem LenR.mul {k l : Nat} {a b : Rat} (h1 : LenR k a) (h2 : LenR l b) : LenR (k + l) (a * b) := by
  have := h1.pos
  rw [Rat.mul_def']
  exact LenR.mk (by omega) (by rw [Int.natAbs_mul, Nat.pow_add]; exact Nat.mul_lt_mul'' h1.1 h2.1) (by rw [Nat.pow_add]; exact Nat.mul_lt_mul'' h1.2 h2.2)

/-- a quotient, as it is made -/
theorem quo_mk (a b : Rat) : mkRat (a.num * b.den * b.num.sign) (a.den * b.num.natAbs) = a / b := by
  have e : a / b = Rat.divInt (a.num * b.den) (a.den * b.num) := by
    rw [Rat.div_def, Rat.inv_def]
    conv => lhs; lhs; rw [← Rat.num_divInt_den a]
    rw [Rat.divInt_mul_divInt]
  rw [e]
  rcases Int.lt_trichotomy b.num 0 with h | h | h
  · rw [Int.sign_eq_neg_one_of_neg h, ← Rat.neg_divInt_neg]
    have : -((a.den : Int) * b.num) = ((a.den * b.num.natAbs : Nat) : Int) := by
      rw [Int.natCast_mul, ← Int.mul_neg]; congr 1; omega
    rw [this, Rat.divInt_ofNat, Int.mul_neg_one]
  · rw [h]; simp
  · rw [Int.sign_eq_one_of_pos h]
    have : ((a.den : Int) * b.num) = ((a.den * b.num.natAbs : Nat) : Int) := by
      rw [Int.natCast_mul]; congr 1; omega
    rw [this, Rat.divInt_ofNat, Int.mul_one]
theorem LenR.div {k l : Nat} {a b : Rat} (h1 : LenR k a) (h2 : LenR l b) : LenR (k + l) (a / b) := by
  have := h1.pos
  rw [← quo_mk]
  refine LenR.mk (by omega) ?_ (by rw [Nat.pow_add]; exact Nat.mul_lt_mul'' h1.2 h2.1)
  rw [Int.natAbs_mul, Int.natAbs_mul, Nat.pow_add]
  have h3 : b.num.sign.natAbs ≤ 1 := by
    rcases Int.lt_trichotomy b.num 0 with h | h | h
    · rw [Int.sign_eq_neg_one_of_neg h]; decide
    · rw [h]; decide
    · rw [Int.sign_eq_one_of_pos h]; decide
  refine Nat.lt_of_le_of_lt (Nat.mul_le_mul_left _ h3) ?_
  rw [Nat.mul_one]
  exact Nat.mul_lt_mul'' h1.1 (by simpa using h2.2)
theorem LenR.int {k : Nat} {z : Int} (h : LenI k z) (hk : 1 ≤ k) : LenR k (z : Rat) := by
  unfold LenR; rw [Rat.num_intCast, Rat.den_intCast]; exact ⟨h, one_lt_pow hk⟩
theorem mkRat_one' (z : Int) : mkRat z 1 = (z : Rat) := by
  rw [Rat.mkRat_eq_div]; rw [Rat.div_def]
  have : ((1 : Nat) : Rat)⁻¹ = 1 := by decide +kernel
  rw [this, Rat.mul_one]

/-- how two fractions stand to each other -/
def cmpR (a b : Rat) : Int := cmpI (a.num * b.den) (b.num * a.den)
theorem cmpR_lt {a b : Rat} : cmpR a b = -1 ↔ a < b := by
  rw [Rat.lt_iff]; unfold cmpR cmpI
  constructor <;> intro h
  · split at h
    · assumption
    · split at h <;> omega
  · rw [if_pos h]
theorem cmpR_gt {a b : Rat} : cmpR a b = 1 ↔ b < a := by
  rw [Rat.lt_iff]; unfold cmpR cmpI
  constructor <;> intro h
  · split at h
    · omega
    · split at h
      · assumption
      · omega
  · rw [if_neg (by omega), if_pos h]
theorem cmpR_eq {a b : Rat} : cmpR a b = 0 ↔ a = b := by
  rw [Rat.eq_iff_mul_eq_mul]; unfold cmpR cmpI
  constructor <;> intro h
  · split at h
    · omega
    · split at h <;> omega
  · rw [if_neg (by omega), if_neg (by omega)]
theorem cmpR_three (a b : Rat) : cmpR a b = -1 ∨ cmpR a b = 0 ∨ cmpR a b = 1 := by
  unfold cmpR cmpI; split; · exact .inl rfl
  split; · exact .inr (.inr rfl)
  exact .inr (.inl rfl)
theorem cmpR_range (a b : Rat) : -1 ≤ cmpR a b ∧ cmpR a b ≤ 1 := by rcases cmpR_three a b with h | h | h <;> rw [h] <;> decide
theorem cmpR_swap (a b : Rat) : cmpR b a = -cmpR a b := by
  rcases cmpR_three a b with h | h | h
  · rw [h, cmpR_gt.2 (cmpR_lt.1 h)]; rfl
  · rw [h, cmpR_eq.2 (cmpR_eq.1 h).symm]; rfl
  · rw [h, cmpR_lt.2 (cmpR_gt.1 h)]
/-- two comparisons that say the same are the same -/
theorem cmpR_iff {a b c d : Rat} (h1 : a < b ↔ c < d) (h2 : b < a ↔ d < c) : cmpR a b = cmpR c d := by
  rcases cmpR_three a b with h | h | h
  · rw [h, cmpR_lt.2 (h1.1 (cmpR_lt.1 h))]
  · have e := cmpR_eq.1 h
    have n1 : ¬ c < d := fun k => by have := h1.2 k; rw [e] at this; exact Rat.lt_irrefl this
    have n2 : ¬ d < c := fun k => by have := h2.2 k; rw [e] at this; exact Rat.lt_irrefl this
    rw [h, eq_comm, cmpR_eq]
    exact Rat.le_antisymm (Rat.not_lt.1 n2) (Rat.not_lt.1 n1)
  · rw [h, cmpR_gt.2 (h2.1 (cmpR_gt.1 h))]
theorem cmpR_add (a b c : Rat) : cmpR (a + c) (b + c) = cmpR a b := cmpR_iff Rat.add_lt_add_right Rat.add_lt_add_right
theorem cmpR_sub (a b : Rat) : cmpR (a - b) 0 = cmpR a b := by
  have := cmpR_add (a - b) 0 b
  rw [Rat.sub_add_cancel, Rat.zero_add] at this
  exact this.symm
theorem cmpR_neg (a b : Rat) : cmpR (-a) (-b) = -cmpR a b := by
  rw [← cmpR_swap]; exact cmpR_iff Rat.neg_lt_neg_iff Rat.neg_lt_neg_iff
theorem cmpR_mul (a b c : Rat) : cmpR (a * c) (b * c) = cmpR a b * cmpR c 0 := by
  rcases cmpR_three c 0 with h | h | h
  · rw [h]
    have hc : 0 < -c := by have := cmpR_lt.1 h; have h2 := Rat.neg_lt_neg this; rwa [Rat.neg_zero] at h2
    have e := cmpR_neg (a * c) (b * c)
    rw [← Rat.mul_neg, ← Rat.mul_neg] at e
    have e2 : cmpR (a * -c) (b * -c) = cmpR a b := cmpR_iff (Rat.mul_lt_mul_right hc) (Rat.mul_lt_mul_right hc)
    omega
  · rw [h, cmpR_eq.1 h, Rat.mul_zero, Rat.mul_zero, Int.mul_zero]; exact cmpR_eq.2 rfl
  · rw [h, Int.mul_one]
    exact cmpR_iff (Rat.mul_lt_mul_right (cmpR_gt.1 h)) (Rat.mul_lt_mul_right (cmpR_gt.1 h))
theorem cmpR_trans {a b c : Rat} (h1 : cmpR a b ≤ 0) (h2 : cmpR b c ≤ 0) : cmpR a c ≤ 0 := by
  have le : ∀ {x y : Rat}, cmpR x y ≤ 0 ↔ x ≤ y := fun {x y} => by
    rw [← Rat.not_lt, ← cmpR_gt]; rcases cmpR_three x y with h | h | h <;> rw [h] <;> decide
  exact le.2 (Rat.le_trans (le.1 h1) (le.1 h2))

/-- Euclid's steps -/
theorem gcd_step (a b : Nat) : Nat.gcd b (a % b) = Nat.gcd a b := by
  rw [Nat.gcd_comm b, ← Nat.gcd_rec, Nat.gcd_comm]
end Go.Proofs.YtefeglkbikcjeaaGreatDoor

/- A law for regions that draw their order, in general: calls, allocations, loads and stores into the region's own boxes may come up in any order; what each leaves is said once. -/
namespace Go.Proofs.YtefeglkbikcjeaaGreatDoor
open Go Go.RowKit

/-- the types of blocks that are no boxes -/
def notBox : List TypeId := [61, 3, 2]
/-- no limb -/
def NoI : Value → Prop
  | .int .u64 _ => False
  | _ => True
/-- block s is a box of n cells, no more than three, none of which holds a limb -/
def Bx (n s : Nat) (w : World) : Prop := ∃ (cur : Array Value) (t : TypeId), w.heap[s]? = some (.cells cur t (0, 0)) ∧ (cur.size = n ∧ n ≤ 3) ∧ t ∉ notBox ∧ ∀ (o : Nat) (u : Value), cur[o]? = some u → NoI u
theorem Bx.lt {n s : Nat} {w : World} (h : Bx n s w) : s < w.heap.size := by
  obtain ⟨cur, t, h1, -⟩ := h
  exact (Array.getElem?_eq_some_iff.1 h1).1
theorem Bx.cell {n s : Nat} {w : World} (h : Bx n s w) {o : Nat} (ho : o < n) : ∃ u, w.cell? ⟨s, o, none⟩ = some u ∧ NoI u := by
  obtain ⟨cur, t, h1, ⟨h2, -⟩, -, h3⟩ := h
  exact ⟨cur[o]'(by omega), by simp [World.cell?, h1, h2, ho], h3 o _ (Array.getElem?_eq_getElem (by omega))⟩
theorem Bx.noI {n s : Nat} {w : World} (h : Bx n s w) {o : Nat} {u : Value} (hu : w.cell? ⟨s, o, none⟩ = some u) : NoI u := by
  obtain ⟨cur, t, h1, ⟨h2, -⟩, -, h3⟩ := h
  simp only [World.cell?, h1, Option.isSome_none, Bool.false_eq_true, if_false] at hu
  exact h3 o u hu
theorem Bx.free {n s : Nat} {w : World} (h : Bx n s w) (o : Nat) : w.frozen? ⟨s, o, none⟩ = false := by
  obtain ⟨cur, t, h1, -⟩ := h
  simp [World.frozen?, h1]
theorem Bx.inj {n m s : Nat} {w : World} (h : Bx n s w) (k : Bx m s w) : n = m := by
  obtain ⟨cur, t, h1, ⟨h2, -⟩, -⟩ := h
  obtain ⟨cur', t', k1, ⟨k2, -⟩, -⟩ := k
  rw [h1] at k1
  injection k1 with k1
  injection k1 with k1
  rw [← h2, ← k2, k1]

/-- memory has grown; boxes may hold other things -/
structure Gr (w w' : World) : Prop where
  size : w.heap.size ≤ w'.heap.size
  blk : ∀ b, b < w.heap.size → w'.heap[b]? = w.heap[b]? ∨ ∃ n, Bx n b w ∧ Bx n b w'
theorem Gr.refl (w : World) : Gr w w := ⟨Nat.le_refl _, fun _ _ => .inl rfl⟩
theorem Bx.of_eq {n s : Nat} {w w' : World} (h : Bx n s w) (e : w'.heap[s]? = w.heap[s]?) : Bx n s w' := by
  obtain ⟨cur, t, h1, h2⟩ := h
  exact ⟨cur, t, by rw [e]; exact h1, h2⟩
theorem Bx.gr {n s : Nat} {w w' : World} (h : Bx n s w) (g : Gr w w') : Bx n s w' := by
  rcases g.blk s h.lt with e | ⟨m, h1, h2⟩
  · exact h.of_eq e
  · rw [h.inj h1]; exact h2
theorem Gr.trans {a b c : World} (h : Gr a b) (k : Gr b c) : Gr a c := by
  refine ⟨Nat.le_trans h.size k.size, fun s hs => ?_⟩
  rcases h.blk s hs with e | ⟨n, h1, h2⟩
  · rcases k.blk s (Nat.lt_of_lt_of_le hs h.size) with e' | ⟨n, k1, k2⟩
    · exact .inl (e'.trans e)
    · exact .inr ⟨n, k1.of_eq e.symm, k2⟩
  · exact .inr ⟨n, h1, h2.gr k⟩
theorem Ext.gr {w w' : World} (h : Ext w w') : Gr w w' := ⟨h.size, fun b hb => .inl (h.block b hb)⟩

theorem Limbs.gr {w w' : World} {v : Value} {A : List Nat} (h : Limbs w v A) (g : Gr w w') : Limbs w' v A := by
  obtain ⟨⟨h1, a, cap, h2, h3, h4, h5, h6⟩, h7⟩ := h
  refine ⟨⟨h1, a, cap, h2, h3, h4, h5, fun p hp h0 => ?_⟩, h7⟩
  obtain ⟨q1, q2, q3⟩ := h6 p hp h0
  refine ⟨q1, Nat.lt_of_lt_of_le q2 g.size, fun j hj => ?_⟩
  rcases g.blk p.block q2 with e | ⟨n, k1, k2⟩
  · rw [← q3 j hj]; exact World.cell?_of_block (w := w) e
  · have hc := q3 j hj
    have hl : (A.map lv)[j] = lv (A[j]'(by simpa using hj)) := by simp
    rw [hl] at hc
    exact (k1.noI hc).elim
theorem IsI.gr {w w' : World} {b : Bool} {v : Value} {m : Nat} {z : Int} (h : IsI w b v m z) (g : Gr w w') : IsI w' b v m z := ⟨h.1, h.2.1, h.2.2.gr g⟩
theorem InI.gr {w w' : World} {b : Bool} {v : Value} {k : Nat} {z : Int} (h : InI w b v k z) (g : Gr w w') : InI w' b v k z := by
  obtain ⟨A, a1, a2, a3⟩ := h
  exact ⟨A, a1.gr g, a2, a3⟩
theorem Own.gr {B : Nat} {e : TypeId} {s : Nat} {w w' : World} {v : Value} {n : Nat} {xs : List Value} (h : Own B e s w v n xs) (he : e ∈ notBox) (k : Gr w w') : Own B e s w' v n xs := by
  rcases h with ⟨h1, h2⟩ | ⟨a, rfl, rfl, rfl, h⟩
  · refine .inl ⟨h1, ?_⟩
    rcases h2 with h2 | ⟨g, cap, cur, rfl, hg, hh, rest⟩
    · exact .inl h2
    · refine .inr ⟨g, cap, cur, rfl, hg, ?_, rest⟩
      rcases k.blk g (Array.getElem?_eq_some_iff.1 hh).1 with e' | ⟨m, k1, -⟩
      · rw [e']; exact hh
      · obtain ⟨cur', t, k1, -, k3, -⟩ := k1
        rw [hh] at k1
        injection k1 with k1
        injection k1 with _ k1
        exact absurd (k1 ▸ he) k3
  · exact .inr ⟨a, rfl, rfl, rfl, fun p hp => ⟨(h p hp).1, Nat.lt_of_lt_of_le (h p hp).2 k.size⟩⟩
theorem OwnL.gr {B : Nat} {w w' : World} {v : Value} {A : List Nat} (h : OwnL B w v A) (k : Gr w w') : OwnL B w' v A := ⟨h.1.gr (by decide) k, h.2⟩

/-- cells are stored into a box -/
def setRow (s : Nat) : Nat → List Value → World → World
  | _, [], w => w
  | o, c :: cs, w => setRow s (o + 1) cs (w.setCell ⟨s, o, none⟩ c)
theorem setRow_size (s : Nat) : ∀ (cs : List Value) (o : Nat) (w : World), (setRow s o cs w).heap.size = w.heap.size
  | [], _, _ => rfl
  | c :: cs, o, w => by rw [setRow, setRow_size s cs]; simp [World.setCell]
theorem setRow_other (s b : Nat) (h : b ≠ s) : ∀ (cs : List Value) (o : Nat) (w : World), (setRow s o cs w).heap[b]? = w.heap[b]?
  | [], _, _ => rfl
  | c :: cs, o, w => by rw [setRow, setRow_other s b h cs]; exact Below.heap_setCell _ _ _ _ h
theorem setRow_row (s : Nat) : ∀ (cs : List Value) (o : Nat) (w : World) (cur : Array Value) (t : TypeId), w.heap[s]? = some (.cells cur t (0, 0)) → o + cs.length ≤ cur.size →
    ∃ cur', (setRow s o cs w).heap[s]? = some (.cells cur' t (0, 0)) ∧ cur'.size = cur.size ∧ (∀ j, j < o → cur'[j]? = cur[j]?) ∧ (∀ j, j < cs.length → cur'[o + j]? = cs[j]?) ∧ (∀ j, o + cs.length ≤ j → cur'[j]? = cur[j]?)
  | [], o, w, cur, t, h, _ => ⟨cur, h, rfl, fun _ _ => rfl, fun j hj => absurd hj (by simp), fun _ _ => rfl⟩
  | c :: cs, o, w, cur, t, h, hl => by
    simp only [List.length_cons] at hl
    have h' : (w.setCell ⟨s, o, none⟩ c).heap[s]? = some (.cells (cur.setIfInBounds o c) t (0, 0)) := by simp [World.setCell, Array.getElem?_modify, h]
    obtain ⟨cur', e1, e2, e3, e4, e5⟩ := setRow_row s cs (o + 1) (w.setCell ⟨s, o, none⟩ c) _ t h' (by simp; omega)
    refine ⟨cur', e1, by rw [e2]; simp, fun j hj => ?_, fun j hj => ?_, fun j hj => ?_⟩
    · rw [e3 j (by omega), Array.getElem?_setIfInBounds_ne (by omega)]
    · cases j with
      | zero =>
        rw [Nat.add_zero, e3 o (by omega), Array.getElem?_setIfInBounds_self_of_lt (by omega)]; rfl
      | succ j =>
        have := e4 j (by simpa using hj)
        rw [show o + (j + 1) = o + 1 + j by omega, this]; rfl
    · simp only [List.length_cons] at hj
      rw [e5 j (by omega), Array.getElem?_setIfInBounds_ne (by omega)]
theorem setRow_bx {n s : Nat} {w : World} (h : Bx n s w) {cs : List Value} (hl : cs.length = n) (hc : ∀ u ∈ cs, NoI u) : Bx n s (setRow s 0 cs w) ∧ ∀ o u, cs[o]? = some u → At s o u (setRow s 0 cs w) := by
  obtain ⟨cur, t, h1, ⟨h2, h2b⟩, h3, h4⟩ := h
  obtain ⟨cur', e1, e2, -, e4, e5⟩ := setRow_row s cs 0 w cur t h1 (by omega)
  refine ⟨⟨cur', t, e1, ⟨by omega, h2b⟩, h3, fun o u hu => ?_⟩, fun o u hu => ⟨?_, (Array.getElem?_eq_some_iff.1 e1).1⟩⟩
  · rcases Nat.lt_or_ge o cs.length with g | g
    · have := e4 o g
      rw [Nat.zero_add] at this
      rw [this] at hu
      exact hc u (List.mem_of_getElem? hu)
    · rw [e5 o (by omega)] at hu
      exact h4 o u hu
  · have hlt : o < cs.length := (List.getElem?_eq_some_iff.1 hu).1
    have := e4 o hlt
    rw [Nat.zero_add, hu] at this
    simp [World.cell?, e1, this]
theorem setRow_gr {n s : Nat} {w : World} (h : Bx n s w) {cs : List Value} (hl : cs.length = n) (hc : ∀ u ∈ cs, NoI u) : Gr w (setRow s 0 cs w) := by
  refine ⟨by rw [setRow_size]; exact Nat.le_refl _, fun b _ => ?_⟩
  by_cases e : b = s
  · subst e; exact .inr ⟨n, h, (setRow_bx h hl hc).1⟩
  · exact .inl (setRow_other s b e cs 0 w)
theorem setRow_below (s B : Nat) (h : B ≤ s) : ∀ (cs : List Value) (o : Nat) {a w : World}, Below B a w → Below B a (setRow s o cs w)
  | [], _, _, _, k => k
  | _ :: cs, o, _, _, k => setRow_below s B h cs (o + 1) (k.setCell h _)
theorem At.setRow {s t o : Nat} {u : Value} {w : World} (h : At t o u w) (hne : t ≠ s) (cs : List Value) (k : Nat) : At t o u (setRow s k cs w) :=
  ⟨by rw [← h.1]; exact World.cell?_of_block (w := w) (setRow_other s t hne cs k w), by rw [setRow_size]; exact h.2⟩

/-- what is said of a value, and stays -/
structure Sg where
  holds : Value → World → Prop
  mono : ∀ v w w', holds v w → Gr w w' → holds v w'
def Sg.val (u : Value) : Sg := ⟨fun v _ => v = u, fun _ _ _ h _ => h⟩
def Sg.any : Sg := ⟨fun _ _ => True, fun _ _ _ h _ => h⟩
/-- a new box of n cells, from block B on -/
def Sg.box (n B : Nat) : Sg := ⟨fun v w => ∃ s, v = .pointer (some ⟨s, 0, none⟩) ∧ B ≤ s ∧ Bx n s w, fun _ _ _ ⟨s, h, hl, a⟩ x => ⟨s, h, hl, a.gr x⟩⟩

/-- which box a store goes to: one that an operation of the region makes, or one that was there -/
inductive BoxRef where
  | op (j : Nat)
  | old (n : Nat)
deriving DecidableEq
def BoxRef.blk (ops : Array Oper) (a : Act) (ob : List (Nat × List (Nat × Value))) : BoxRef → Nat
  | .op j => blkOf (at_ ops a j)
  | .old n => ((ob[n]?).map (·.1)).getD 0
def cellsOld (ob : List (Nat × List (Nat × Value))) (n : Nat) : List (Nat × Nat × Value) := match ob[n]? with | none => [] | some x => x.2.map fun q => (x.1, q.1, q.2)

def AllAt' (l : List (Nat × Nat × Value)) (w : World) : Prop := ∀ p ∈ l, At p.1 p.2.1 p.2.2 w
theorem AllAt'.ext {l : List (Nat × Nat × Value)} {w w' : World} (h : AllAt' l w) (x : Ext w w') : AllAt' l w' := fun p hp => (h p hp).ext x
theorem AllAt'.nil (w : World) : AllAt' [] w := fun _ h => by cases h
theorem AllAt'.cons {s o : Nat} {u : Value} {l : List (Nat × Nat × Value)} {w : World} (h : At s o u w) (k : AllAt' l w) : AllAt' ((s, o, u) :: l) w := fun p hp => by
  rcases List.mem_cons.1 hp with rfl | hp
  · exact h
  · exact k p hp
theorem AllAt'.get {l : List (Nat × Nat × Value)} {w : World} (h : AllAt' l w) {s o : Nat} {u : Value} (i : Nat) (hi : l[i]? = some (s, o, u)) : w.cell? ⟨s, o, none⟩ = some u := (h (s, o, u) (List.mem_of_getElem? hi)).1
theorem AllAt'.at {l : List (Nat × Nat × Value)} {w : World} (h : AllAt' l w) {s o : Nat} {u : Value} (i : Nat) (hi : l[i]? = some (s, o, u)) : At s o u w := h (s, o, u) (List.mem_of_getElem? hi)
theorem AllAt'.setRow {l : List (Nat × Nat × Value)} {w : World} (h : AllAt' l w) {s : Nat} (hne : ∀ p ∈ l, p.1 ≠ s) (cs : List Value) : AllAt' l (setRow s 0 cs w) := fun p hp => (h p hp).setRow (hne p hp) cs 0

theorem slot_of' {D : List Nat} {a0 a : Act} (h : Agree D a0 a) {k : Nat} {v : Value} (hk : k ∉ D) (hv : sl a0 k = v) : a.tmps[k]?.getD undef = v := by rw [← show sl a k = a.tmps[k]?.getD undef by simp [sl], h.slots k hk, hv]
theorem slot_is' {a : Act} {k : Nat} {v : Value} (h : sl a k = v) : a.tmps[k]?.getD undef = v := by rw [← show sl a k = a.tmps[k]?.getD undef by simp [sl], h]

/-- the operations that bind o, by their numbers -/
def bindsOf (o : Oper) : List Nat := (o.after.toList.filter binds).map (·.on)
/-- does i wait for j, through others too? -/
def dep (ops : Array Oper) : Nat → Nat → Nat → Bool
  | 0, _, _ => false
  | f + 1, i, j => match ops[i]? with
    | none => false
    | some o => (bindsOf o).any fun e => e == j || dep ops f e j

def EachOp' (C : Nat → Oper → Prop) : Nat → List Oper → Prop
  | _, [] => True
  | n, o :: l => C n o ∧ EachOp' C (n + 1) l
theorem EachOp'.get {C : Nat → Oper → Prop} : ∀ (l : List Oper) (n i : Nat) (o : Oper), EachOp' C n l → l[i]? = some o → C (n + i) o
  | [], _, _, _, _, h => by simp at h
  | a :: l, n, 0, o, h, ho => by simp at ho; subst ho; exact h.1
  | a :: l, n, i + 1, o, h, ho => by
    have := EachOp'.get l (n + 1) i o h.2 (by simpa using ho)
    rwa [Nat.add_assoc, Nat.add_comm 1 i] at this

/-- what is fixed of a region's walk -/
structure Plan where
  D : List Nat
  fr : Nat → Bool
  st : Nat → Option (BoxRef × Nat)
  sp : Nat → Sg
  keep : List (Nat × Nat × Value)
  ob : List (Nat × List (Nat × Value))
def NeAll (x : Nat) : List Nat → Prop
  | [] => True
  | y :: l => x ≠ y ∧ NeAll x l
def AllNe : List Nat → Prop
  | [] => True
  | x :: l => NeAll x l ∧ AllNe l
theorem NeAll.mem {x : Nat} : ∀ {l : List Nat}, NeAll x l → ∀ y ∈ l, x ≠ y
  | _ :: _, h, y, hy => by
    rcases List.mem_cons.1 hy with rfl | hy
    · exact h.1
    · exact NeAll.mem h.2 y hy
theorem AllNe.get : ∀ {l : List Nat}, AllNe l → ∀ {i j x y : Nat}, i ≠ j → l[i]? = some x → l[j]? = some y → x ≠ y
  | [], _, i, _, _, _, _, h, _ => by simp at h
  | a :: l, h, 0, 0, _, _, hij, _, _ => absurd rfl hij
  | a :: l, h, 0, j + 1, x, y, _, hx, hy => by
    simp at hx hy; subst hx; exact h.1.mem y (List.mem_of_getElem? hy)
  | a :: l, h, i + 1, 0, x, y, _, hx, hy => by
    simp at hx hy; subst hy; exact fun e => h.1.mem x (List.mem_of_getElem? hx) e.symm
  | a :: l, h, i + 1, j + 1, x, y, hij, hx, hy => AllNe.get h.2 (i := i) (j := j) (by omega) (by simpa using hx) (by simpa using hy)
def RowAt (s : Nat) (w : World) : List (Nat × Value) → Prop
  | [] => True
  | q :: l => At s q.1 q.2 w ∧ RowAt s w l
theorem RowAt.all {s : Nat} {w : World} : ∀ {l : List (Nat × Value)}, RowAt s w l → AllAt' (l.map fun q => (s, q.1, q.2)) w
  | [], _ => AllAt'.nil w
  | _ :: _, h => AllAt'.cons h.1 (RowAt.all h.2)
/-- the boxes that were there and are stored into -/
def ObOk (B : Nat) (w0 : World) (keep : List Nat) : List (Nat × List (Nat × Value)) → Prop
  | [] => True
  | x :: l => (B ≤ x.1 ∧ x.1 < w0.heap.size ∧ RowAt x.1 w0 x.2 ∧ NeAll x.1 keep) ∧ ObOk B w0 keep l
theorem ObOk.get {B : Nat} {w0 : World} {keep : List Nat} : ∀ {l : List (Nat × List (Nat × Value))}, ObOk B w0 keep l → ∀ x ∈ l, B ≤ x.1 ∧ x.1 < w0.heap.size ∧ RowAt x.1 w0 x.2 ∧ NeAll x.1 keep
  | _ :: _, h, x, hx => by
    rcases List.mem_cons.1 hx with rfl | hx
    · exact h.1
    · exact ObOk.get h.2 x hx

/-- the check of a region: edges lead back; slots are written once; each store has its box, and its value -/
def regOk (ops : Array Oper) (p : Plan) (n : Nat) : Bool :=
  Region.noSelect ops && (List.range ops.size).all fun i => match ops[i]? with
    | none => false
    | some o => (o.after.all fun e => !binds e || decide (e.on < i)) && match p.st i with
      | none => match o.dst with
        | none => false
        | some d => decide (d < n) && p.D.contains d && (List.range ops.size).all fun j => j == i || !((ops[j]?).bind (·.dst) == some d)
      | some (r, k) => o.dst.isNone && !p.fr i && (p.st k).isNone && (o.after.any fun e => binds e && e.on == k) && ((List.range ops.size).all fun i' => i' == i || !((p.st i').map (·.1) == some r)) && match r with
        | .op j => p.fr j && (p.st j).isNone && (o.after.any fun e => binds e && e.on == j)
        | .old n => decide (n < p.ob.length)

section
variable {P : Program} {ops : Array Oper} {Q : Exit → Act → World → Prop}

/-- in the midst of a region -/
structure Mg (ops : Array Oper) (p : Plan) (B : Nat) (a0 : Act) (w0 : World) (L : Array Bool) (a : Act) (w : World) : Prop where
  size : L.size = ops.size
  ag : Agree p.D a0 a
  gr : Gr w0 w
  blw : Below B w0 w
  keep : AllAt' p.keep w
  post : ∀ i, p.st i = none → L.getD i false = true → (p.sp i).holds (at_ ops a i) w
  fresh : ∀ i j, i ≠ j → p.fr i = true → p.fr j = true → p.st i = none → p.st j = none → L.getD i false = true → L.getD j false = true → blkOf (at_ ops a i) ≠ blkOf (at_ ops a j)
  frlo : ∀ i, p.fr i = true → p.st i = none → L.getD i false = true → w0.heap.size ≤ blkOf (at_ ops a i)
  back : ∀ i o, L.getD i false = true → ops[i]? = some o → ∀ e ∈ o.after, binds e = true → L.getD e.on false = true
  boxed : ∀ i r k, p.st i = some (r, k) → L.getD i false = true → ∀ o u, (at_ ops a k).cells.toList[o]? = some u → At (r.blk ops a p.ob) o u w
  unst : ∀ i n k, i < ops.size → p.st i = some (.old n, k) → L.getD i false = false → AllAt' (cellsOld p.ob n) w

/-- what an operation may count on -/
structure Pre (ops : Array Oper) (p : Plan) (B : Nat) (a0 : Act) (w0 : World) (i : Nat) (o : Oper) (a : Act) (w : World) : Prop where
  ag : Agree p.D a0 a
  gr : Gr w0 w
  blw : Below B w0 w
  keep : AllAt' p.keep w
  post : ∀ j ∈ bindsOf o, p.st j = none → (p.sp j).holds (at_ ops a j) w
  old : ∀ j n k, j < ops.size → p.st j = some (.old n, k) → (j = i ∨ dep ops ops.size j i = true) → AllAt' (cellsOld p.ob n) w

/-- one operation's part -/
def RStep (P : Program) (ops : Array Oper) (Q : Exit → Act → World → Prop) (p : Plan) (B : Nat) (a0 : Act) (w0 : World) (i : Nat) (o : Oper) : Prop :=
  ops[i]? = some o → ∀ a w, Pre ops p B a0 w0 i o a w →
    match p.st i with
    | none => wpOp P ops Q i (fun a' w' => ∃ v, a' = a.put o.dst v ∧ (p.sp i).holds v w' ∧ Ext w w' ∧ (p.fr i = true → blkOf v = w.heap.size)) a w
    | some (r, k) => ∃ n cs, Bx n (r.blk ops a p.ob) w ∧ (at_ ops a k).cells.toList = cs ∧ cs.length = n ∧ (∀ u ∈ cs, NoI u) ∧ wpOp P ops Q i (fun a' w' => a' = a ∧ w' = setRow (r.blk ops a p.ob) 0 cs w) a w

theorem dep_listed {L : Array Bool} (hb : ∀ i o, L.getD i false = true → ops[i]? = some o → ∀ e ∈ o.after, binds e = true → L.getD e.on false = true) :
    ∀ (f i j : Nat), L.getD i false = true → dep ops f i j = true → L.getD j false = true := by
  intro f
  induction f with
  | zero => intro i j _ h; cases h
  | succ f ih =>
    intro i j hi h
    unfold dep at h
    cases ho : ops[i]? with
    | none => rw [ho] at h; cases h
    | some o =>
      rw [ho] at h
      obtain ⟨e, he, h2⟩ := List.any_eq_true.1 h
      obtain ⟨g, hg, rfl⟩ := List.mem_map.1 he
      obtain ⟨g1, g2⟩ := List.mem_filter.1 hg
      have hl := hb i o hi ho g (Array.mem_def.2 g1) g2
      simp only [Bool.or_eq_true, beq_iff_eq] at h2
      rcases h2 with h2 | h2
      · rw [← h2]; exact hl
      · exact ih _ _ hl h2

theorem wp_region_gen {id : Nat} {a0 : Act} {w0 : World} (p : Plan) (B : Nat)
    (hm : P.follows .mixedOrders = true) (hck : regOk ops p a0.tmps.size = true) (hB : B ≤ w0.heap.size)
    (hfr : ∀ i v w, p.fr i = true → p.st i = none → (p.sp i).holds v w → blkOf v < w.heap.size)
    (hkeep : AllAt' p.keep w0)
    (hob : ObOk B w0 (p.keep.map (·.1)) p.ob) (hne : AllNe (p.ob.map (·.1)))
    (hs : EachOp' (RStep P ops Q p B a0 w0) 0 ops.toList)
    (hend : ∀ a w, Mg ops p B a0 w0 (Array.replicate ops.size true) a w → Q .normal a w) :
    (Code.region id ops true).wp P Q a0 w0 := by
  simp only [regOk, Bool.and_eq_true] at hck
  obtain ⟨hsel, hck⟩ := hck
  have hop : ∀ i o, ops[i]? = some o → (o.after.all fun e => !binds e || decide (e.on < i)) = true ∧ match p.st i with
      | none => ∃ d, o.dst = some d ∧ d < a0.tmps.size ∧ d ∈ p.D ∧ ∀ j, j < ops.size → j ≠ i → (ops[j]?).bind (·.dst) ≠ some d
      | some (r, k) => o.dst = none ∧ p.fr i = false ∧ p.st k = none ∧ (∃ e ∈ o.after, binds e = true ∧ e.on = k) ∧ (∀ i', i' < ops.size → i' ≠ i → (p.st i').map (·.1) ≠ some r) ∧
        (∀ j, r = .op j → p.fr j = true ∧ p.st j = none ∧ ∃ e ∈ o.after, binds e = true ∧ e.on = j) ∧ ∀ n, r = .old n → n < p.ob.length := by
    intro i o ho
    have h := List.all_eq_true.1 hck i (List.mem_range.2 (Array.getElem?_eq_some_iff.1 ho).1)
    simp only [ho, Bool.and_eq_true] at h
    refine ⟨h.1, ?_⟩
    have h2 := h.2
    split
    · rename_i hst
      rw [hst] at h2
      simp only at h2
      cases hd : o.dst with
      | none => simp [hd] at h2
      | some d =>
        simp only [hd, Bool.and_eq_true, decide_eq_true_eq, List.contains_iff_mem, List.all_eq_true, List.mem_range, Bool.or_eq_true, beq_iff_eq, Bool.not_eq_true', beq_eq_false_iff_ne, ne_eq] at h2
        refine ⟨d, rfl, h2.1.1, h2.1.2, fun j hj hne => ?_⟩
        rcases h2.2 j hj with e | e
        · exact absurd e hne
        · exact e
    · rename_i r k hst
      rw [hst] at h2
      simp only [Bool.and_eq_true, Option.isNone_iff_eq_none, Bool.not_eq_true', List.all_eq_true, List.mem_range, Bool.or_eq_true, beq_iff_eq, beq_eq_false_iff_ne, ne_eq] at h2
      obtain ⟨⟨⟨⟨⟨g1, g2⟩, g3⟩, g4⟩, g5⟩, g6⟩ := h2
      refine ⟨g1, g2, g3, ?_, fun i' hi' hne => ?_, ?_, ?_⟩
      · obtain ⟨e, he, hb⟩ := Array.any_eq_true'.1 g4
        simp only [Bool.and_eq_true, beq_iff_eq] at hb
        exact ⟨e, he, hb.1, hb.2⟩
      · rcases g5 i' hi' with e | e
        · exact absurd e hne
        · exact e
      · rintro j rfl
        simp only [Bool.and_eq_true, Option.isNone_iff_eq_none] at g6
        obtain ⟨⟨g6, g7⟩, g8⟩ := g6
        obtain ⟨e, he, hb⟩ := Array.any_eq_true'.1 g8
        simp only [Bool.and_eq_true, beq_iff_eq] at hb
        exact ⟨g6, g7, e, he, hb.1, hb.2⟩
      · rintro n rfl
        simpa using g6
  clear hck
  have hold : ∀ i n k, i < ops.size → p.st i = some (.old n, k) → ∃ x, p.ob[n]? = some x ∧ (BoxRef.old n).blk ops a0 p.ob = x.1 ∧ B ≤ x.1 ∧ x.1 < w0.heap.size ∧ AllAt' (cellsOld p.ob n) w0 ∧ (∀ q ∈ cellsOld p.ob n, q.1 = x.1) ∧ (∀ q ∈ p.keep, q.1 ≠ x.1) := by
    intro i n k hi hs'
    have h1 := (hop i _ (Array.getElem?_eq_getElem hi)).2
    rw [hs'] at h1
    have hn := h1.2.2.2.2.2.2 n rfl
    have hx : p.ob[n]? = some p.ob[n] := List.getElem?_eq_getElem hn
    obtain ⟨g1, g2, g3, g4⟩ := hob.get p.ob[n] (List.getElem_mem hn)
    refine ⟨p.ob[n], hx, by simp [BoxRef.blk, hx], g1, g2, ?_, ?_, fun q hq e => g4.mem q.1 (List.mem_map_of_mem hq) e.symm⟩
    · unfold cellsOld; rw [hx]; exact g3.all
    · unfold cellsOld; rw [hx]
      intro q hq
      obtain ⟨z, -, rfl⟩ := List.mem_map.1 hq
      rfl
  have hstep : ∀ i o, ops[i]? = some o → RStep P ops Q p B a0 w0 i o := fun i o ho => by
    have := EachOp'.get ops.toList 0 i o hs (by rw [Array.getElem?_toList]; exact ho)
    rwa [Nat.zero_add] at this
  refine wp_region_held_drew (S := fun _ => True) hm trivial fun _ => ?_
  have hnone : ∀ {L : Array Bool} {i : Nat}, L.size = ops.size → L.getD i false = true → i < ops.size := fun {L i} hL h => by
    rcases Nat.lt_or_ge i L.size with g | g
    · rw [← hL]; exact g
    · simp [Array.getD, Nat.not_lt.2 g] at h
  have hall : ∀ (L : Array Bool) (a : Act) (w : World), Mg ops p B a0 w0 L a w → Region.ready .any ops L = [] → Q .normal a w := by
    intro L a w hM h0
    have hl : ∀ j, j < ops.size → L.getD j false = true := by
      intro j
      induction j using Nat.strongRecOn with
      | _ j ihj =>
        intro hj
        cases hg : L.getD j false with
        | true => rfl
        | false =>
          have hj' : j < L.size := by rw [hM.size]; exact hj
          obtain ⟨oj, hoj⟩ : ∃ oj, ops[j]? = some oj := ⟨_, Array.getElem?_eq_getElem hj⟩
          have hall := Array.all_eq_true_iff_forall_mem.1 (hop j oj hoj).1
          have : j ∈ Region.ready .any ops L := by
            refine mem_ready.2 ⟨by simp [Array.getD, hj'] at hg ⊢; exact hg, oj, hoj, fun e he hbe => ?_⟩
            have h1 := hall e he
            have hb' : binds e = true := hbe
            rw [hb'] at h1
            simp only [Bool.not_true, Bool.false_or, decide_eq_true_eq] at h1
            exact ihj e.on h1 (by omega)
          rw [h0] at this
          cases this
    have hL : L = Array.replicate ops.size true := by
      refine Array.ext (by simp [hM.size]) fun k h1 h2 => ?_
      have e1 : L.getD k false = L[k] := by simp [Array.getD, h1]
      rw [← e1, hl k (by rw [← hM.size]; exact h1)]
      simp
    subst hL
    exact hend a w hM
  have key : ∀ (fuel : Nat) (L : Array Bool) (a : Act) (w : World), unl ops.size L ≤ fuel → Mg ops p B a0 w0 L a w → wpAnyH P .any ops Q (fun _ => True) fuel L a w := by
    intro fuel
    induction fuel with
    | zero =>
      intro L a w hf hM
      have h0 : Region.ready .any ops L = [] := by
        refine List.eq_nil_iff_forall_not_mem.2 fun i hi => ?_
        obtain ⟨hin, hiL, -⟩ := ready_spec hi
        have := unl_step hin (by rw [hM.size]; exact hin) hiL
        omega
      exact ⟨h0, hall L a w hM h0⟩
    | succ fuel ih =>
      intro L a w hf hM
      refine ⟨hall L a w hM, fun i hir => ?_⟩
      obtain ⟨hin, hiL, o, ho, hpre⟩ := ready_spec hir
      have hun := unl_step hin (by rw [hM.size]; exact hin) hiL
      have hiL' : i < L.size := by rw [hM.size]; exact hin
      have hif : L.getD i false = false := by simp [Array.getD, hiL'] at hiL ⊢; exact hiL
      have hgs := hstep i o ho ho a w ⟨hM.ag, hM.gr, hM.blw, hM.keep, fun j hj hsj => by
        obtain ⟨e, he, rfl⟩ := List.mem_map.1 hj
        obtain ⟨h1, h2⟩ := List.mem_filter.1 he
        exact hM.post e.on hsj (hpre e (Array.mem_def.2 h1) h2), fun j s k hjn hj hd => hM.unst j s k hjn hj (by
          cases hg : L.getD j false with
          | false => rfl
          | true =>
            rcases hd with rfl | hd
            · rw [hg] at hif; cases hif
            · rw [dep_listed hM.back _ _ _ hg hd] at hif; cases hif)⟩
      have hold' : ∀ j, j ≠ i → (L.setIfInBounds i true).getD j false = true → L.getD j false = true := fun j hj hL => by rwa [getD_set_ne false (Ne.symm hj)] at hL
      have hnew : ∀ j, (L.setIfInBounds i true).getD j false = false → j ≠ i ∧ L.getD j false = false := fun j hL => by
        have hj : j ≠ i := fun e => by subst e; simp [Array.getD, hiL'] at hL
        exact ⟨hj, by rwa [getD_set_ne false (Ne.symm hj)] at hL⟩
      have hback : ∀ j oj, (L.setIfInBounds i true).getD j false = true → ops[j]? = some oj → ∀ e ∈ oj.after, binds e = true → (L.setIfInBounds i true).getD e.on false = true := by
        intro j oj hj hoj e he hb
        have : L.getD e.on false = true := by
          by_cases e1 : j = i
          · subst e1; rw [ho] at hoj; injection hoj with hoj; subst hoj; exact hpre e he hb
          · exact hM.back j oj (hold' j e1 hj) hoj e he hb
        by_cases e2 : e.on = i
        · rw [e2, hif] at this; cases this
        · rw [getD_set_ne false (Ne.symm e2)]; exact this
      have hsz : (L.setIfInBounds i true).size = ops.size := by rw [Array.size_setIfInBounds]; exact hM.size
      have hdisj : ∀ (v : Value) (j : Nat), j ≠ i → j < ops.size → at_ ops (a.put o.dst v) j = at_ ops a j := by
        intro v j hj hjn
        unfold at_
        split
        · rename_i k hk
          cases hd : o.dst with
          | none => rfl
          | some d =>
            have h1 := (hop i o ho).2
            split at h1
            · obtain ⟨d', e1, -, -, h4⟩ := h1
              rw [hd] at e1
              injection e1 with e1
              subst e1
              refine sl_other fun e => h4 j hjn hj (by rw [hk, e])
            · rw [h1.1] at hd; cases hd
        · rfl
      have hblk : ∀ (v : Value) (i' : Nat) (r : BoxRef) (k : Nat), p.st i' = some (r, k) → L.getD i' false = true → r.blk ops (a.put o.dst v) p.ob = r.blk ops a p.ob ∧ at_ ops (a.put o.dst v) k = at_ ops a k := by
        intro v i' r k hs' hL'
        obtain ⟨o', ho'⟩ : ∃ o', ops[i']? = some o' := ⟨_, Array.getElem?_eq_getElem (hnone hM.size hL')⟩
        have h1 := (hop i' o' ho').2
        rw [hs'] at h1
        obtain ⟨-, -, -, ⟨e2, m2, b2, on2⟩, -, hr, -⟩ := h1
        have lk := hM.back i' o' hL' ho' e2 m2 b2
        rw [on2] at lk
        refine ⟨?_, hdisj v k (fun e => by rw [e, hif] at lk; cases lk) (hnone hM.size lk)⟩
        cases r with
        | old s => rfl
        | op j =>
          obtain ⟨-, -, e1, m1, b1, on1⟩ := hr j rfl
          have lj := hM.back i' o' hL' ho' e1 m1 b1
          rw [on1] at lj
          show blkOf _ = blkOf _
          rw [hdisj v j (fun e => by rw [e, hif] at lj; cases lj) (hnone hM.size lj)]
      have hop2 := (hop i o ho).2
      cases hst : p.st i with
      | none =>
        rw [hst] at hgs hop2
        obtain ⟨d, hod, hdn, hdD, hdu⟩ := hop2
        refine wpOp_mono ?_ hgs
        rintro a' w' ⟨v, rfl, hpv, hxx, hff⟩
        have hself : at_ ops (a.put o.dst v) i = v := by
          unfold at_
          rw [ho, Option.bind_some, hod]
          exact sl_same (by rw [hM.ag.size]; exact hdn)
        refine ⟨trivial, ih _ _ _ (by omega) ⟨hsz, hM.ag.put (fun k hk => by rw [hod] at hk; injection hk with hk; subst hk; exact hdD), hM.gr.trans hxx.gr, hM.blw.trans (hxx.mono (Nat.le_trans hB hM.gr.size)), hM.keep.ext hxx, ?_, ?_, ?_, hback, ?_, ?_⟩⟩
        · intro j hsj hL
          by_cases e : j = i
          · subst e; rw [hself]; exact hpv
          · have hL' := hold' j e hL
            rw [hdisj v j e (hnone hM.size hL')]
            exact (p.sp j).mono _ _ _ (hM.post j hsj hL') hxx.gr
        · intro j k hjk fj fk sj sk hLj hLk
          by_cases e1 : j = i
          · subst e1
            have e2 : k ≠ j := Ne.symm hjk
            have hLk' := hold' k e2 hLk
            rw [hself, hdisj v k e2 (hnone hM.size hLk'), hff fj]
            exact Nat.ne_of_gt (hfr k _ w fk sk (hM.post k sk hLk'))
          · have hLj' := hold' j e1 hLj
            by_cases e2 : k = i
            · subst e2
              rw [hself, hdisj v j e1 (hnone hM.size hLj'), hff fk]
              exact Nat.ne_of_lt (hfr j _ w fj sj (hM.post j sj hLj'))
            · have hLk' := hold' k e2 hLk
              rw [hdisj v j e1 (hnone hM.size hLj'), hdisj v k e2 (hnone hM.size hLk')]
              exact hM.fresh j k hjk fj fk sj sk hLj' hLk'
        · intro j fj sj hL
          by_cases e : j = i
          · subst e; rw [hself, hff fj]; exact hM.gr.size
          · have hL' := hold' j e hL
            rw [hdisj v j e (hnone hM.size hL')]
            exact hM.frlo j fj sj hL'
        · intro i' r k hs' hL oo u hu
          have e : i' ≠ i := fun e => by rw [e, hst] at hs'; cases hs'
          have hL' := hold' i' e hL
          obtain ⟨hb1, hb2⟩ := hblk v i' r k hs' hL'
          rw [hb2] at hu
          rw [hb1]
          exact (hM.boxed i' r k hs' hL' oo u hu).ext hxx
        · intro i' s k hn hs' hL
          exact (hM.unst i' s k hn hs' (hnew i' hL).2).ext hxx
      | some rk =>
        obtain ⟨r, k⟩ := rk
        rw [hst] at hgs hop2
        obtain ⟨hod, hfi, hsk, ⟨e2, m2, b2, on2⟩, huniq, hr, -⟩ := hop2
        obtain ⟨n, cs, hbx, hcs, hcl, hcn, hw⟩ := hgs
        have hs0 : B ≤ r.blk ops a p.ob ∧ (∀ q ∈ p.keep, q.1 ≠ r.blk ops a p.ob) ∧ (∀ i' n k', i' < ops.size → p.st i' = some (.old n, k') → i' ≠ i → ∀ q ∈ cellsOld p.ob n, q.1 ≠ r.blk ops a p.ob) ∧ ∀ i' r' k', p.st i' = some (r', k') → i' ≠ i → L.getD i' false = true → r'.blk ops a p.ob ≠ r.blk ops a p.ob := by
          cases r with
          | old n =>
            obtain ⟨x, hx, hb, h1, h2, -, h4, h5⟩ := hold i n k hin hst
            have hb' : (BoxRef.old n).blk ops a p.ob = x.1 := hb
            rw [hb']
            have hdif : ∀ i' n' k', i' < ops.size → p.st i' = some (.old n', k') → i' ≠ i → ∀ y, p.ob[n']? = some y → y.1 ≠ x.1 := fun i' n' k' hn hs' hne' y hy => by
              refine hne.get (i := n') (j := n) (fun e => huniq i' hn hne' (by rw [hs', e]; rfl)) (by simp [hy]) (by simp [hx])
            refine ⟨h1, h5, fun i' n' k' hn hs' hne' q hq => ?_, fun i' r' k' hs' hne' hL' => ?_⟩
            · obtain ⟨y, hy, -, -, -, -, g4, -⟩ := hold i' n' k' hn hs'
              rw [g4 q hq]
              exact hdif i' n' k' hn hs' hne' y hy
            · cases r' with
              | old n' =>
                obtain ⟨y, hy, gb, -⟩ := hold i' n' k' (hnone hM.size hL') hs'
                rw [show (BoxRef.old n').blk ops a p.ob = y.1 from gb]
                exact hdif i' n' k' (hnone hM.size hL') hs' hne' y hy
              | op j =>
                obtain ⟨o', ho'⟩ : ∃ o', ops[i']? = some o' := ⟨_, Array.getElem?_eq_getElem (hnone hM.size hL')⟩
                have g1 := (hop i' o' ho').2
                rw [hs'] at g1
                obtain ⟨g3, g4, e3, m3, b3, on3⟩ := g1.2.2.2.2.2.1 j rfl
                have lj := hM.back i' o' hL' ho' e3 m3 b3
                rw [on3] at lj
                have := hM.frlo j g3 g4 lj
                exact Nat.ne_of_gt (Nat.lt_of_lt_of_le h2 this)
          | op j =>
            obtain ⟨g3, g4, e3, m3, b3, on3⟩ := hr j rfl
            have lj := hpre e3 m3 b3
            rw [on3] at lj
            have hlo := hM.frlo j g3 g4 lj
            refine ⟨Nat.le_trans hB hlo, fun q hq => Nat.ne_of_lt (Nat.lt_of_lt_of_le (hkeep q hq).2 hlo), fun i' n' k' hn hs' hne' q hq => ?_, fun i' r' k' hs' hne' hL' => ?_⟩
            · obtain ⟨y, -, -, -, g2, -, g5, -⟩ := hold i' n' k' hn hs'
              rw [g5 q hq]
              exact Nat.ne_of_lt (Nat.lt_of_lt_of_le g2 hlo)
            · cases r' with
              | old n' =>
                obtain ⟨y, -, gb, -, g2, -⟩ := hold i' n' k' (hnone hM.size hL') hs'
                rw [show (BoxRef.old n').blk ops a p.ob = y.1 from gb]
                exact Nat.ne_of_lt (Nat.lt_of_lt_of_le g2 hlo)
              | op j' =>
                obtain ⟨o', ho'⟩ : ∃ o', ops[i']? = some o' := ⟨_, Array.getElem?_eq_getElem (hnone hM.size hL')⟩
                have g1 := (hop i' o' ho').2
                rw [hs'] at g1
                obtain ⟨g5, g6, e5, m5, b5, on5⟩ := g1.2.2.2.2.2.1 j' rfl
                have lj' := hM.back i' o' hL' ho' e5 m5 b5
                rw [on5] at lj'
                refine hM.fresh j' j (fun e => huniq i' (hnone hM.size hL') hne' ?_) g5 g3 g6 g4 lj' lj
                rw [hs', e]; rfl
        obtain ⟨hlo, hk1, hk2, hk3⟩ := hs0
        refine wpOp_mono ?_ hw
        rintro a' w' ⟨rfl, rfl⟩
        have hgr := setRow_gr hbx hcl hcn
        refine ⟨trivial, ih _ _ _ (by omega) ⟨hsz, hM.ag, hM.gr.trans hgr, setRow_below _ _ hlo cs 0 hM.blw, hM.keep.setRow hk1 cs, ?_, ?_, ?_, hback, ?_, ?_⟩⟩
        · intro j' hsj' hL
          have e : j' ≠ i := fun e => by rw [e, hst] at hsj'; cases hsj'
          exact (p.sp j').mono _ _ _ (hM.post j' hsj' (hold' j' e hL)) hgr
        · intro j' k' hjk fj fk sj sk hLj hLk
          have e1 : j' ≠ i := fun e => by rw [e, hst] at sj; cases sj
          have e2 : k' ≠ i := fun e => by rw [e, hst] at sk; cases sk
          exact hM.fresh j' k' hjk fj fk sj sk (hold' j' e1 hLj) (hold' k' e2 hLk)
        · intro j' fj sj hL
          have e1 : j' ≠ i := fun e => by rw [e, hst] at sj; cases sj
          exact hM.frlo j' fj sj (hold' j' e1 hL)
        · intro i' r' k' hs' hL oo u hu
          by_cases e : i' = i
          · subst e
            rw [hst] at hs'
            injection hs' with hs'
            injection hs' with h1 h2
            subst h1
            subst h2
            exact (setRow_bx hbx hcl hcn).2 oo u (by rw [← hcs]; exact hu)
          · have hL' := hold' i' e hL
            exact (hM.boxed i' r' k' hs' hL' oo u hu).setRow (hk3 i' r' k' hs' e hL') cs 0
        · intro i' s k' hn hs' hL
          obtain ⟨g1, g2⟩ := hnew i' hL
          exact (hM.unst i' s k' hn hs' g2).setRow (hk2 i' s k' hn hs' g1) cs
  refine key _ _ _ _ ?_ ⟨by simp, Agree.refl _ _, (Ext.refl _).drew.gr, ⟨rfl, rfl, rfl, Nat.le_refl _, fun _ _ => rfl⟩, fun q hq => (hkeep q hq).ext (Ext.refl _).drew, fun i _ h => by simp [Array.getD] at h, fun i j _ _ _ _ _ h => by simp [Array.getD] at h, fun i _ _ h => by simp [Array.getD] at h, fun i o h => by simp [Array.getD] at h, fun i r k _ h => by simp [Array.getD] at h, fun i n k hn hs' _ => by obtain ⟨x, -, -, -, -, h, -⟩ := hold i n k hn hs'; exact h.ext (Ext.refl _).drew⟩
  unfold unl
  exact Nat.le_trans (List.countP_le_length) (by simp)
end
end Go.Proofs.YtefeglkbikcjeaaGreatDoor

/- Fractions as values: what a struct of three cells stands for. -/
namespace Go.Proofs.YtefeglkbikcjeaaGreatDoor
open Go Go.RowKit

/-- a fraction in lowest terms, as it is told -/
def IsR (w : World) (b : Bool) (v u : Value) (m d : Nat) (q : Rat) : Prop := decide (q.num < 0) = b ∧ q.num.natAbs = m ∧ q.den = d ∧ Limbs w v (dig m) ∧ Limbs w u (dig d)
theorem IsR.ext {w w' : World} {b : Bool} {v u : Value} {m d : Nat} {q : Rat} (h : IsR w b v u m d q) (x : Ext w w') : IsR w' b v u m d q := ⟨h.1, h.2.1, h.2.2.1, h.2.2.2.1.ext x, h.2.2.2.2.ext x⟩
theorem IsR.gr {w w' : World} {b : Bool} {v u : Value} {m d : Nat} {q : Rat} (h : IsR w b v u m d q) (x : Gr w w') : IsR w' b v u m d q := ⟨h.1, h.2.1, h.2.2.1, h.2.2.2.1.gr x, h.2.2.2.2.gr x⟩
theorem IsR.num {w : World} {b : Bool} {v u : Value} {m d : Nat} {q : Rat} (h : IsR w b v u m d q) : IsI w b v m q.num := ⟨h.1, h.2.1, h.2.2.2.1⟩
theorem IsR.mag {w : World} {b : Bool} {v u : Value} {m d : Nat} {q : Rat} (h : IsR w b v u m d q) : Limbs w v (dig q.num.natAbs) := by rw [h.2.1]; exact h.2.2.2.1
theorem IsR.den {w : World} {b : Bool} {v u : Value} {m d : Nat} {q : Rat} (h : IsR w b v u m d q) : Limbs w u (dig q.den) := by rw [h.2.2.1]; exact h.2.2.2.2
theorem IsR.slice {w : World} {b : Bool} {v u : Value} {m d : Nat} {q : Rat} (h : IsR w b v u m d q) : ∃ a n c a' n' c', v = .slice a n c ∧ u = .slice a' n' c' := by
  obtain ⟨a, c, h1, -⟩ := h.2.2.2.1.open
  obtain ⟨a', c', h2, -⟩ := h.2.2.2.2.open
  exact ⟨a, _, c, a', _, c', h1, h2⟩
/-- in any way, of no more than k limbs -/
def InR (w : World) (b : Bool) (v u : Value) (k : Nat) (q : Rat) : Prop := ∃ A B, Limbs w v A ∧ Limbs w u B ∧ mkRat (iv b A) (val B) = q ∧ A.length ≤ k ∧ B.length ≤ k ∧ 1 ≤ k
theorem InR.ext {w w' : World} {b : Bool} {v u : Value} {k : Nat} {q : Rat} (h : InR w b v u k q) (x : Ext w w') : InR w' b v u k q := by
  obtain ⟨A, B, h1, h2, h3⟩ := h; exact ⟨A, B, h1.ext x, h2.ext x, h3⟩
theorem InR.gr {w w' : World} {b : Bool} {v u : Value} {k : Nat} {q : Rat} (h : InR w b v u k q) (x : Gr w w') : InR w' b v u k q := by
  obtain ⟨A, B, h1, h2, h3⟩ := h; exact ⟨A, B, h1.gr x, h2.gr x, h3⟩
theorem IsR.inR {w : World} {b : Bool} {v u : Value} {m d k : Nat} {q : Rat} (h : IsR w b v u m d q) (hk : LenR k q) : InR w b v u k q := by
  refine ⟨dig m, dig d, h.2.2.2.1, h.2.2.2.2, ?_, dig_len_le (by rw [← h.2.1]; exact hk.1), dig_len_le (by rw [← h.2.2.1]; exact hk.2), hk.pos⟩
  rw [h.num.iv, val_dig, ← h.2.2.1, Rat.mkRat_self]
theorem InR.len {w : World} {b : Bool} {v u : Value} {k : Nat} {q : Rat} (h : InR w b v u k q) : LenR k q := by
  obtain ⟨A, B, h1, h2, h3, h4, h5, hk⟩ := h
  rw [← h3]
  exact LenR.mk hk (by rw [iv_abs]; exact Nat.lt_of_lt_of_le (val_lt h1.2) (Nat.pow_le_pow_right Bs_pos h4)) (Nat.lt_of_lt_of_le (val_lt h2.2) (Nat.pow_le_pow_right Bs_pos h5))
theorem InR.slice {w : World} {b : Bool} {v u : Value} {k : Nat} {q : Rat} (h : InR w b v u k q) : ∃ a n c a' n' c', v = .slice a n c ∧ u = .slice a' n' c' := by
  obtain ⟨A, B, h1, h2, -⟩ := h
  obtain ⟨a, c, h1, -⟩ := h1.open
  obtain ⟨a', c', h2, -⟩ := h2.open
  exact ⟨a, _, c, a', _, c', h1, h2⟩
/-- the limbs are the call's own -/
def OwnR (B : Nat) (w : World) (v u : Value) (m d : Nat) : Prop := OwnL B w v (dig m) ∧ OwnL B w u (dig d)
theorem OwnR.ext {B : Nat} {w w' : World} {v u : Value} {m d : Nat} (h : OwnR B w v u m d) (x : Ext w w') : OwnR B w' v u m d := ⟨h.1.ext x, h.2.ext x⟩
theorem OwnR.gr {B : Nat} {w w' : World} {v u : Value} {m d : Nat} (h : OwnR B w v u m d) (x : Gr w w') : OwnR B w' v u m d := ⟨h.1.gr x, h.2.gr x⟩
theorem OwnR.mono {B B' : Nat} {w : World} {v u : Value} {m d : Nat} (h : OwnR B w v u m d) (k : B' ≤ B) : OwnR B' w v u m d := ⟨h.1.mono k, h.2.mono k⟩
/-- the call returns q, in new memory -/
def RetR (w : World) (q : Rat) (e : Ending) (w' : World) : Prop := ∃ b v u m d, e = .returned (.agg #[.bool b, v, u]) ∧ IsR w' b v u m d q ∧ OwnR w.heap.size w' v u m d ∧ Ext w w'
/-- the call returns q, and no error -/
def RetR0 (w : World) (q : Rat) (e : Ending) (w' : World) : Prop := ∃ b v u m d, e = .returned (.tuple #[.agg #[.bool b, v, u], .int .i64 0]) ∧ IsR w' b v u m d q ∧ OwnR w.heap.size w' v u m d ∧ Ext w w'
/-- the call is refused -/
def RetRE (w : World) (k : Int) (e : Ending) (w' : World) : Prop := e = .returned (.tuple #[.agg #[.bool false, .slice none 0 0, .slice none 0 0], .int .i64 k]) ∧ Ext w w'
/-- the call returns n, in new memory, by a number -/
def RetN (w : World) (n : Nat) (e : Ending) (w' : World) : Prop := ∃ v, e = .returned v ∧ OwnL w.heap.size w' v (dig n) ∧ Ext w w'
/-- the call returns z, in new memory -/
def RetZ (w : World) (z : Int) (e : Ending) (w' : World) : Prop := ∃ b v m, e = .returned (.agg #[.bool b, v]) ∧ IsI w' b v m z ∧ OwnL w.heap.size w' v (dig m) ∧ Ext w w'
theorem RetI.z {w w' : World} {z : Int} {e : Ending} (h : RetI w z e w') : RetZ w z e w' := by
  obtain ⟨v, rfl, h1, h2⟩ := h
  exact ⟨_, v, _, rfl, ⟨rfl, rfl, h1.limbs⟩, h1, h2⟩
end Go.Proofs.YtefeglkbikcjeaaGreatDoor

/- The law of drawn regions in the form in which a program prints its uses: one lemma for each kind of operation, and what is said of values. -/
namespace Go.Proofs.YtefeglkbikcjeaaGreatDoor
open Go Go.RowKit

theorem yielded_at {ops : Array Oper} {a : Act} {j : Nat} {b : Bool} (h : at_ ops a j = .bool b) : yielded ops a.tmps j = some b := by
  unfold at_ at h
  unfold yielded
  cases hd : (ops[j]?).bind (·.dst) with
  | none => rw [hd] at h; cases h
  | some d =>
    rw [hd] at h
    simp only [sl, Array.getD_eq_getD_getElem?] at h
    cases hg : a.tmps[d]? with
    | none => rw [hg] at h; cases h
    | some v =>
      rw [hg] at h
      simp only [Option.getD_some] at h
      subst h
      simp [hg]

section
variable {P : Program} {ops : Array Oper} {Q : Exit → Act → World → Prop} {p : Plan} {B : Nat} {a0 : Act} {w0 : World}
theorem Pre.get {i : Nat} {o : Oper} {a : Act} {w : World} (h : Pre ops p B a0 w0 i o a w) (j : Nat) (hj : (bindsOf o).contains j = true) (hs : p.st j = none) : (p.sp j).holds (at_ ops a j) w := h.post j (by simpa using hj) hs
theorem Pre.slot {i : Nat} {o : Oper} {a : Act} {w : World} (h : Pre ops p B a0 w0 i o a w) (k : Nat) {v : Value} (hk : p.D.contains k = false) (hv : sl a0 k = v) : a.tmps[k]?.getD undef = v := slot_of' h.ag (by simpa using hk) hv
theorem Pre.cell {i : Nat} {o : Oper} {a : Act} {w : World} (h : Pre ops p B a0 w0 i o a w) (k : Nat) {s f : Nat} {u : Value} (hk : p.keep[k]? = some (s, f, u)) : w.cell? ⟨s, f, none⟩ = some u := h.keep.get k hk
/-- a cell of a box that is stored into later on -/
theorem Pre.ocell {i : Nat} {o : Oper} {a : Act} {w : World} (h : Pre ops p B a0 w0 i o a w) (j k : Nat) {s c r : Nat} {u : Value} {f : Nat} (hn : j < ops.size) (hj : p.st j = some (.old c, r)) (hd : (j == i || dep ops ops.size j i) = true) (hk : (cellsOld p.ob c)[k]? = some (s, f, u)) : w.cell? ⟨s, f, none⟩ = some u :=
  (h.old j c r hn hj (by simpa using hd)).get k hk

theorem RStep.op {i : Nat} {o : Oper} (hst : p.st i = none) (hg : o.guard = none)
    (h : ∀ a w, Pre ops p B a0 w0 i o a w → ∀ K : Act → World → Prop, Hid (∀ v w', (p.sp i).holds v w' → Ext w w' → (p.fr i = true → blkOf v = w.heap.size) → K (a.put o.dst v) w') → Oper.wp P o a w K Q) :
    RStep P ops Q p B a0 w0 i o := by
  intro ho a w hp
  rw [hst]
  refine wpOp_step ho fun K hK => ?_
  rw [if_pos (by unfold Region.wanted; rw [hg])]
  exact h a w hp K (Lib.hid fun v w' h1 h2 h3 => hK _ _ ⟨v, rfl, h1, h2, h3⟩)
theorem RStep.yes {i : Nat} {o : Oper} (g : Nat) (b : Bool) (hst : p.st i = none) (hg : o.guard = some (g, b)) (hgp : (bindsOf o).contains g = true) (hgs : p.st g = none) (hgv : p.sp g = Sg.val (.bool b))
    (h : ∀ a w, Pre ops p B a0 w0 i o a w → ∀ K : Act → World → Prop, Hid (∀ v w', (p.sp i).holds v w' → Ext w w' → (p.fr i = true → blkOf v = w.heap.size) → K (a.put o.dst v) w') → Oper.wp P o a w K Q) :
    RStep P ops Q p B a0 w0 i o := by
  intro ho a w hp
  rw [hst]
  have hy := hp.get g hgp hgs
  rw [hgv] at hy
  have hy' := yielded_at hy
  refine wpOp_step ho fun K hK => ?_
  rw [if_pos (by unfold Region.wanted; rw [hg]; simp [hy'])]
  exact h a w hp K (Lib.hid fun v w' h1 h2 h3 => hK _ _ ⟨v, rfl, h1, h2, h3⟩)
theorem RStep.no {i : Nat} {o : Oper} (g : Nat) (b : Bool) (hst : p.st i = none) (hg : o.guard = some (g, b)) (hgp : (bindsOf o).contains g = true) (hgs : p.st g = none) (hgv : p.sp g = Sg.val (.bool (!b)) ∨ p.sp g = Sg.val undef)
    (hs : p.sp i = Sg.val undef) (hf : p.fr i = false) : RStep P ops Q p B a0 w0 i o := by
  intro ho a w hp
  rw [hst]
  have hy := hp.get g hgp hgs
  have hn : yielded ops a.tmps g ≠ some b := by
    rcases hgv with hgv | hgv
    · rw [hgv] at hy
      rw [yielded_at hy]
      cases b <;> simp
    · rw [hgv] at hy
      have hy : at_ ops a g = undef := hy
      unfold at_ at hy
      unfold yielded
      cases hd : (ops[g]?).bind (·.dst) with
      | none => simp
      | some d =>
        rw [hd] at hy
        simp only [sl, Array.getD_eq_getD_getElem?] at hy
        cases hg' : a.tmps[d]? with
        | none => simp [hg']
        | some v =>
          rw [hg'] at hy
          simp only [Option.getD_some] at hy
          subst hy
          simp [hg', undef]
  refine wpOp_step ho fun K hK => ?_
  rw [if_neg (by unfold Region.wanted; rw [hg]; simp [hn])]
  exact hK _ _ ⟨undef, rfl, by rw [hs]; rfl, Ext.refl _, fun h => by rw [hf] at h; cases h⟩
/-- a store into a box that the region made -/
theorem RStep.st {i : Nat} {o : Oper} (j k : Nat) (hst : p.st i = some (.op j, k)) (hg : o.guard = none)
    (h : ∀ a w, Pre ops p B a0 w0 i o a w → ∃ s n cs, at_ ops a j = .pointer (some ⟨s, 0, none⟩) ∧ Bx n s w ∧ (at_ ops a k).cells.toList = cs ∧ cs.length = n ∧ (∀ u ∈ cs, NoI u) ∧
      ∀ K : Act → World → Prop, K a (setRow s 0 cs w) → Oper.wp P o a w K Q) :
    RStep P ops Q p B a0 w0 i o := by
  intro ho a w hp
  rw [hst]
  obtain ⟨s, n, cs, h1, h2, h4, h5, h6, h7⟩ := h a w hp
  have e : (BoxRef.op j).blk ops a p.ob = s := by show blkOf _ = _; rw [h1]; rfl
  show ∃ n cs, Bx n ((BoxRef.op j).blk ops a p.ob) w ∧ _
  rw [e]
  refine ⟨n, cs, h2, h4, h5, h6, wpOp_step ho fun K hK => ?_⟩
  rw [if_pos (by unfold Region.wanted; rw [hg])]
  exact h7 K (hK _ _ ⟨rfl, rfl⟩)
/-- a store into a box that was there -/
theorem RStep.so {i : Nat} {o : Oper} (m k s : Nat) (hst : p.st i = some (.old m, k)) (hg : o.guard = none) (hs : ((p.ob[m]?).map (·.1)).getD 0 = s)
    (h : ∀ a w, Pre ops p B a0 w0 i o a w → ∃ n cs, Bx n s w ∧ (at_ ops a k).cells.toList = cs ∧ cs.length = n ∧ (∀ u ∈ cs, NoI u) ∧
      ∀ K : Act → World → Prop, K a (setRow s 0 cs w) → Oper.wp P o a w K Q) :
    RStep P ops Q p B a0 w0 i o := by
  intro ho a w hp
  rw [hst]
  obtain ⟨n, cs, h2, h4, h5, h6, h7⟩ := h a w hp
  have e : (BoxRef.old m).blk ops a p.ob = s := hs
  show ∃ n cs, Bx n ((BoxRef.old m).blk ops a p.ob) w ∧ _
  rw [e]
  refine ⟨n, cs, h2, h4, h5, h6, wpOp_step ho fun K hK => ?_⟩
  rw [if_pos (by unfold Region.wanted; rw [hg])]
  exact h7 K (hK _ _ ⟨rfl, rfl⟩)
end

theorem Mg.boxOp {ops : Array Oper} {p : Plan} {B : Nat} {a0 a : Act} {w0 w : World} {L : Array Bool} (hM : Mg ops p B a0 w0 L a w) (i j k : Nat) {s : Nat} (hst : p.st i = some (.op j, k)) (hl : L.getD i false = true) (hj : at_ ops a j = .pointer (some ⟨s, 0, none⟩))
    {cs : List Value} (hk : (at_ ops a k).cells.toList = cs) (o : Nat) (u : Value) (hu : cs[o]? = some u) : At s o u w := by
  have h := hM.boxed i _ k hst hl o u (by rw [hk]; exact hu)
  have e : (BoxRef.op j).blk ops a p.ob = s := by show blkOf _ = _; rw [hj]; rfl
  rwa [e] at h
theorem Mg.boxOld {ops : Array Oper} {p : Plan} {B : Nat} {a0 a : Act} {w0 w : World} {L : Array Bool} (hM : Mg ops p B a0 w0 L a w) (i m k : Nat) {s : Nat} (hst : p.st i = some (.old m, k)) (hl : L.getD i false = true) (hs : ((p.ob[m]?).map (·.1)).getD 0 = s)
    {cs : List Value} (hk : (at_ ops a k).cells.toList = cs) (o : Nat) (u : Value) (hu : cs[o]? = some u) : At s o u w := by
  have h := hM.boxed i _ k hst hl o u (by rw [hk]; exact hu)
  have e : (BoxRef.old m).blk ops a p.ob = s := hs
  rwa [e] at h

def Sg.int (z : Int) : Sg := ⟨fun v w => ∃ b p n c m, v = .agg #[.bool b, .slice p n c] ∧ IsI w b (.slice p n c) m z, fun _ _ _ ⟨b, p, n, c, m, h, i⟩ x => ⟨b, p, n, c, m, h, i.gr x⟩⟩
def Sg.intO (B : Nat) (z : Int) : Sg := ⟨fun v w => ∃ b p n c m, v = .agg #[.bool b, .slice p n c] ∧ IsI w b (.slice p n c) m z ∧ OwnL B w (.slice p n c) (dig m), fun _ _ _ ⟨b, p, n, c, m, h, i, j⟩ x => ⟨b, p, n, c, m, h, i.gr x, j.gr x⟩⟩
def Sg.rat (q : Rat) : Sg := ⟨fun v w => ∃ b p n c p' n' c' m d, v = .agg #[.bool b, .slice p n c, .slice p' n' c'] ∧ IsR w b (.slice p n c) (.slice p' n' c') m d q, fun _ _ _ ⟨b, p, n, c, p', n', c', m, d, h, i⟩ x => ⟨b, p, n, c, p', n', c', m, d, h, i.gr x⟩⟩
def Sg.ratO (B : Nat) (q : Rat) : Sg := ⟨fun v w => ∃ b p n c p' n' c' m d, v = .agg #[.bool b, .slice p n c, .slice p' n' c'] ∧ IsR w b (.slice p n c) (.slice p' n' c') m d q ∧ OwnR B w (.slice p n c) (.slice p' n' c') m d, fun _ _ _ ⟨b, p, n, c, p', n', c', m, d, h, i, j⟩ x => ⟨b, p, n, c, p', n', c', m, d, h, i.gr x, j.gr x⟩⟩
def Sg.nat (k : Nat) : Sg := ⟨fun v w => ∃ p n c, v = .slice p n c ∧ Limbs w (.slice p n c) (dig k), fun _ _ _ ⟨p, n, c, h, i⟩ x => ⟨p, n, c, h, i.gr x⟩⟩
def Sg.natO (B k : Nat) : Sg := ⟨fun v w => ∃ p n c, v = .slice p n c ∧ OwnL B w (.slice p n c) (dig k), fun _ _ _ ⟨p, n, c, h, i⟩ x => ⟨p, n, c, h, i.gr x⟩⟩
/-- limbs with a sign, as they came in, in memory of the region's own -/
def Sg.copy (B : Nat) (b : Bool) (A : List Nat) : Sg := ⟨fun v w => ∃ p n c, v = .agg #[.bool b, .slice p n c] ∧ OwnL B w (.slice p n c) A, fun _ _ _ ⟨p, n, c, h, i⟩ x => ⟨p, n, c, h, i.gr x⟩⟩
def Sg.two (S T : Sg) : Sg := ⟨fun v w => ∃ x y, v = .tuple #[x, y] ∧ S.holds x w ∧ T.holds y w, fun _ _ _ ⟨x, y, h, i, j⟩ g => ⟨x, y, h, S.mono _ _ _ i g, T.mono _ _ _ j g⟩⟩
def Sg.three (S T U : Sg) : Sg := ⟨fun v w => ∃ x y z, v = .tuple #[x, y, z] ∧ S.holds x w ∧ T.holds y w ∧ U.holds z w, fun _ _ _ ⟨x, y, z, h, i, j, k⟩ g => ⟨x, y, z, h, S.mono _ _ _ i g, T.mono _ _ _ j g, U.mono _ _ _ k g⟩⟩

theorem Bx.new {w : World} {C : Array Value} {t : TypeId} (n : Nat) (hn : C.size = n ∧ n ≤ 3) (ht : t ∉ notBox) (hc : ∀ u ∈ C.toList, NoI u) : Bx n w.heap.size (w.alloc (.cells C t)) :=
  ⟨C, t, heap_alloc_new w _, hn, ht, fun _ _ hu => hc _ (List.mem_of_getElem? (by rw [Array.getElem?_toList]; exact hu))⟩
theorem Bx.n0 {w : World} {C : Array Value} {t : TypeId} (n : Nat) (hn : C.size = n ∧ n ≤ 3) (ht : t ∉ notBox) (hc : ∀ u ∈ C.toList, NoI u) : Bx n w.heap.size (w.alloc (.cells C t)) := Bx.new n hn ht hc
theorem Bx.n1 {w : World} {x1 : Obj} {C : Array Value} {t : TypeId} (n : Nat) (hn : C.size = n ∧ n ≤ 3) (ht : t ∉ notBox) (hc : ∀ u ∈ C.toList, NoI u) : Bx n (w.heap.size + 1) ((w.alloc x1).alloc (.cells C t)) := by
  have := Bx.n0 (w := w.alloc x1) n hn ht hc; simpa using this
theorem Bx.n2 {w : World} {x1 x2 : Obj} {C : Array Value} {t : TypeId} (n : Nat) (hn : C.size = n ∧ n ≤ 3) (ht : t ∉ notBox) (hc : ∀ u ∈ C.toList, NoI u) : Bx n (w.heap.size + 1 + 1) (((w.alloc x1).alloc x2).alloc (.cells C t)) := by
  have := Bx.n1 (w := w.alloc x1) (x1 := x2) n hn ht hc; simpa using this
theorem Bx.n3 {w : World} {x1 x2 x3 : Obj} {C : Array Value} {t : TypeId} (n : Nat) (hn : C.size = n ∧ n ≤ 3) (ht : t ∉ notBox) (hc : ∀ u ∈ C.toList, NoI u) : Bx n (w.heap.size + 1 + 1 + 1) ((((w.alloc x1).alloc x2).alloc x3).alloc (.cells C t)) := by
  have := Bx.n2 (w := w.alloc x1) (x1 := x2) (x2 := x3) n hn ht hc; simpa using this
theorem noI_int (b : Bool) (v : Value) (h : NoI v) : ∀ u ∈ [Value.bool b, v], NoI u := by intro u hu; simp at hu; rcases hu with rfl | rfl; exact trivial; exact h
theorem noI_rat (b : Bool) (v u : Value) (h : NoI v) (k : NoI u) : ∀ x ∈ [Value.bool b, v, u], NoI x := by intro x hx; simp at hx; rcases hx with rfl | rfl | rfl; exact trivial; exact h; exact k
theorem noI_s2 {b : Bool} {p : Option Addr} {n c : Nat} : ∀ u ∈ [Value.bool b, .slice p n c], NoI u := noI_int _ _ trivial
theorem noI_s3 {b : Bool} {p q : Option Addr} {n c m d : Nat} : ∀ u ∈ [Value.bool b, .slice p n c, .slice q m d], NoI u := noI_rat _ _ _ trivial trivial
theorem setRow_bx' {n s o : Nat} {w : World} (h : Bx n s w) {cs : List Value} (hl : o + cs.length ≤ n) (hc : ∀ u ∈ cs, NoI u) :
    Bx n s (setRow s o cs w) ∧ (∀ j u, cs[j]? = some u → At s (o + j) u (setRow s o cs w)) ∧ (∀ j u, j < o ∨ o + cs.length ≤ j → At s j u w → At s j u (setRow s o cs w)) := by
  obtain ⟨cur, t, h1, ⟨h2, h2b⟩, h3, h4⟩ := h
  obtain ⟨cur', e1, e2, e3, e4, e5⟩ := setRow_row s cs o w cur t h1 (by omega)
  have hsz := (Array.getElem?_eq_some_iff.1 e1).1
  refine ⟨⟨cur', t, e1, ⟨by omega, h2b⟩, h3, fun j u hu => ?_⟩, fun j u hu => ⟨?_, hsz⟩, fun j u hj hu => ⟨?_, hsz⟩⟩
  · rcases Nat.lt_or_ge j o with g | g
    · rw [e3 j g] at hu; exact h4 j u hu
    · rcases Nat.lt_or_ge j (o + cs.length) with g2 | g2
      · have := e4 (j - o) (by omega)
        rw [show o + (j - o) = j by omega, hu] at this
        exact hc u (List.mem_of_getElem? this.symm)
      · rw [e5 j g2] at hu; exact h4 j u hu
  · have hlt : j < cs.length := (List.getElem?_eq_some_iff.1 hu).1
    have := e4 j hlt
    rw [hu] at this
    simp [World.cell?, e1, this]
  · have hu := hu.1
    simp only [World.cell?, h1, Option.isSome_none, Bool.false_eq_true, if_false] at hu
    simp only [World.cell?, e1, Option.isSome_none, Bool.false_eq_true, if_false]
    rcases hj with g | g
    · rw [e3 j g]; exact hu
    · rw [e5 j g]; exact hu
theorem setRow_gr' {n s o : Nat} {w : World} (h : Bx n s w) {cs : List Value} (hl : o + cs.length ≤ n) (hc : ∀ u ∈ cs, NoI u) : Gr w (setRow s o cs w) := by
  refine ⟨by rw [setRow_size]; exact Nat.le_refl _, fun b _ => ?_⟩
  by_cases e : b = s
  · subst e; exact .inr ⟨n, h, (setRow_bx' h hl hc).1⟩
  · exact .inl (setRow_other s b e cs o w)
theorem noI_1 {p : Option Addr} {n c : Nat} : ∀ u ∈ [Value.slice p n c], NoI u := by intro u hu; simp at hu; subst hu; trivial
theorem noI_b {b : Bool} : ∀ u ∈ [Value.bool b], NoI u := by intro u hu; simp at hu; subst hu; trivial
end Go.Proofs.YtefeglkbikcjeaaGreatDoor

/- The contract of quo.Gcd. -/
namespace Go.Proofs.YtefeglkbikcjeaaGreatDoor
open Go Go.RowKit

theorem Limbs.uniq {w : World} {v : Value} {A B : List Nat} (h : Limbs w v A) (k : Limbs w v B) : A = B := by
  obtain ⟨a, c, h1, -, -, h2⟩ := h.open
  obtain ⟨a', c', k1, -, -, k2⟩ := k.open
  rw [h1] at k1
  injection k1 with e1 e2 e3
  subst e1
  refine List.ext_getElem e2 fun i hi hj => ?_
  obtain ⟨b, o, hb, -, hc⟩ := h2 i hi
  obtain ⟨b', o', hb', -, hc'⟩ := k2 i hj
  rw [hb] at hb'
  injection hb' with hb'
  injection hb' with g1 g2
  subst g1
  subst g2
  have e := hc i hi
  rw [hc' i hj] at e
  injection e with e
  injection e with _ e
  rw [el_of_lt hi, el_of_lt hj] at e
  omega
/-- the number that limbs in memory stand for -/
noncomputable def valOf (w : World) (v : Value) : Nat := @dite _ (∃ A, Limbs w v A) (Classical.propDecidable _) (fun h => val (Classical.choose h)) (fun _ => 0)
theorem valOf_eq {w : World} {v : Value} {A : List Nat} (h : Limbs w v A) : valOf w v = val A := by
  have hh : ∃ A, Limbs w v A := ⟨A, h⟩
  unfold valOf
  rw [dif_pos hh, (Classical.choose_spec hh).uniq h]
theorem dig_len_val {A : List Nat} (hA : ∀ x ∈ A, x < Bs) {n : Nat} (h : n ≤ val A) {k : Nat} (hk : A.length ≤ k) : (dig n).length ≤ k :=
  Nat.le_trans (dig_len_le (Nat.lt_of_le_of_lt h (val_lt hA))) hk
theorem dig_one_le {n : Nat} (h : n ≠ 0) : 0 < (dig n).length := by
  rw [dig_pos h]; simp

/-- a quotient and what is left, of a divisor that is not 0 -/
theorem quodiv_nz {w : World} {v u : Value} {A B : List Nat} (hA : Limbs w v A) (hB : Limbs w u B) (hlA : A.length ≤ 65536) (hlB : B.length ≤ 65536) {a b : Nat} (ha : val A = a) (hb : val B = b) (h : b ≠ 0) :
    Calls Tryz.prog 73 #[v, u] w fun e w' => ∃ q r, e = .returned (.tuple #[q, r, .int .i64 0]) ∧ OwnL w.heap.size w' q (dig (a / b)) ∧ OwnL w.heap.size w' r (dig (a % b)) ∧ Ext w w' := by
  subst ha hb
  refine (quodiv_calls hA hB hlA hlB).mono ?_
  rintro e w' ⟨q, r, rfl, h1, h2, h3⟩
  rw [if_neg h] at h1 h2
  exact ⟨q, r, by rw [if_neg h], h1, h2, h3⟩

set_option maxHeartbeats 2000000 in
set_option maxRecDepth 100000 in
theorem gcd_calls {w : World} {v u : Value} {A B : List Nat} (hA : Limbs w v A) (hB : Limbs w u B) (hlA : A.length ≤ 65536) (hlB : B.length ≤ 65536) :
    Calls Tryz.prog 157 #[v, u] w (RetNat w ((val A).gcd (val B))) := by
  have HL : Hid (∀ n, n ≤ val A ∨ n ≤ val B → (dig n).length ≤ 65536) := fun n h => h.elim (fun h => dig_len_val hA.2 h hlA) (fun h => dig_len_val hB.2 h hlB)
  obtain ⟨G, hG⟩ : ∃ G, (val A).gcd (val B) = G := ⟨_, rfl⟩
  rw [hG]
  have HG := Lib.hid hG
  have h1 := lmax_16 hlA
  have h2 := lmax_16 hlB
  have H1 := Lib.hid h1
  have H2 := Lib.hid h2
  obtain ⟨a0, ha0⟩ : ∃ a, val A = a := ⟨_, rfl⟩
  obtain ⟨b0, hb0⟩ : ∃ b, val B = b := ⟨_, rfl⟩
  have HA0 := Lib.hid ha0
  have HB0 := Lib.hid hb0
  clear hG hlA hlB h1 h2 ha0 hb0
  go_enter Tryz.func157, Tryz.ntmps157
  go_wp2_with fail
  refine wp_scope_jumps 0 (fun a' w' => ∃ (a b : Nat) (v0 v1 u2 u3 u5 u6 u7 u8 u9 u10 u11 u12 u13 u14 u15 u16 u17 u18 u19 u20 u21 u22 u23 u24 : Value), a' = { tmps := #[v0, v1, u2, u3, .slice none 0 0, u5, u6, u7, u8, u9, u10, u11, u12, u13, u14, u15, u16, u17, u18, u19, u20, u21, u22, u23, u24], defers := [] } ∧
    OwnL w.heap.size w' v0 (dig a) ∧ OwnL w.heap.size w' v1 (dig b) ∧ a.gcd b = G ∧ (a ≤ val A ∨ a ≤ val B) ∧ (b ≤ val A ∨ b ≤ val B) ∧ Ext w w') (fun a' w' => valOf w' (a'.tmps.getD 1 undef)) rfl ?_ ?_
  · go_wp2_with fail
    refine (trim_calls hA H1.out).mono ?_
    rintro e w1 ⟨v0, rfl, h0, x1⟩
    go_wp2_with fail
    refine (trim_calls (hB.ext x1) H2.out).mono ?_
    rintro e w2 ⟨v1, rfl, h1, x2⟩
    have hx := x1.trans x2
    have h0 := (h0.ext x2)
    have h1 := h1.mono x1.size
    rw [HA0.out] at h0
    rw [HB0.out] at h1
    by_cases hb : b0 = 0
    · subst hb
      rw [dig_zero] at h1
      obtain ⟨p1, c1, rfl, k1, k2, k3⟩ := h1.limbs.open
      clear k1 k2 k3
      go_wp2_with fail
      go_step3
      go_wp2_with fail
      simp only [Exit.jump]
      go_ret
      exact ⟨_, rfl, by rw [← HG.out, HA0.out, HB0.out, Nat.gcd_zero_right]; exact h0, hx⟩
    · have hp := dig_one_le hb
      obtain ⟨p1, c1, rfl, k1, k2, k3⟩ := h1.limbs.open
      clear k1 k2 k3
      have HB := Lib.hid hb
      clear hb
      go_wp2_with fail
      go_step3
      go_wp2_with fail
      refine (quodiv_nz h0.limbs h1.limbs (HL.out _ (.inl (by rw [HA0.out]; exact Nat.le_refl _))) (HL.out _ (.inr (by rw [HB0.out]; exact Nat.le_refl _))) (val_dig _) (val_dig _) HB.out).mono ?_
      rintro e w3 ⟨q, r, rfl, -, hr, x3⟩
      go_wp2_with fail
      go_step3
      refine ⟨rfl, b0, a0 % b0, _, _, _, _, _, _, _, _, _, _, _, _, _, _, _, _, _, _, _, _, _, _, _, _, rfl, h1.ext x3, hr.mono hx.size, ?_, .inr (by rw [HB0.out]; exact Nat.le_refl _), .inr (by rw [HB0.out]; exact Nat.le_of_lt (Nat.mod_lt _ (Nat.pos_of_ne_zero HB.out))), hx.trans x3⟩
      rw [gcd_step, ← HG.out, HA0.out, HB0.out]
  · rintro a' w' ⟨a, b, v0, v1, u2, u3, u5, u6, u7, u8, u9, u10, u11, u12, u13, u14, u15, u16, u17, u18, u19, u20, u21, u22, u23, u24, rfl, h0, h1, hg, hla, hlb, hx⟩
    have HGG := Lib.hid hg
    have HLA := Lib.hid hla
    have HLB := Lib.hid hlb
    clear hg hla hlb
    by_cases hb : b = 0
    · subst hb
      rw [dig_zero] at h1
      obtain ⟨p1, c1, rfl, k1, k2, k3⟩ := h1.limbs.open
      clear k1 k2 k3
      go_wp2_with fail
      simp only [Exit.jump]
      go_ret
      exact ⟨_, rfl, by rw [← HGG.out, Nat.gcd_zero_right]; exact h0, hx⟩
    · have hp := dig_one_le hb
      obtain ⟨p1, c1, rfl, k1, k2, k3⟩ := h1.limbs.open
      clear k1 k2 k3
      have HB := Lib.hid hb
      clear hb
      go_wp2_with fail
      refine (quodiv_nz h0.limbs h1.limbs (HL.out _ HLA.out) (HL.out _ HLB.out) (val_dig _) (val_dig _) HB.out).mono ?_
      rintro e w3 ⟨q, r, rfl, -, hr, x3⟩
      go_wp2_with fail
      go_step3
      have hl : a % b < b := Nat.mod_lt _ (Nat.pos_of_ne_zero HB.out)
      refine ⟨rfl, ⟨b, a % b, _, _, _, _, _, _, _, _, _, _, _, _, _, _, _, _, _, _, _, _, _, _, _, _, rfl, h1.ext x3, hr.mono hx.size, ?_, HLB.out, HLB.out.imp (fun h => Nat.le_trans (Nat.le_of_lt hl) h) (fun h => Nat.le_trans (Nat.le_of_lt hl) h), hx.trans x3⟩, ?_⟩
      · rw [gcd_step, HGG.out]
      · show valOf _ r < valOf _ (.slice p1 (dig b).length c1)
        rw [valOf_eq hr.limbs, valOf_eq h1.limbs, val_dig, val_dig]
        exact hl
end Go.Proofs.YtefeglkbikcjeaaGreatDoor

/- Small facts for the walks of fractions. -/
namespace Go.Proofs.YtefeglkbikcjeaaGreatDoor
open Go Go.RowKit

/-- a natural in any way, of no more than k limbs -/
def InN (w : World) (u : Value) (k n : Nat) : Prop := ∃ B, Limbs w u B ∧ val B = n ∧ B.length ≤ k
theorem InN.ext {w w' : World} {u : Value} {k n : Nat} (h : InN w u k n) (x : Ext w w') : InN w' u k n := by obtain ⟨B, h1, h2⟩ := h; exact ⟨B, h1.ext x, h2⟩
theorem InN.gr {w w' : World} {u : Value} {k n : Nat} (h : InN w u k n) (x : Gr w w') : InN w' u k n := by obtain ⟨B, h1, h2⟩ := h; exact ⟨B, h1.gr x, h2⟩
theorem InN.lt {w : World} {u : Value} {k n : Nat} (h : InN w u k n) : n < Bs ^ k := by
  obtain ⟨B, h1, h2, h3⟩ := h
  rw [← h2]
  exact Nat.lt_of_lt_of_le (val_lt h1.2) (Nat.pow_le_pow_right Bs_pos h3)
theorem Limbs.inN {w : World} {u : Value} {k n : Nat} (h : Limbs w u (dig n)) (hk : n < Bs ^ k) : InN w u k n := ⟨dig n, h, val_dig n, dig_len_le hk⟩
theorem InI.mag {w : World} {b : Bool} {v : Value} {k : Nat} {z : Int} (h : InI w b v k z) : InN w v k z.natAbs := by
  obtain ⟨A, h1, rfl, h3⟩ := h; exact ⟨A, h1, (iv_abs b A).symm, h3⟩
theorem IsI.mag {w : World} {b : Bool} {v : Value} {m : Nat} {z : Int} (h : IsI w b v m z) : Limbs w v (dig z.natAbs) := by rw [h.2.1]; exact h.2.2
theorem inN_nil (w : World) : InN w (.slice none 0 0) 1 0 := ⟨[], Limbs.nil w, rfl, Nat.zero_le _⟩
theorem limbs0 (w : World) : Limbs w (.slice none 0 0) (dig 0) := by rw [dig_zero]; exact Limbs.nil w
theorem len0 : 0 < Bs ^ 1 := Nat.pow_pos Bs_pos
theorem inR_zero (w : World) : InR w false (.slice none 0 0) (.slice none 0 0) 1 0 := ⟨[], [], Limbs.nil w, Limbs.nil w, by rw [show val [] = 0 from rfl, Rat.mkRat_zero], by simp, by simp, Nat.le_refl _⟩
theorem one_len : 1 < Bs ^ 1 := one_lt_pow (by decide)
theorem lt_mul {a b k l : Nat} (h1 : a < Bs ^ k) (h2 : b < Bs ^ l) : a * b < Bs ^ (k + l) := by rw [Nat.pow_add]; exact Nat.mul_lt_mul'' h1 h2
theorem div_lt {a b k : Nat} (h1 : a < Bs ^ k) : a / b < Bs ^ k := Nat.lt_of_le_of_lt (Nat.div_le_self _ _) h1
theorem gcd_lt {a b k : Nat} (h1 : b < Bs ^ k) (h0 : b ≠ 0) : Nat.gcd a b < Bs ^ k := Nat.lt_of_le_of_lt (Nat.gcd_le_right _ (Nat.pos_of_ne_zero h0)) h1
theorem LenI.by {k l m : Nat} {z : Int} (h1 : LenI k z) (h2 : m < Bs ^ l) : LenI (k + l) (z * (m : Nat)) := LenI.mul h1 (by unfold LenI; simpa using h2)
/-- a number of a size, below 0 or not -/
def sgI (b : Bool) (n : Nat) : Int := if b then -(n : Int) else n
theorem sgI_abs (b : Bool) (n : Nat) : (sgI b n).natAbs = n := by unfold sgI; split <;> omega
theorem LenI.sg {k n : Nat} {b : Bool} (h : n < Bs ^ k) : LenI k (sgI b n) := by unfold LenI; rw [sgI_abs]; exact h
theorem isR_mk {w : World} {b : Bool} {v u : Value} {m d : Nat} {q : Rat} (h1 : IsI w b v m q.num) (h2 : Limbs w u (dig d)) (h3 : d = q.den) : IsR w b v u m d q := ⟨h1.1, h1.2.1, h3.symm, h1.2.2, h2⟩
theorem InR.mk {w : World} {b : Bool} {v u : Value} {k l m n : Nat} {z : Int} {q : Rat} (h1 : InI w b v k z) (h2 : InN w u l n) (hq : mkRat z n = q) (hk : k ≤ m) (hl : l ≤ m) (hm : 1 ≤ m) : InR w b v u m q := by
  obtain ⟨A, a1, rfl, a3⟩ := h1
  obtain ⟨B, b1, rfl, b3⟩ := h2
  exact ⟨A, B, a1, b1, hq, Nat.le_trans a3 hk, Nat.le_trans b3 hl, hm⟩
theorem OwnL.slice' {B : Nat} {w : World} {v : Value} {A : List Nat} (h : OwnL B w v A) : ∃ a n c, v = .slice a n c := by
  obtain ⟨a, c, h, -⟩ := h.limbs.open; exact ⟨a, _, c, h⟩
theorem lmax_17 {n : Nat} (h : n ≤ 65535) : n ≤ Lmax := by rw [Lmax_def]; omega

theorem wmake_is {w : World} {v : Value} {k n : Nat} {z : Int} (h : InN w v k n) (b : Bool) (hk : k ≤ 65535) (hz : sgI b n = z) : Calls Tryz.prog 70 #[.bool b, v] w (RetZ w z) := by
  obtain ⟨A, h1, rfl, h3⟩ := h
  subst hz
  exact (make_calls h1 (by omega) b).mono fun _ _ h => h.z
theorem nzero_n {w : World} {v : Value} {k n : Nat} (h : InN w v k n) (hk : k ≤ 65535) (b : Bool) (hb : decide (n = 0) = b) : Calls Tryz.prog 74 #[v] w fun e w' => e = .returned (.bool b) ∧ Ext w w' := by
  obtain ⟨A, h1, rfl, h3⟩ := h
  exact zero_ext h1 (by omega) b hb
theorem gcd_n {w : World} {v u : Value} {k l m n : Nat} (h : InN w v k m) (g : InN w u l n) (hk : k ≤ 65535) (hl : l ≤ 65535) : Calls Tryz.prog 157 #[v, u] w (RetNat w (Nat.gcd m n)) := by
  obtain ⟨A, h1, rfl, h3⟩ := h
  obtain ⟨B, g1, rfl, g3⟩ := g
  exact gcd_calls h1 g1 (by omega) (by omega)
theorem div_n {w : World} {v u : Value} {k l m n : Nat} (h : InN w v k m) (g : InN w u l n) (hk : k ≤ 65535) (hl : l ≤ 65535) (h0 : n ≠ 0) : Calls Tryz.prog 73 #[v, u] w fun e w' => ∃ q r, e = .returned (.tuple #[q, r, .int .i64 0]) ∧ OwnL w.heap.size w' q (dig (m / n)) ∧ OwnL w.heap.size w' r (dig (m % n)) ∧ Ext w w' := by
  obtain ⟨A, h1, h2, h3⟩ := h
  obtain ⟨B, g1, g2, g3⟩ := g
  exact quodiv_nz h1 g1 (by omega) (by omega) h2 g2 h0
theorem nmul_n {w : World} {v u : Value} {k l m n : Nat} (h : InN w v k m) (g : InN w u l n) (hk : k + l ≤ 65535) : Calls Tryz.prog 72 #[v, u] w (RetNat w (m * n)) := by
  obtain ⟨A, h1, rfl, h3⟩ := h
  obtain ⟨B, g1, rfl, g3⟩ := g
  exact natmul_calls h1 g1 (by rw [Lmax_def]; omega)
theorem wadd_z {w : World} {b1 b2 : Bool} {v u : Value} {k l : Nat} {x y : Int} (hx : InI w b1 v k x) (hy : InI w b2 u l y) (hk : k ≤ 65535) (hl : l ≤ 65535) :
    Calls Tryz.prog 13 #[.agg #[.bool b1, v], .agg #[.bool b2, u]] w (RetZ w (x + y)) := by
  obtain ⟨A, a1, rfl, a3⟩ := hx
  obtain ⟨B, c1, rfl, c3⟩ := hy
  exact (iadd_calls a1 c1 (by omega) (by omega) b1 b2).mono fun _ _ h => h.z
theorem wmul_z {w : World} {b1 b2 : Bool} {v u : Value} {k l : Nat} {x y : Int} (hx : InI w b1 v k x) (hy : InI w b2 u l y) (hk : k + l ≤ 65535) :
    Calls Tryz.prog 15 #[.agg #[.bool b1, v], .agg #[.bool b2, u]] w (RetZ w (x * y)) := by
  obtain ⟨A, a1, rfl, a3⟩ := hx
  obtain ⟨B, c1, rfl, c3⟩ := hy
  exact (imul_calls a1 c1 (by omega) b1 b2).mono fun _ _ h => h.z
theorem wneg_z {w : World} {b1 : Bool} {v : Value} {k : Nat} {x : Int} (hx : InI w b1 v k x) (hk : k ≤ 65535) :
    Calls Tryz.prog 12 #[.agg #[.bool b1, v]] w (RetZ w (-x)) := by
  obtain ⟨A, a1, rfl, a3⟩ := hx
  exact (neg_calls a1 (by omega) b1).mono fun _ _ h => h.z
theorem wof_z (w : World) (n : Int) (h1 : -9223372036854775808 ≤ n) (h2 : n ≤ 9223372036854775807) : Calls Tryz.prog 58 #[.int .i64 n] w (RetZ w n) :=
  (iof_calls w n h1 h2).mono fun _ _ h => h.z
theorem lenN_raw {w : World} {v : Value} {A : List Nat} {k : Nat} (h : Limbs w v A) (hk : A.length ≤ k) : val A < Bs ^ k := Nat.lt_of_lt_of_le (val_lt h.2) (Nat.pow_le_pow_right Bs_pos hk)
theorem lenI_raw {w : World} {v : Value} {A : List Nat} {k : Nat} {b : Bool} (h : Limbs w v A) (hk : A.length ≤ k) : LenI k (iv b A) := by unfold LenI; rw [iv_abs]; exact lenN_raw h hk
theorem lenR_zero : LenR 1 0 := ⟨by simpa using len0, one_lt_pow (by decide)⟩
theorem lenR_raw {w : World} {v u : Value} {A B : List Nat} {k : Nat} {b : Bool} {q : Rat} (h : Limbs w v A) (g : Limbs w u B) (hq : mkRat (iv b A) (val B) = q) (hk : A.length ≤ k) (hl : B.length ≤ k) (h1 : 1 ≤ k) : LenR k q :=
  InR.len ⟨A, B, h, g, hq, hk, hl, h1⟩
end Go.Proofs.YtefeglkbikcjeaaGreatDoor
