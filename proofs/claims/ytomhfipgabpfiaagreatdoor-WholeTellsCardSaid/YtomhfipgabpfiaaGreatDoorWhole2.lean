/- Contracts of package whole: Small, the ways of a sum, Add, Sub, Mul. -/
import Derived.Test.YtomhfipgabpfiaaGreatDoorWhole1
import Derived.Deep.RegionHeld3
namespace Go.Proofs.YtomhfipgabpfiaaGreatDoor
open Go Go.RowKit

theorem lmax_lt {n : Nat} (h : n ≤ 65536) : n < Lmax := by rw [Lmax_def]; omega

theorem small_ok {w : World} {v : Value} {A : List Nat} (hA : Limbs w v A) (hlen : A.length ≤ Lmax) (n : Int) (b : Bool) (hn : ((smallN (val A) : Nat) : Int) = n) (hb : decide (val A < Bs) = b) :
    Calls Tryz.prog 47 #[v] w fun e w' => e = .returned (.tuple #[.int .u64 n, .bool b]) ∧ w = w' :=
  (small_calls hA hlen).mono fun _ _ ⟨h1, h2⟩ => ⟨by rw [h1, hn, hb], h2⟩

/-- does a whole number fit into 64 bits? -/
def fitsI (z : Int) : Bool := decide (-9223372036854775808 ≤ z ∧ z ≤ 9223372036854775807)
def smallI (z : Int) : Int := if fitsI z then z else 0

set_option maxHeartbeats 1000000 in
set_option maxRecDepth 100000 in
theorem ismall_calls {w : World} {v : Value} {A : List Nat} (hA : Limbs w v A) (hl : A.length ≤ 65536) (neg : Bool) :
    Calls Tryz.prog 20 #[.agg #[.bool neg, v]] w fun e w' => e = .returned (.tuple #[.int .i64 (smallI (iv neg A)), .bool (fitsI (iv neg A))]) ∧ Ext w w' := by
  have HL := Lib.hid (lmax_16 hl)
  obtain ⟨pa, pc, rfl, -, -, -⟩ := hA.open
  have y0 := (Ext.refl w).alloc (.cells #[.bool neg, .slice pa A.length pc] 25)
  obtain ⟨n, hn⟩ : ∃ n, n = val A := ⟨_, rfl⟩
  have hiv : iv neg A = if neg then -(n : Int) else (n : Int) := by rw [hn]; rfl
  rw [hiv]
  clear hiv hl
  by_cases hB : n < Bs
  · have HN : Hid (((smallN (val A) : Nat) : Int) = (n : Int)) := by show _ = _; rw [← hn, smallN, if_pos hB]
    have HD : Hid (decide (val A < Bs) = true) := by show _ = _; rw [← hn]; simpa using hB
    have hBi : (n : Int) ≤ 18446744073709551615 := by rw [Bs_def] at hB; omega
    clear hn hB
    cases neg with
    | true =>
      by_cases h : (n : Int) ≤ 9223372036854775808
      · have HS : Hid (fitsI (-(n : Int)) = true) := by show _ = _; unfold fitsI; simp; omega
        have HV : Hid (wrap64 (IntKind.u64.wrap (-(n : Int))) = -(n : Int)) := by show _ = _; simp only [wrap64, IntKind.wrap_u64]; omega
        have h' : ¬ (9223372036854775808 : Int) < (n : Int) := by omega
        go_enter Tryz.func20, Tryz.ntmps20
        go_wp2_with fail
        refine (small_ok (hA.ext y0) HL.out _ _ HN.out HD.out).mono ?_
        rintro e w1 ⟨rfl, rfl⟩
        go_wp2_with fail
        go_ret2
        refine ⟨ret_eq ?_, y0⟩
        simp only [smallI]
        rw [HS.out]
        simp only [if_true]
        exact congrArg (fun z => Value.tuple #[.int .i64 z, .bool true]) HV.out
      · have HS : Hid (fitsI (-(n : Int)) = false) := by show _ = _; unfold fitsI; simp; omega
        have h' : (9223372036854775808 : Int) < (n : Int) := by omega
        go_enter Tryz.func20, Tryz.ntmps20
        go_wp2_with fail
        refine (small_ok (hA.ext y0) HL.out _ _ HN.out HD.out).mono ?_
        rintro e w1 ⟨rfl, rfl⟩
        go_wp2_with fail
        go_ret2
        refine ⟨ret_eq ?_, y0⟩
        simp only [smallI]
        rw [HS.out]; rfl
    | false =>
      have hz0 : 0 ≤ (n : Int) := Int.natCast_nonneg n
      simp only [Bool.false_eq_true, if_false]
      generalize (n : Int) = n at *
      by_cases h : n ≤ 9223372036854775807
      · have HS : Hid (fitsI n = true) := by show _ = _; unfold fitsI; simp; omega
        go_enter Tryz.func20, Tryz.ntmps20
        go_wp2_with fail
        refine (small_ok (hA.ext y0) HL.out _ _ HN.out HD.out).mono ?_
        rintro e w1 ⟨rfl, rfl⟩
        go_wp2_with fail
        go_ret2
        refine ⟨ret_eq ?_, y0⟩
        simp only [smallI]
        rw [HS.out]; rfl
      · have HS : Hid (fitsI n = false) := by show _ = _; unfold fitsI; simp; omega
        have h' : (9223372036854775808 : Int) ≤ n := by omega
        clear h
        go_enter Tryz.func20, Tryz.ntmps20
        go_wp2_with fail
        refine (small_ok (hA.ext y0) HL.out _ _ HN.out HD.out).mono ?_
        rintro e w1 ⟨rfl, rfl⟩
        go_wp2_with fail
        go_ret2
        refine ⟨ret_eq ?_, y0⟩
        simp only [smallI]
        rw [HS.out]; rfl
  · obtain ⟨z, hz⟩ : ∃ z, z = (if neg then -(n : Int) else (n : Int)) := ⟨_, rfl⟩
    rw [← hz]
    have HS : Hid (fitsI z = false) := by
      show _ = _; rw [Bs_def] at hB; rw [hz]; unfold fitsI; cases neg <;> simp <;> omega
    have HN : Hid (((smallN (val A) : Nat) : Int) = 0) := by show _ = _; rw [← hn, smallN, if_neg hB]; rfl
    have HD : Hid (decide (val A < Bs) = false) := by show _ = _; rw [← hn]; simpa using hB
    clear hn hB hz
    go_enter Tryz.func20, Tryz.ntmps20
    go_wp2_with fail
    refine (small_ok (hA.ext y0) HL.out _ _ HN.out HD.out).mono ?_
    rintro e w1 ⟨rfl, rfl⟩
    go_wp2_with fail
    go_ret2
    refine ⟨ret_eq ?_, y0⟩
    simp only [smallI]
    rw [HS.out]; rfl

/-- the cells of the ways of a sum -/
theorem ways_calls (w : World) : Calls Tryz.prog 39 #[] w fun e w' => e = .returned (.slice (some ⟨w.heap.size, 0, none⟩) 3 3) ∧
    w.alloc (.cells #[.func (.func 60) #[] #[], .func (.func 61) #[] #[], .func (.func 62) #[] #[], .func (.func 63) #[] #[], .func (.func 64) #[] #[], .func (.func 65) #[] #[]] 58) = w' := by
  go_enter Tryz.func39, Tryz.ntmps39
  go_wp2_with fail
  go_ret
  exact ⟨rfl, rfl⟩

theorem way1_calls {w : World} (n1 n2 : Bool) (v u : Value) :
    Calls Tryz.prog 60 #[.agg #[.bool n1, v], .agg #[.bool n2, u]] w fun e w' => e = .returned (.bool (n1 == n2)) ∧ Ext w w' := by
  have y0 := ((Ext.refl w).alloc (.cells #[.bool n1, v] 25)).alloc (.cells #[.bool n2, u] 25)
  go_enter Tryz.func60, Tryz.ntmps60
  go_wp2_with fail
  go_ret
  exact ⟨rfl, y0⟩

/-- the call returns a sign and a natural, in new memory -/
def RetW (w : World) (b : Bool) (n : Nat) (e : Ending) (w' : World) : Prop := ∃ v, e = .returned (.tuple #[.bool b, v]) ∧ OwnL w.heap.size w' v (dig n) ∧ Ext w w'

set_option maxHeartbeats 1000000 in
set_option maxRecDepth 100000 in
theorem way2_calls {w : World} {v u : Value} {A B : List Nat} (hA : Limbs w v A) (hB : Limbs w u B) (hl : A.length ≤ 65536) (hl2 : B.length ≤ 65536) (n1 n2 : Bool) :
    Calls Tryz.prog 61 #[.agg #[.bool n1, v], .agg #[.bool n2, u]] w (RetW w n1 (val A + val B)) := by
  obtain ⟨pa, pc, rfl, -, -, -⟩ := hA.open
  obtain ⟨qa, qc, rfl, -, -, -⟩ := hB.open
  have L1 := Lib.hid (lmax_lt hl)
  have L2 := Lib.hid (lmax_lt hl2)
  have y0 := ((Ext.refl w).alloc (.cells #[.bool n1, .slice pa A.length pc] 25)).alloc (.cells #[.bool n2, .slice qa B.length qc] 25)
  have bx := box22 (Ext.refl ((w.alloc (.cells #[.bool n1, .slice pa A.length pc] 25)).alloc (.cells #[.bool n2, .slice qa B.length qc] 25)))
  obtain ⟨W0, hW0⟩ : ∃ W0, W0 = ((w.alloc (.cells #[.bool n1, .slice pa A.length pc] 25)).alloc (.cells #[.bool n2, .slice qa B.length qc] 25)) := ⟨_, rfl⟩
  clear hl hl2
  go_enter Tryz.func61, Tryz.ntmps61
  go_wp2_with fail
  rw [← hW0] at y0 bx ⊢
  have hs0 : w.heap.size + 1 < W0.heap.size := by rw [hW0]; simp
  clear hW0
  obtain ⟨⟨c1, c2⟩, ⟨c3, c4⟩, -⟩ := bx
  go_region_held3 (fun W => W.cell? ⟨w.heap.size, 0, none⟩ = some (.bool n1) ∧ W.cell? ⟨w.heap.size, 1, none⟩ = some (.slice pa A.length pc) ∧ W.cell? ⟨w.heap.size + 1, 1, none⟩ = some (.slice qa B.length qc)) (go_keep)
    (first
      | (go_at_call_of 43 (Value.slice pa A.length pc); refine (natadd_calls (hA.ext y0.drew) (hB.ext y0.drew) L1.out L2.out).mono ?_; rintro e w7 ⟨r, rfl, hr, x7⟩; have k1 := cell_ext (((Ext.refl W0).drew).trans x7) c1 (by show w.heap.size < _; omega); have k2 := cell_ext (((Ext.refl W0).drew).trans x7) c2 (by show w.heap.size < _; omega); have k4 := cell_ext (((Ext.refl W0).drew).trans x7) c4 hs0))
  go_wp2_with fail
  go_ret2
  exact ⟨r, rfl, hr.mono (by have := y0.size; simp; omega), y0.drew.trans x7⟩

set_option maxHeartbeats 1000000 in
set_option maxRecDepth 100000 in
theorem way3_calls {w : World} {v u : Value} {A B : List Nat} (hA : Limbs w v A) (hB : Limbs w u B) (hl : A.length ≤ 65536) (hl2 : B.length ≤ 65536) (n1 n2 : Bool) :
    Calls Tryz.prog 62 #[.agg #[.bool n1, v], .agg #[.bool n2, u]] w fun e w' => e = .returned (.bool (decide (val B ≤ val A))) ∧ Ext w w' := by
  obtain ⟨pa, pc, rfl, -, -, -⟩ := hA.open
  obtain ⟨qa, qc, rfl, -, -, -⟩ := hB.open
  have L1 := Lib.hid (lmax_16 hl)
  have L2 := Lib.hid (lmax_16 hl2)
  obtain ⟨c, hc⟩ : ∃ c, c = cmpN (val A) (val B) := ⟨_, rfl⟩
  have HC := Lib.hid hc
  have HD : Hid (decide (val B ≤ val A) = decide (0 ≤ c)) := by
    show _ = _
    rw [hc]; unfold cmpN; rw [Bool.eq_iff_iff, decide_eq_true_eq, decide_eq_true_eq]; split; omega; split <;> omega
  have y0 := ((Ext.refl w).alloc (.cells #[.bool n1, .slice pa A.length pc] 25)).alloc (.cells #[.bool n2, .slice qa B.length qc] 25)
  clear hl hl2 hc
  go_enter Tryz.func62, Tryz.ntmps62
  go_wp2_with fail
  refine (cmp_int (hA.ext y0) (hB.ext y0) L1.out L2.out c HC.out.symm).mono ?_
  rintro e w9 ⟨rfl, rfl⟩
  go_wp2_with fail
  go_ret
  exact ⟨by rw [HD.out]; rfl, y0⟩

set_option maxHeartbeats 1000000 in
set_option maxRecDepth 100000 in
theorem way4_calls {w : World} {v u : Value} {A B : List Nat} (hA : Limbs w v A) (hB : Limbs w u B) (hl : A.length ≤ 65536) (hl2 : B.length ≤ 65536) (h : val B ≤ val A) (n1 n2 : Bool) :
    Calls Tryz.prog 63 #[.agg #[.bool n1, v], .agg #[.bool n2, u]] w (RetW w n1 (val A - val B)) := by
  obtain ⟨pa, pc, rfl, -, -, -⟩ := hA.open
  obtain ⟨qa, qc, rfl, -, -, -⟩ := hB.open
  have L1 := Lib.hid (lmax_lt hl)
  have L2 := Lib.hid (lmax_lt hl2)
  have H := Lib.hid h
  have y0 := ((Ext.refl w).alloc (.cells #[.bool n1, .slice pa A.length pc] 25)).alloc (.cells #[.bool n2, .slice qa B.length qc] 25)
  clear hl hl2 h
  go_enter Tryz.func63, Tryz.ntmps63
  go_wp2_with fail
  refine (sub_ok (hA.ext y0) (hB.ext y0) L1.out L2.out H.out).mono ?_
  rintro e w1 ⟨r, rfl, hr, x1⟩
  obtain ⟨⟨c1, c2⟩, ⟨c3, c4⟩, -⟩ := box22 x1
  go_wp2_with fail
  go_ret2
  exact ⟨r, rfl, hr.mono (by have := y0.size; omega), y0.trans x1⟩

theorem way5_calls {w : World} (n1 n2 : Bool) (v u : Value) :
    Calls Tryz.prog 64 #[.agg #[.bool n1, v], .agg #[.bool n2, u]] w fun e w' => e = .returned (.bool true) ∧ Ext w w' := by
  have y0 := ((Ext.refl w).alloc (.cells #[.bool n1, v] 25)).alloc (.cells #[.bool n2, u] 25)
  go_enter Tryz.func64, Tryz.ntmps64
  go_wp2_with fail
  go_ret
  exact ⟨rfl, y0⟩

set_option maxHeartbeats 1000000 in
set_option maxRecDepth 100000 in
theorem way6_calls {w : World} {v u : Value} {A B : List Nat} (hA : Limbs w v A) (hB : Limbs w u B) (hl : A.length ≤ 65536) (hl2 : B.length ≤ 65536) (h : val A ≤ val B) (n1 n2 : Bool) :
    Calls Tryz.prog 65 #[.agg #[.bool n1, v], .agg #[.bool n2, u]] w (RetW w n2 (val B - val A)) := by
  obtain ⟨pa, pc, rfl, -, -, -⟩ := hA.open
  obtain ⟨qa, qc, rfl, -, -, -⟩ := hB.open
  have L1 := Lib.hid (lmax_lt hl)
  have L2 := Lib.hid (lmax_lt hl2)
  have H := Lib.hid h
  have y0 := ((Ext.refl w).alloc (.cells #[.bool n1, .slice pa A.length pc] 25)).alloc (.cells #[.bool n2, .slice qa B.length qc] 25)
  clear hl hl2 h
  go_enter Tryz.func65, Tryz.ntmps65
  go_wp2_with fail
  refine (sub_ok (hB.ext y0) (hA.ext y0) L2.out L1.out H.out).mono ?_
  rintro e w1 ⟨r, rfl, hr, x1⟩
  obtain ⟨⟨c1, c2⟩, ⟨c3, c4⟩, -⟩ := box22 x1
  go_wp2_with fail
  go_ret2
  exact ⟨r, rfl, hr.mono (by have := y0.size; omega), y0.trans x1⟩

theorem sum_iv (n1 n2 : Bool) (A B : List Nat) : iv n1 A + iv n2 B = if n1 == n2 then iv n1 (dig (val A + val B)) else if val B ≤ val A then iv n1 (dig (val A - val B)) else iv n2 (dig (val B - val A)) := by
  unfold iv
  simp only [val_dig]
  cases n1 <;> cases n2 <;> simp <;> first | omega | (split <;> omega)

@[go_sem] theorem run_store_func {P : Program} {w : World} (a : Addr) (m : Mode) (f : Fn) (x : Array Value) (c : Array Value) : (store a (.func f x c) m).run P w = stored P w a (.func f x c) m := run_store P w a _ m rfl

theorem len_add {A B : List Nat} (hA : ∀ x ∈ A, x < Bs) (hB : ∀ x ∈ B, x < Bs) (h1 : A.length ≤ 65535) (h2 : B.length ≤ 65535) : (dig (val A + val B)).length ≤ 65536 := by
  obtain ⟨k, hk1, hk2, hk3⟩ : ∃ k, A.length ≤ k ∧ B.length ≤ k ∧ k ≤ 65535 := ⟨max A.length B.length, by omega, by omega, by omega⟩
  have a := Nat.lt_of_lt_of_le (val_lt hA) (Nat.pow_le_pow_right Bs_pos hk1)
  have b := Nat.lt_of_lt_of_le (val_lt hB) (Nat.pow_le_pow_right Bs_pos hk2)
  have c : 2 * Bs ^ k ≤ Bs ^ (k + 1) := by rw [Nat.pow_succ, Nat.mul_comm (Bs ^ k)]; exact Nat.mul_le_mul_right _ two_le_Bs
  exact dig_lmax (k := k + 1) (by generalize Bs ^ k = X at *; generalize Bs ^ (k + 1) = Y at *; omega) (by omega)
theorem len_sub {A : List Nat} (hA : ∀ x ∈ A, x < Bs) (h1 : A.length ≤ 65535) (b : Nat) : (dig (val A - b)).length ≤ 65536 :=
  dig_lmax (k := A.length) (Nat.lt_of_le_of_lt (Nat.sub_le _ _) (val_lt hA)) (by omega)

/-- the boxes of a sum: both numbers, the answer, the ways -/
def WaysAt (s : Nat) (n1 n2 : Bool) (v u : Value) (W : World) : Prop :=
  (W.cell? ⟨s, 0, none⟩ = some (.bool n1) ∧ W.cell? ⟨s, 1, none⟩ = some v) ∧ (W.cell? ⟨s + 1, 0, none⟩ = some (.bool n2) ∧ W.cell? ⟨s + 1, 1, none⟩ = some u) ∧
  (W.cell? ⟨s + 1 + 1, 0, none⟩ = some (.bool false) ∧ W.cell? ⟨s + 1 + 1, 1, none⟩ = some (.slice none 0 0)) ∧ (W.frozen? ⟨s + 1 + 1, 0, none⟩ = false ∧ W.frozen? ⟨s + 1 + 1, 1, none⟩ = false) ∧
  (W.cell? ⟨s + 1 + 1 + 1, 0, none⟩ = some (.func (.func 60) #[] #[]) ∧ W.cell? ⟨s + 1 + 1 + 1, 1, none⟩ = some (.func (.func 61) #[] #[])) ∧
  (W.cell? ⟨s + 1 + 1 + 1, 2, none⟩ = some (.func (.func 62) #[] #[]) ∧ W.cell? ⟨s + 1 + 1 + 1, 3, none⟩ = some (.func (.func 63) #[] #[])) ∧
  (W.cell? ⟨s + 1 + 1 + 1, 4, none⟩ = some (.func (.func 64) #[] #[]) ∧ W.cell? ⟨s + 1 + 1 + 1, 5, none⟩ = some (.func (.func 65) #[] #[])) ∧ s + 1 + 1 + 1 < W.heap.size

theorem WaysAt.ext {s : Nat} {n1 n2 : Bool} {v u : Value} {a b : World} (h : WaysAt s n1 n2 v u a) (x : Ext a b) : WaysAt s n1 n2 v u b := by
  obtain ⟨⟨a1, a2⟩, ⟨b1, b2⟩, ⟨c1, c2⟩, ⟨d1, d2⟩, ⟨e1, e2⟩, ⟨f1, f2⟩, ⟨g1, g2⟩, hs⟩ := h
  have := x.size
  refine ⟨⟨cell_ext x a1 ?_, cell_ext x a2 ?_⟩, ⟨cell_ext x b1 ?_, cell_ext x b2 ?_⟩, ⟨cell_ext x c1 ?_, cell_ext x c2 ?_⟩, ⟨frozen_ext x d1 ?_, frozen_ext x d2 ?_⟩, ⟨cell_ext x e1 ?_, cell_ext x e2 ?_⟩, ⟨cell_ext x f1 ?_, cell_ext x f2 ?_⟩, ⟨cell_ext x g1 ?_, cell_ext x g2 ?_⟩, ?_⟩ <;> (try simp only []) <;> omega

theorem waysAt_mk (w : World) (n1 n2 : Bool) (v u : Value) (t1 t2 t3 t4 : TypeId) : WaysAt w.heap.size n1 n2 v u ((((w.alloc (.cells #[.bool n1, v] t1)).alloc (.cells #[.bool n2, u] t2)).alloc (.cells #[.bool false, .slice none 0 0] t3)).alloc
    (.cells #[.func (.func 60) #[] #[], .func (.func 61) #[] #[], .func (.func 62) #[] #[], .func (.func 63) #[] #[], .func (.func 64) #[] #[], .func (.func 65) #[] #[]] t4)) := by
  unfold WaysAt
  simp [go_sem]

set_option maxHeartbeats 2000000 in
set_option maxRecDepth 100000 in
theorem iadd_calls {w : World} {v u : Value} {A B : List Nat} (hA : Limbs w v A) (hB : Limbs w u B) (hl : A.length ≤ 65535) (hl2 : B.length ≤ 65535) (n1 n2 : Bool) :
    Calls Tryz.prog 10 #[.agg #[.bool n1, v], .agg #[.bool n2, u]] w (RetI w (iv n1 A + iv n2 B)) := by
  obtain ⟨pa, pc, rfl, -, -, -⟩ := hA.open
  obtain ⟨qa, qc, rfl, -, -, -⟩ := hB.open
  have L1 := Lib.hid hl
  have L2 := Lib.hid hl2
  have HS := Lib.hid (sum_iv n1 n2 A B)
  have y0 := (((Ext.refl w).alloc (.cells #[.bool n1, .slice pa A.length pc] 25)).alloc (.cells #[.bool n2, .slice qa B.length qc] 25)).alloc (.cells #[.bool false, .slice none 0 0] 25)
  have m0 := waysAt_mk w n1 n2 (.slice pa A.length pc) (.slice qa B.length qc) 25 25 25 58
  clear hl hl2
  go_enter Tryz.func10, Tryz.ntmps10
  go_wp2_with fail
  refine (ways_calls _).mono ?_
  rintro e w1 ⟨rfl, hw1⟩
  rw [hw1] at m0
  have x1 : Ext w w1 := by rw [← hw1]; exact y0.alloc _
  clear hw1 y0
  go_wp2_with fail
  go_loopw [9] (fun vi wr => ∃ (k : Nat), vi = .int .i64 k ∧ k ≤ 2 ∧ (1 ≤ k → n1 ≠ n2) ∧ (2 ≤ k → ¬ val B ≤ val A) ∧ Ext w1 wr) (fun vi _ => 3 - (intOf vi).toNat)
  case atStart => exact ⟨0, rfl, by omega, by omega, by omega, Ext.refl _⟩
  case round =>
    obtain ⟨k, rfl, hk, h1, h2, xr⟩ := hrel
    obtain ⟨⟨a1, a2⟩, ⟨b1, b2⟩, ⟨c1, c2⟩, ⟨d1, d2⟩, ⟨e1, e2⟩, ⟨f1, f2⟩, ⟨g1, g2⟩, hs⟩ := m0.ext xr
    have hk' : k = 0 ∨ k = 1 ∨ k = 2 := by omega
    rcases hk' with rfl | rfl | rfl
    · have q0 := (Ext.refl wr).alloc (.cells #[.func (.func 60) #[] #[], .func (.func 61) #[] #[]] 58)
      obtain ⟨⟨i1, i2⟩, ⟨j1, j2⟩, -⟩ := (m0.ext xr).ext q0
      have H1 := Lib.hid h1
      have H2 := Lib.hid h2
      clear h1 h2
      go_wp2_with fail
      refine (way1_calls n1 n2 _ _).mono ?_
      rintro e w2 ⟨rfl, x2⟩
      obtain ⟨k1, k2, -⟩ := box2 x2
      obtain ⟨⟨l1, l2⟩, ⟨o1, o2⟩, -⟩ := (m0.ext xr).ext (q0.trans x2)
      cases hb : (n1 == n2) with
      | true =>
        have Hb := Lib.hid hb
        clear hb
        go_wp2_with fail
        refine (way2_calls (hA.ext (x1.trans (xr.trans (q0.trans x2)))) (hB.ext (x1.trans (xr.trans (q0.trans x2)))) (by have := L1.out; omega) (by have := L2.out; omega) n1 n2).mono ?_
        rintro e w3 ⟨r, rfl, hr, x3⟩
        obtain ⟨-, -, -, -, -, -, -, ps0⟩ := (m0.ext xr).ext (q0.trans (x2.trans x3))
        go_wp2_with fail
        refine (make_calls hr.limbs (len_add (hA.2) (hB.2) L1.out L2.out) n1).mono ?_
        rintro e w4 ⟨r4, rfl, hr4, x4⟩
        obtain ⟨-, -, ⟨p1, p2⟩, ⟨p3, p4⟩, -, -, -, ps⟩ := (m0.ext xr).ext (q0.trans (x2.trans (x3.trans x4)))
        have HV : Hid (iv n1 (dig (val A + val B)) = iv n1 A + iv n2 B) := by show _ = _; rw [HS.out, Hb.out]; rfl
        rw [HV.out] at hr4 ⊢
        obtain ⟨ra, rc, rfl, -, -, -⟩ := hr4.limbs.open
        go_wp2_with fail
        refine bodyPost_ret (v := .agg #[.bool (decide (iv n1 A + iv n2 B < 0)), .slice ra (dig (iv n1 A + iv n2 B).natAbs).length rc]) (by simp [results, Tryz.results10, go_sem, p1, p2]) rfl (RetI.mk rfl ?_ ?_ rfl)
        · exact (hr4.set2 (by omega) _ _).mono (by omega)
        · exact ext_box2 (x1.trans (xr.trans (q0.trans (x2.trans (x3.trans x4))))) (by omega) _ _
      | false =>
        have Hb := Lib.hid hb
        clear hb
        go_wp2_with fail
        exact ⟨⟨1, rfl, by omega, fun _ => by simpa using Hb.out, by omega, xr.trans (q0.trans x2)⟩, by decide⟩
    · have q0 := (Ext.refl wr).alloc (.cells #[.func (.func 62) #[] #[], .func (.func 63) #[] #[]] 58)
      obtain ⟨⟨i1, i2⟩, ⟨j1, j2⟩, -⟩ := (m0.ext xr).ext q0
      have H1 := Lib.hid h1
      have H2 := Lib.hid h2
      clear h1 h2
      go_wp2_with fail
      refine (way3_calls (hA.ext (x1.trans (xr.trans q0))) (hB.ext (x1.trans (xr.trans q0))) (by have := L1.out; omega) (by have := L2.out; omega) n1 n2).mono ?_
      rintro e w2 ⟨rfl, x2⟩
      obtain ⟨k1, k2, -⟩ := box2 x2
      obtain ⟨⟨l1, l2⟩, ⟨o1, o2⟩, -⟩ := (m0.ext xr).ext (q0.trans x2)
      cases hb : (decide (val B ≤ val A)) with
      | true =>
        have Hb := Lib.hid hb
        clear hb
        go_wp2_with fail
        refine (way4_calls (hA.ext (x1.trans (xr.trans (q0.trans x2)))) (hB.ext (x1.trans (xr.trans (q0.trans x2)))) (by have := L1.out; omega) (by have := L2.out; omega) (by simpa using Hb.out) n1 n2).mono ?_
        rintro e w3 ⟨r, rfl, hr, x3⟩
        obtain ⟨-, -, -, -, -, -, -, ps0⟩ := (m0.ext xr).ext (q0.trans (x2.trans x3))
        go_wp2_with fail
        refine (make_calls hr.limbs (len_sub (hA.2) L1.out _) n1).mono ?_
        rintro e w4 ⟨r4, rfl, hr4, x4⟩
        obtain ⟨-, -, ⟨p1, p2⟩, ⟨p3, p4⟩, -, -, -, ps⟩ := (m0.ext xr).ext (q0.trans (x2.trans (x3.trans x4)))
        have HV : Hid (iv n1 (dig (val A - val B)) = iv n1 A + iv n2 B) := by show _ = _; rw [HS.out, if_neg (by simpa using H1.out (by omega)), if_pos (by simpa using Hb.out)]
        rw [HV.out] at hr4 ⊢
        obtain ⟨ra, rc, rfl, -, -, -⟩ := hr4.limbs.open
        go_wp2_with fail
        refine bodyPost_ret (v := .agg #[.bool (decide (iv n1 A + iv n2 B < 0)), .slice ra (dig (iv n1 A + iv n2 B).natAbs).length rc]) (by simp [results, Tryz.results10, go_sem, p1, p2]) rfl (RetI.mk rfl ?_ ?_ rfl)
        · exact (hr4.set2 (by omega) _ _).mono (by omega)
        · exact ext_box2 (x1.trans (xr.trans (q0.trans (x2.trans (x3.trans x4))))) (by omega) _ _
      | false =>
        have Hb := Lib.hid hb
        clear hb
        go_wp2_with fail
        exact ⟨⟨2, rfl, by omega, fun _ => H1.out (by omega), fun _ => by simpa using Hb.out, xr.trans (q0.trans x2)⟩, by decide⟩
    · have q0 := (Ext.refl wr).alloc (.cells #[.func (.func 64) #[] #[], .func (.func 65) #[] #[]] 58)
      obtain ⟨⟨i1, i2⟩, ⟨j1, j2⟩, -⟩ := (m0.ext xr).ext q0
      have H1 := Lib.hid h1
      have H2 := Lib.hid h2
      clear h1 h2
      go_wp2_with fail
      refine (way5_calls n1 n2 _ _).mono ?_
      rintro e w2 ⟨rfl, x2⟩
      obtain ⟨k1, k2, -⟩ := box2 x2
      obtain ⟨⟨l1, l2⟩, ⟨o1, o2⟩, -⟩ := (m0.ext xr).ext (q0.trans x2)
      go_wp2_with fail
      refine (way6_calls (hA.ext (x1.trans (xr.trans (q0.trans x2)))) (hB.ext (x1.trans (xr.trans (q0.trans x2)))) (by have := L1.out; omega) (by have := L2.out; omega) (Nat.le_of_lt (Nat.lt_of_not_le (H2.out (by omega)))) n1 n2).mono ?_
      rintro e w3 ⟨r, rfl, hr, x3⟩
      obtain ⟨-, -, -, -, -, -, -, ps0⟩ := (m0.ext xr).ext (q0.trans (x2.trans x3))
      go_wp2_with fail
      refine (make_calls hr.limbs (len_sub (hB.2) L2.out _) n2).mono ?_
      rintro e w4 ⟨r4, rfl, hr4, x4⟩
      obtain ⟨-, -, ⟨p1, p2⟩, ⟨p3, p4⟩, -, -, -, ps⟩ := (m0.ext xr).ext (q0.trans (x2.trans (x3.trans x4)))
      have HV : Hid (iv n2 (dig (val B - val A)) = iv n1 A + iv n2 B) := by show _ = _; rw [HS.out, if_neg (by simpa using H1.out (by omega)), if_neg (H2.out (by omega))]
      rw [HV.out] at hr4 ⊢
      obtain ⟨ra, rc, rfl, -, -, -⟩ := hr4.limbs.open
      go_wp2_with fail
      refine bodyPost_ret (v := .agg #[.bool (decide (iv n1 A + iv n2 B < 0)), .slice ra (dig (iv n1 A + iv n2 B).natAbs).length rc]) (by simp [results, Tryz.results10, go_sem, p1, p2]) rfl (RetI.mk rfl ?_ ?_ rfl)
      · exact (hr4.set2 (by omega) _ _).mono (by omega)
      · exact ext_box2 (x1.trans (xr.trans (q0.trans (x2.trans (x3.trans x4))))) (by omega) _ _
end Go.Proofs.YtomhfipgabpfiaaGreatDoor
