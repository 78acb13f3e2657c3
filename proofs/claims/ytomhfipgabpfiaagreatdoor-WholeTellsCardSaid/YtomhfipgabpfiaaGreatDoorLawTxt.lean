/- Texts of whole numbers: what is read back is what was shown; the reference's contracts by the numbers. -/
import Derived.Test.YtomhfipgabpfiaaGreatDoorLawKit
namespace Go.Proofs.YtomhfipgabpfiaaGreatDoor
open Go Go.RowKit

theorem rsame_is {w : World} {b1 b2 : Bool} {v u : Value} {m1 m2 : Nat} {x y : Int} (hx : IsI w b1 v m1 x) (hy : IsI w b2 u m2 y) (c : Bool) (hc : decide (x = y) = c) :
    Calls Tryz.prog 14 #[.agg #[.bool b1, v], .agg #[.bool b2, u]] w fun e w' => e = .returned (.bool c) ∧ Ext w w' := by
  have h := isame_calls hx.2.2 hy.2.2 b1 b2
  rw [← hx.1, ← hy.1, ← hx.2.1, ← hy.2.1, same_int, hc] at h
  rw [← hx.1, ← hy.1]
  exact h

theorem LenI.show {k : Nat} {z : Int} (h : LenI k z) (hk : 1 ≤ k) : (showL z.natAbs).length ≤ 20 * k := by
  refine (showL_len (by omega)).2 (Nat.lt_of_lt_of_le h ?_)
  rw [show (10 : Nat) ^ (20 * k) = (10 ^ 20) ^ k by rw [← Nat.pow_mul]]
  exact Nat.pow_le_pow_left (by rw [Bs_def]; decide +kernel) k
theorem showI_len {k : Nat} {z : Int} (h : LenI k z) (hk : 1 ≤ k) : (showI z).length ≤ 20 * k + 1 := by
  have := h.show hk
  unfold showI
  split
  · rw [List.length_cons]; omega
  · omega
theorem showL_head45 (n : Nat) : (showL n).head? ≠ some 45 := by
  intro h
  cases e : showL n with
  | nil => exact showL_ne n e
  | cons a l =>
    rw [e] at h
    have ha := showL_all n
    rw [e, List.all_cons, Bool.and_eq_true] at ha
    simp at h
    rw [h] at ha
    exact absurd ha.1 (by decide)
theorem show_back {k : Nat} {z : Int} (h : LenI k z) (hk : 1 ≤ k) (hk2 : k ≤ 900) : errI (showI z) = 0 ∧ readI (showI z) = z := by
  have hl := h.show hk
  obtain ⟨r1, r2⟩ := read_show (n := z.natAbs) (by omega)
  unfold showI
  by_cases hz : z < 0
  · rw [if_pos hz]
    have e : errI (45 :: showL z.natAbs) = 0 := by rw [errI_neg, r1, r2, if_neg (by simp), if_neg (by omega)]
    exact ⟨e, by rw [readI_neg _ e, r2]; omega⟩
  · rw [if_neg hz]
    have e : errI (showL z.natAbs) = 0 := by unfold errI; rw [if_neg (showL_head45 _), r1]
    exact ⟨e, by unfold readI; rw [if_neg (by rw [e]; simp), if_neg (showL_head45 _), r2]; omega⟩
theorem back_show {l : List UInt8} (h : errI l = 0) : showI (readI l) = l := by
  by_cases h45 : l.head? = some 45
  · obtain ⟨t, rfl⟩ : ∃ t, l = 45 :: t := by
      cases l with
      | nil => simp at h45
      | cons a t => simp at h45; exact ⟨t, by rw [h45]⟩
    rw [readI_neg _ h]
    rw [errI_neg] at h
    have h1 : errR t = 0 := by
      rcases Nat.eq_zero_or_pos (errR t) with e | e
      · exact e
      · rw [if_pos (by omega)] at h; omega
    have h2 : readN t ≠ 0 := by
      intro e
      rw [if_neg (by omega), if_pos e] at h; omega
    unfold showI
    rw [if_pos (by omega), show (-(readN t : Int)).natAbs = readN t by omega, show_read h1]
  · have h1 : errR l = 0 := by unfold errI at h; rw [if_neg h45] at h; exact h
    have h2 : readI l = (readN l : Int) := by unfold readI; rw [if_neg (by rw [h]; simp), if_neg h45]
    rw [h2]
    unfold showI
    rw [if_neg (by omega), show ((readN l : Nat) : Int).natAbs = readN l by omega, show_read h1]
theorem readI_lt {l : List UInt8} {n : Nat} (h : l.length ≤ n) (_hn : 1 ≤ n) : LenI n (readI l) := by
  have key : ∀ r : List UInt8, r.length ≤ n → readN r < Bs ^ n := by
    intro r hr
    unfold readN
    split
    · rename_i he
      have h1 := dval_lt (l := r.map dv) (by
        intro d hd
        obtain ⟨b, hb, rfl⟩ := List.mem_map.1 hd
        have := List.all_eq_true.1 (errR_parts he).2.1 b hb
        exact dv_lt this)
      rw [List.length_map] at h1
      exact Nat.lt_of_lt_of_le h1 (Nat.le_trans (Nat.pow_le_pow_right (by decide) hr) (ten_bs n))
    · exact Nat.pow_pos Bs_pos
  unfold LenI readI
  split
  · exact Nat.pow_pos Bs_pos
  · split
    · have := key l.tail (by rw [List.length_tail]; omega)
      omega
    · have := key l h
      omega
theorem showI_inj {k : Nat} {x y : Int} (hx : LenI k x) (hy : LenI k y) (hk : 1 ≤ k) (hk2 : k ≤ 900) (h : showI x = showI y) : x = y := by
  rw [← (show_back hx hk hk2).2, h, (show_back hy hk hk2).2]

/-- a cell of a box may be written -/
def Fr (s o : Nat) (W : World) : Prop := W.frozen? ⟨s, o, none⟩ = false ∧ s < W.heap.size
theorem Fr.ext {s o : Nat} {a b : World} (h : Fr s o a) (x : Ext a b) : Fr s o b :=
  ⟨frozen_ext x h.1 h.2, Nat.lt_of_lt_of_le h.2 x.size⟩
theorem Fr.n0 {w : World} {C : Array Value} {t : TypeId} {o : Nat} : Fr w.heap.size o (w.alloc (.cells C t)) := ⟨by simp [go_sem], by simp⟩
end Go.Proofs.YtomhfipgabpfiaaGreatDoor
