/- Contracts for the law on sums: quotients in memory of their own, raw limbs held against each other, what may be written over. -/
import Derived.Test.YtefeglkbikcjeaaGreatDoorRegOwn
import Derived.Test.YtefeglkbikcjeaaGreatDoorRef05c
namespace Go.Proofs.YtefeglkbikcjeaaGreatDoor
open Go Go.RowKit

/-- a quotient and what is left (or 0, 0 and why not), each in new memory -/
def RetDs (w : World) (q r k : Int) (e : Ending) (w' : World) : Prop := ∃ b v m u m', e = .returned (.tuple #[.agg #[.bool b, v], .agg #[.bool false, u], .int .i64 k]) ∧ IsI w' b v m q ∧ IsI w' false u m' r ∧ OwnL w.heap.size w' v (dig m) ∧ OwnL w.heap.size w' u (dig m') ∧ Ext w w'
theorem RetID.ds {w w' : World} {x y q r k : Int} {e : Ending} (h : RetID w x y e w') (hq : (if y = 0 then 0 else x / y) = q) (hr : (if y = 0 then 0 else x % y) = r) (hk : (if y = 0 then (7 : Int) else 0) = k) : RetDs w q r k e w' := by
  obtain ⟨v, u, rfl, h1, h2, h3⟩ := h
  have hr0 : ¬ r < 0 := by
    rw [← hr]
    split
    · omega
    · rename_i hy; have := Int.emod_nonneg x hy; omega
  by_cases hy : y = 0
  · simp only [if_pos hy] at *
    subst hq hr hk
    exact ⟨_, v, _, u, _, rfl, ⟨rfl, rfl, h1.limbs⟩, ⟨by decide, rfl, h2.limbs⟩, h1, h2, h3⟩
  · simp only [if_neg hy] at *
    subst hq hr hk
    exact ⟨_, v, _, u, _, rfl, ⟨rfl, rfl, h1.limbs⟩, ⟨decide_eq_false hr0, rfl, h2.limbs⟩, h1, h2, h3⟩
theorem div_os {w : World} {b1 b2 : Bool} {v u : Value} {k l : Nat} {x y : Int} (hx : InI w b1 v k x) (hy : InI w b2 u l y) (hk : k ≤ 65535) (hl : l ≤ 65535) (q r c : Int) (hq : (if y = 0 then 0 else x / y) = q) (hr : (if y = 0 then 0 else x % y) = r) (hc : (if y = 0 then (7 : Int) else 0) = c) :
    Calls Tryz.prog 16 #[.agg #[.bool b1, v], .agg #[.bool b2, u]] w (RetDs w q r c) := by
  obtain ⟨A, a1, rfl, a3⟩ := hx
  obtain ⟨B, c1, rfl, c3⟩ := hy
  exact (idiv_calls a1 c1 (by omega) (by omega) b1 b2).mono fun _ _ h => h.ds hq hr hc
theorem refdiv_os {w : World} {b1 b2 : Bool} {v u : Value} {k l : Nat} {x y : Int} (hx : InI w b1 v k x) (hy : InI w b2 u l y) (hk : k ≤ 65535) (hl : l ≤ 65535) (q r c : Int) (hq : (if y = 0 then 0 else x / y) = q) (hr : (if y = 0 then 0 else x % y) = r) (hc : (if y = 0 then (7 : Int) else 0) = c) :
    Calls Tryz.prog 11 #[.agg #[.bool b1, v], .agg #[.bool b2, u]] w (RetDs w q r c) := by
  obtain ⟨A, a1, rfl, a3⟩ := hx
  obtain ⟨B, c1, rfl, c3⟩ := hy
  exact (refidiv_calls a1 c1 (by omega) (by omega) b1 b2).mono fun _ _ h => h.ds hq hr hc
theorem rsame_raw {w : World} {b : Bool} {v u : Value} {A : List Nat} (hx : Limbs w v A) (hy : Limbs w u A) :
    Calls Tryz.prog 17 #[.agg #[.bool b, v], .agg #[.bool b, u]] w fun e w' => e = .returned (.bool true) ∧ Ext w w' := by
  have h := isame_calls hx hy b b
  rwa [show decide (b = b ∧ A = A) = true by simp] at h
theorem OwnL.soft_new {B : Nat} {w : World} {v : Value} {A : List Nat} (h : OwnL B w v A) (o : Obj) : Soft B w.heap.size (w.alloc o) v :=
  (h.ext ((Ext.refl w).alloc o)).soft fun g hg => by
    rcases h.1 with h1 | ⟨a, rfl, -, -, h3⟩
    · exact Nat.ne_of_lt (h1.lt g hg).2
    · cases a with
      | none => cases hg
      | some p =>
        have h4 := h3 p rfl
        have : p.block = g := by simpa [Value.ownBlock] using hg
        omega
theorem spoil6 {B : Nat} {w : World} {v0 v1 v2 v3 v4 v5 : Value} {A0 A1 A2 A3 A4 A5 : List Nat} (b0 b1 b2 b3 b4 b5 : Bool) (h0 : OwnL B w v0 A0) (h1 : OwnL B w v1 A1) (h2 : OwnL B w v2 A2) (h3 : OwnL B w v3 A3) (h4 : OwnL B w v4 A4) (h5 : OwnL B w v5 A5) (hB : B ≤ w.heap.size) :
    Calls Tryz.prog 22 #[.slice (some ⟨w.heap.size, 0, none⟩) 6 6] (w.alloc (.cells #[.bool b0, v0, .bool b1, v1, .bool b2, v2, .bool b3, v3, .bool b4, v4, .bool b5, v5] 25)) fun e w' => e = .returned (.tuple #[]) ∧ Below B w w' := by
  refine (spoil_calls (B := B) (Nat.le_refl 6) (by decide) (fun i hi => ?_)).mono fun e w' ⟨h, k⟩ => ⟨h, Below.trans (Below.alloc (Below.refl _ _) hB _) k⟩
  have hc : ∀ j, (w.alloc (.cells #[.bool b0, v0, .bool b1, v1, .bool b2, v2, .bool b3, v3, .bool b4, v4, .bool b5, v5] 25)).cell? ⟨w.heap.size, j, none⟩ = (#[.bool b0, v0, .bool b1, v1, .bool b2, v2, .bool b3, v3, .bool b4, v4, .bool b5, v5] : Array Value)[j]? := fun j => cell_of_row _ w.heap.size _ _ _ (0, 0) (heap_alloc_new w _)
  have hi' : i = 0 ∨ i = 1 ∨ i = 2 ∨ i = 3 ∨ i = 4 ∨ i = 5 := by omega
  rcases hi' with rfl | rfl | rfl | rfl | rfl | rfl
  · exact ⟨v0, by rw [hc]; rfl, h0.soft_new _⟩
  · exact ⟨v1, by rw [hc]; rfl, h1.soft_new _⟩
  · exact ⟨v2, by rw [hc]; rfl, h2.soft_new _⟩
  · exact ⟨v3, by rw [hc]; rfl, h3.soft_new _⟩
  · exact ⟨v4, by rw [hc]; rfl, h4.soft_new _⟩
  · exact ⟨v5, by rw [hc]; rfl, h5.soft_new _⟩
end Go.Proofs.YtefeglkbikcjeaaGreatDoor
