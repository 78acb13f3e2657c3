/- Rows of numbers of the call's own that are written over, in one block. -/
import Derived.Test.YtkfioaoooodmnaaDoorPartH
namespace Go.Proofs.YtkfioaoooodmnaaDoor
open Go Go.RowKit

/-- the numbers L in block g, of a slice that begins there -/
def RowG (t : TypeId) (g cap : Nat) (L : List Int) (w : World) : Prop := w.ownsRow g t 1 (.slice (some ⟨g, 0, none⟩) L.length cap) L.length (L.map zv)
theorem RowG.ext {t : TypeId} {g cap : Nat} {L : List Int} {w w' : World} (h : RowG t g cap L w) (k : Ext w w') : RowG t g cap L w' := ownsRow_ext' h k
theorem RowG.ownI {t : TypeId} {g cap : Nat} {L : List Int} {w : World} (h : RowG t g cap L w) : OwnI t g w (.slice (some ⟨g, 0, none⟩) L.length cap) L := .inl h
theorem RowG.ownZ {t : TypeId} {g cap : Nat} {L : List Int} {w : World} (h : RowG t g cap L w) {B : Nat} (hB : B ≤ g) (ht : t ∈ notBox) : OwnZ t B w (.slice (some ⟨g, 0, none⟩) L.length cap) L := ⟨h.ownI.mono hB, ht⟩
theorem RowG.lt {t : TypeId} {g cap : Nat} {L : List Int} {w : World} (h : RowG t g cap L w) : g < w.heap.size := by
  rcases h.2 with ⟨h1, -⟩ | ⟨g', cap', cur, h1, hg, hh, -⟩
  · cases h1
  · injection h1 with h1 h2 h3
    injection h1 with h1
    injection h1 with h1
    subst h1
    exact (Array.getElem?_eq_some_iff.1 hh).1
theorem RowG.free {t : TypeId} {g cap : Nat} {L : List Int} {w : World} (h : RowG t g cap L w) (j : Nat) : w.frozen? ⟨g, j, none⟩ = false := World.ownsRow.frozenAt h j
theorem RowG.cell {t : TypeId} {g cap : Nat} {L : List Int} {w : World} (h : RowG t g cap L w) {j : Nat} (hj : j < L.length) : w.cell? ⟨g, j, none⟩ = some (.int .i64 (L.getD j 0)) := by
  have := World.ownsRow.cellAt h j (by simpa using hj)
  rw [this]
  simp [zv, List.getD, hj]
theorem RowG.set {t : TypeId} {g cap : Nat} {L : List Int} {w : World} (h : RowG t g cap L w) (j : Nat) (z : Int) : RowG t g cap (L.set j z) (w.setCell ⟨g, j, none⟩ (.int .i64 z)) := by
  have := (World.ownsRow.stored h j (.int .i64 z)).1
  unfold RowG
  rw [List.length_set, List.map_set]
  exact this
/-- a row of the call's own that is not empty lies in one block -/
theorem RowG.of {t : TypeId} {B : Nat} {L : List Int} {v : Value} {w : World} (h : w.ownsRow B t 1 v L.length (L.map zv)) (h0 : 1 ≤ L.length) : ∃ g cap, v = .slice (some ⟨g, 0, none⟩) L.length cap ∧ B ≤ g ∧ RowG t g cap L w := by
  obtain ⟨h1, h2⟩ := h
  rcases h2 with ⟨-, h2⟩ | ⟨g, cap, cur, rfl, hg, hh, h3, h4, h5, h6⟩
  · omega
  · exact ⟨g, cap, rfl, hg, h1, .inr ⟨g, cap, cur, rfl, Nat.le_refl _, hh, h3, h4, h5, h6⟩⟩
theorem RowG.made {t : TypeId} {n : Nat} {L : List Int} {w w' : World} (h : w'.ownsRow w.heap.size t 1 (.slice (some ⟨w.heap.size, 0, none⟩) n n) n (L.map zv)) (hn : L.length = n) : RowG t w.heap.size n L w' := by subst hn; exact h
end Go.Proofs.YtkfioaoooodmnaaDoor
