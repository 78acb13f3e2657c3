/- Rows of numbers of the call's own that are written over, in one block. -/
import Derived.Test.YtefeglkbikcjeaaDoorPartH
namespace Go.Proofs.YtefeglkbikcjeaaDoor
open Go Go.RowKit

/-- the numbers L in block g, of a slice that begins there -/
def RowG (t : TypeId) (g cap : Nat) (L : List Int) (w : World) : Prop := w.ownsRow g t 1 (.slice (some ⟨g, 0, none⟩) L.length cap) L.length (L.map zv)
theorem RowG.ext {t : TypeId} {g cap : Nat} {L : List Int} {w w' : World} (h : RowG t g cap L w) (k : Ext w w') : RowG t g cap L w' := ownsRow_ext' h k
theorem RowG.ownI {t : TypeId} {g cap : Nat} {L : List Int} {w : World} (h : RowG t g cap L w) : OwnI t g w (.slice (some ⟨g, 0, none⟩) L.length cap) L := .inl h
theorem RowG.ownZ {t : TypeId} {g cap : Nat} {L : List Int} {w : World} (h : RowG t g cap L w) {B : Nat} (hB : B ≤ g) (ht : t ∈ notBox) : OwnZ t B w (.slice (some ⟨g, 0, none⟩) L.length cap) L := ⟨h.ownI.mono hB, ht⟩
theorem RowG.lt {t : TypeId} {g cap : Nat} {L : List Int} {w : World} (h : RowG t g cap L w) : g < w.heap.size := by
  rcases h.2 with ⟨h1, -⟩ | ⟨g', cap', cur, h1, hg, hh, -⟩
  · cases h1
  · injection h1 with h1 h2 h3
    injection h1 with h1
    injection h1 with h1
    subst h1
    exact (Array.getElem?_eq_some_iff.1 hh).1
theorem RowG.free {t : TypeId} {g cap : Nat} {L : List Int} {w : World} (h : RowG t g cap L w) (j : Nat) : w.frozen? ⟨g, j, none⟩ = false := World.ownsRow.frozenAt h j
theorem RowG.cell {t : TypeId} {g cap : Nat} {L : List Int} {w : World} (h : RowG t g cap L w) {j : Nat} (hj : j < L.length) : w.cell? ⟨g, j, none⟩ = some (.int .i64 (L.getD j 0)) := by
  have := World.ownsRow.cellAt h j (by simpa using hj)
  rw [this]
  simp [zv, List.getD, hj]
theorem RowG.set {t : TypeId} {g cap : Nat} {L : List Int} {w : World} (h : RowG t g cap L w) (j : Nat) (z : Int) : RowG t g cap (L.set j z) (w.setCell ⟨g, j, none⟩ (.int .i64 z)) := by
  have := (World.ownsRow.stored h j (.int .i64 z)).1
  unfold RowG
  rw [List.length_set, List.map_set]
  exact this
/-- a row of the call's own that is not empty lies in one block -/
theorem RowG.of {t : TypeId} {B : Nat} {L : List Int} {v : Value} {w : World} (h : w.ownsRow B t 1 v L.length (L.map zv)) (h0 : 1 ≤ L.length) : ∃ g cap, v = .slice (some ⟨g, 0, none⟩) L.length cap ∧ B ≤ g ∧ RowG t g cap L w := by
  obtain ⟨h1, h2⟩ := h
  rcases h2 with ⟨-, h2⟩ | ⟨g, cap, cur, rfl, hg, hh, h3, h4, h5, h6⟩
  · omega
  · exact ⟨g, cap, rfl, hg, h1, .inr ⟨g, cap, cur, rfl, Nat.le_refl _, hh, h3, h4, h5, h6⟩⟩
theorem RowG.made {t : TypeId} {n : Nat} {L : List Int} {w w' : World} (h : w'.ownsRow w.heap.size t 1 (.slice (some ⟨w.heap.size, 0, none⟩) n n) n (L.map zv)) (hn : L.length = n) : RowG t w.heap.size n L w' := by subst hn; exact h

theorem RowG.gr {t : TypeId} {g cap : Nat} {L : List Int} {w w' : World} (h : RowG t g cap L w) (ht : t ∈ notBox) (k : Gr w w') : RowG t g cap L w' := by
  obtain ⟨h1, h2⟩ := h
  refine ⟨h1, ?_⟩
  rcases h2 with h2 | ⟨g', cap', cur, e, hg, hh, rest⟩
  · exact .inl h2
  · refine .inr ⟨g', cap', cur, e, hg, ?_, rest⟩
    rcases k.blk g' (Array.getElem?_eq_some_iff.1 hh).1 with e' | ⟨m, k1, -⟩
    · rw [e']; exact hh
    · obtain ⟨cur', t', k1, -, k3, -⟩ := k1
      rw [hh] at k1
      injection k1 with k1
      injection k1 with _ k1
      exact absurd (k1 ▸ ht) k3
/-- a row in one block, that stays -/
def RowZ (t : TypeId) (g cap : Nat) (L : List Int) (w : World) : Prop := RowG t g cap L w ∧ t ∈ notBox
theorem RowZ.ext {t : TypeId} {g cap : Nat} {L : List Int} {w w' : World} (h : RowZ t g cap L w) (k : Ext w w') : RowZ t g cap L w' := ⟨h.1.ext k, h.2⟩
theorem RowZ.gr {t : TypeId} {g cap : Nat} {L : List Int} {w w' : World} (h : RowZ t g cap L w) (k : Gr w w') : RowZ t g cap L w' := ⟨h.1.gr h.2 k, h.2⟩
/-- a cell that was there long ago -/
theorem At.blw {B t o : Nat} {u : Value} {a b : World} (h : At t o u a) (k : Below B a b) (hB : t < B) : At t o u b :=
  ⟨by rw [Below.cell k (p := ⟨t, o, none⟩) hB]; exact h.1, Nat.lt_of_lt_of_le h.2 k.size⟩
/-- a box that holds a fraction -/
def BoxR (s : Nat) (q : Rat) (w : World) : Prop := ∃ b p n c p' n' c' m d, At s 0 (.bool b) w ∧ At s 1 (.slice p n c) w ∧ At s 2 (.slice p' n' c') w ∧ Bx 3 s w ∧ IsR w b (.slice p n c) (.slice p' n' c') m d q
theorem BoxR.mk {s : Nat} {q : Rat} {w : World} {b : Bool} {p p' : Option Addr} {n c n' c' m d : Nat} (h0 : At s 0 (.bool b) w) (h1 : At s 1 (.slice p n c) w) (h2 : At s 2 (.slice p' n' c') w) (hb : Bx 3 s w) (hr : IsR w b (.slice p n c) (.slice p' n' c') m d q) : BoxR s q w := ⟨_, _, _, _, _, _, _, _, _, h0, h1, h2, hb, hr⟩
theorem ints_cell {w : World} {v : Value} {L : List Int} (h : Ints w v L) (h0 : 1 ≤ L.length) : ∃ b o cap, v = .slice (some ⟨b, o, none⟩) L.length cap ∧ ∀ j, j < L.length → At b (o + j) (.int .i64 (L.getD j 0)) w := by
  obtain ⟨a, cap, h1, -, -, h4⟩ := h.open
  obtain ⟨b, o, q1, q2, q3⟩ := h4 0 (by omega)
  subst q1
  exact ⟨b, o, cap, h1, fun j hj => ⟨q3 j hj, q2⟩⟩
end Go.Proofs.YtefeglkbikcjeaaDoor
