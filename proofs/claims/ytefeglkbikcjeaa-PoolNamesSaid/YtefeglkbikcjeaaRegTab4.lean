/- Tables of structs of two numbers, a row of numbers, and a number, made in regions that draw their order. -/
import Derived.Test.YtefeglkbikcjeaaRegTab
namespace Go.Proofs.Ytefeglkbikcjeaa
open Go Go.RowKit

abbrev Row4 := Int × Int × List Int × Int
/-- such a struct -/
def Sg.agg4 (t : TypeId) (k n : Int) (L : List Int) (x : Int) : Sg := ⟨fun v w => ∃ a m c, v = .agg #[.int .i64 k, .int .i64 n, .slice a m c, .int .i64 x] ∧ OwnZ t 0 w (.slice a m c) L, fun _ _ _ ⟨a, m, c, h1, h2⟩ g => ⟨a, m, c, h1, h2.gr g⟩⟩
/-- the cells of a table of such structs -/
def Rows4 (t : TypeId) (w : World) : List Row4 → List Value → Prop
  | [], us => us = []
  | r :: rows, us => ∃ a m c us', us = .int .i64 r.1 :: .int .i64 r.2.1 :: .slice a m c :: .int .i64 r.2.2.2 :: us' ∧ OwnZ t 0 w (.slice a m c) r.2.2.1 ∧ Rows4 t w rows us'
theorem Rows4.nil (t : TypeId) (w : World) : Rows4 t w [] [] := rfl
theorem Rows4.cons {t : TypeId} {w : World} {a : Option Addr} {m c : Nat} {k n x : Int} {L : List Int} {us : List Value} {rows : List Row4} (h : OwnZ t 0 w (.slice a m c) L) (g : Rows4 t w rows us) :
    Rows4 t w ((k, n, L, x) :: rows) (.int .i64 k :: .int .i64 n :: .slice a m c :: .int .i64 x :: us) := ⟨a, m, c, us, rfl, h, g⟩
theorem Rows4.mono {t : TypeId} {w w' : World} (f : ∀ v L, OwnZ t 0 w v L → OwnZ t 0 w' v L) : ∀ {rows : List Row4} {us : List Value}, Rows4 t w rows us → Rows4 t w' rows us
  | [], _, h => h
  | _ :: _, _, ⟨a, m, c, us', h1, h2, h3⟩ => ⟨a, m, c, us', h1, f _ _ h2, Rows4.mono f h3⟩
theorem Rows4.get {t : TypeId} {w : World} : ∀ {rows : List Row4} {us : List Value}, Rows4 t w rows us → ∀ {i : Nat} {r : Row4}, rows[i]? = some r →
    ∃ a m c, us[i * 4]? = some (.int .i64 r.1) ∧ us[i * 4 + 1]? = some (.int .i64 r.2.1) ∧ us[i * 4 + 2]? = some (.slice a m c) ∧ us[i * 4 + 3]? = some (.int .i64 r.2.2.2) ∧ OwnZ t 0 w (.slice a m c) r.2.2.1
  | [], _, _, _, _, h => by simp at h
  | q :: rows, _, ⟨a, m, c, us', h1, h2, h3⟩, i, r, h => by
    subst h1
    cases i with
    | zero =>
      simp at h
      subst h
      exact ⟨a, m, c, rfl, rfl, rfl, rfl, h2⟩
    | succ i =>
      obtain ⟨a', m', c', k1, k2, k3, k4, k5⟩ := Rows4.get h3 (i := i) (r := r) (by simpa using h)
      refine ⟨a', m', c', ?_, ?_, ?_, ?_, k5⟩
      · rw [show (i + 1) * 4 = i * 4 + 1 + 1 + 1 + 1 by omega]; simpa using k1
      · rw [show (i + 1) * 4 + 1 = i * 4 + 1 + 1 + 1 + 1 + 1 by omega]; simpa using k2
      · rw [show (i + 1) * 4 + 2 = i * 4 + 2 + 1 + 1 + 1 + 1 by omega]; simpa using k3
      · rw [show (i + 1) * 4 + 3 = i * 4 + 3 + 1 + 1 + 1 + 1 by omega]; simpa using k4
/-- the table in block g -/
def Tab4 (t : TypeId) (g : Nat) (rows : List Row4) (w : World) : Prop := ∃ (cur : Array Value) (ty : TypeId), w.heap[g]? = some (.cells cur ty (0, 0)) ∧ 4 ≤ cur.size ∧ Rows4 t w rows cur.toList
theorem Tab4.ext {t : TypeId} {g : Nat} {rows : List Row4} {w w' : World} (h : Tab4 t g rows w) (x : Ext w w') : Tab4 t g rows w' := by
  obtain ⟨cur, ty, h1, h2, h3⟩ := h
  exact ⟨cur, ty, by rw [x.block g (Array.getElem?_eq_some_iff.1 h1).1]; exact h1, h2, h3.mono fun _ _ k => k.ext x⟩
theorem Tab4.gr {t : TypeId} {g : Nat} {rows : List Row4} {w w' : World} (h : Tab4 t g rows w) (x : Gr w w') : Tab4 t g rows w' := by
  obtain ⟨cur, ty, h1, h2, h3⟩ := h
  refine ⟨cur, ty, ?_, h2, h3.mono fun _ _ k => k.gr x⟩
  rcases x.blk g (Array.getElem?_eq_some_iff.1 h1).1 with e | ⟨m, ⟨cur', t', k1, ⟨k2, k3⟩, -⟩, -⟩
  · rw [e]; exact h1
  · rw [h1] at k1
    injection k1 with k1
    injection k1 with k1
    subst k1
    omega
theorem Tab4.new {t ty : TypeId} {w : World} {C : Array Value} {rows : List Row4} (hC : 4 ≤ C.size) (h : Rows4 t (w.alloc (.cells C ty)) rows C.toList) : Tab4 t w.heap.size rows (w.alloc (.cells C ty)) := ⟨C, ty, heap_alloc_new w _, hC, h⟩
theorem Tab4.cell {t : TypeId} {g : Nat} {rows : List Row4} {w : World} (h : Tab4 t g rows w) {i : Nat} {r : Row4} (hi : rows[i]? = some r) :
    ∃ a m c, w.cell? ⟨g, i * 4, none⟩ = some (.int .i64 r.1) ∧ w.cell? ⟨g, i * 4 + 1, none⟩ = some (.int .i64 r.2.1) ∧ w.cell? ⟨g, i * 4 + 2, none⟩ = some (.slice a m c) ∧ w.cell? ⟨g, i * 4 + 3, none⟩ = some (.int .i64 r.2.2.2) ∧ OwnZ t 0 w (.slice a m c) r.2.2.1 := by
  obtain ⟨cur, ty, h1, h2, h3⟩ := h
  obtain ⟨a, m, c, k1, k2, k3, k4, k5⟩ := h3.get hi
  exact ⟨a, m, c, by rw [cell_of_row w g _ cur ty (0, 0) h1, ← Array.getElem?_toList]; exact k1, by rw [cell_of_row w g _ cur ty (0, 0) h1, ← Array.getElem?_toList]; exact k2, by rw [cell_of_row w g _ cur ty (0, 0) h1, ← Array.getElem?_toList]; exact k3, by rw [cell_of_row w g _ cur ty (0, 0) h1, ← Array.getElem?_toList]; exact k4, k5⟩
def Sg.tab4 (t : TypeId) (n : Nat) (rows : List Row4) : Sg := ⟨fun v w => ∃ g, v = .slice (some ⟨g, 0, none⟩) n n ∧ Tab4 t g rows w, fun _ _ _ ⟨g, h1, h2⟩ x => ⟨g, h1, h2.gr x⟩⟩
end Go.Proofs.Ytefeglkbikcjeaa
