/- Tables of structs that hold rows of numbers, made in regions that draw their order. -/
import Derived.Test.YtefeglkbikcjeaaRegApp
namespace Go.Proofs.Ytefeglkbikcjeaa
open Go Go.RowKit

/-- a row of numbers -/
def Sg.z (t : TypeId) (L : List Int) : Sg := ⟨fun v w => ∃ a n c, v = .slice a n c ∧ OwnZ t 0 w (.slice a n c) L, fun _ _ _ ⟨a, n, c, h1, h2⟩ g => ⟨a, n, c, h1, h2.gr g⟩⟩
/-- a struct of a row of numbers and a known value -/
def Sg.agg2 (t : TypeId) (L : List Int) (x : Value) : Sg := ⟨fun v w => ∃ a n c, v = .agg #[.slice a n c, x] ∧ OwnZ t 0 w (.slice a n c) L, fun _ _ _ ⟨a, n, c, h1, h2⟩ g => ⟨a, n, c, h1, h2.gr g⟩⟩
/-- the cells of a table of such structs -/
def Rows2 (t : TypeId) (w : World) : List Value → List (List Int × Value) → Prop
  | [], [] => True
  | s :: x :: us, r :: rows => (∃ a n c, s = .slice a n c ∧ OwnZ t 0 w (.slice a n c) r.1) ∧ x = r.2 ∧ Rows2 t w us rows
  | _, _ => False
theorem Rows2.nil (t : TypeId) (w : World) : Rows2 t w [] [] := trivial
theorem Rows2.cons {t : TypeId} {w : World} {a : Option Addr} {n c : Nat} {x : Value} {L : List Int} {us : List Value} {rows : List (List Int × Value)} (h : OwnZ t 0 w (.slice a n c) L) (k : Rows2 t w us rows) : Rows2 t w (.slice a n c :: x :: us) ((L, x) :: rows) :=
  ⟨⟨a, n, c, rfl, h⟩, rfl, k⟩
theorem Rows2.mono {t : TypeId} {w w' : World} (f : ∀ v L, OwnZ t 0 w v L → OwnZ t 0 w' v L) : ∀ {us : List Value} {rows : List (List Int × Value)}, Rows2 t w us rows → Rows2 t w' us rows
  | [], [], _ => trivial
  | _ :: _ :: _, _ :: _, ⟨⟨a, n, c, h1, h2⟩, h3, h4⟩ => ⟨⟨a, n, c, h1, f _ _ h2⟩, h3, Rows2.mono f h4⟩
  | [_], [], h => h.elim
  | [], _ :: _, h => h.elim
  | [_], _ :: _, h => h.elim
  | _ :: _ :: _, [], h => h.elim
theorem Rows2.get {t : TypeId} {w : World} : ∀ {us : List Value} {rows : List (List Int × Value)}, Rows2 t w us rows → ∀ {i : Nat} {r : List Int × Value}, rows[i]? = some r → ∃ a n c, us[i * 2]? = some (.slice a n c) ∧ us[i * 2 + 1]? = some r.2 ∧ OwnZ t 0 w (.slice a n c) r.1
  | [], [], _, _, _, h => by simp at h
  | s :: x :: us, q :: rows, ⟨⟨a, n, c, h1, h2⟩, h3, h4⟩, i, r, h => by
    cases i with
    | zero =>
      simp at h
      subst h
      exact ⟨a, n, c, by rw [h1]; rfl, by rw [h3]; rfl, h2⟩
    | succ i =>
      obtain ⟨a', n', c', k1, k2, k3⟩ := Rows2.get h4 (i := i) (r := r) (by simpa using h)
      refine ⟨a', n', c', ?_, ?_, k3⟩
      · rw [show (i + 1) * 2 = i * 2 + 1 + 1 by omega]; simpa using k1
      · rw [show (i + 1) * 2 + 1 = i * 2 + 1 + 1 + 1 by omega]; simpa using k2
  | [_], [], h, _, _, _ => h.elim
  | [], _ :: _, h, _, _, _ => h.elim
  | [_], _ :: _, h, _, _, _ => h.elim
  | _ :: _ :: _, [], h, _, _, _ => h.elim
/-- the table in block g -/
def Tab2 (t : TypeId) (g : Nat) (rows : List (List Int × Value)) (w : World) : Prop := ∃ (cur : Array Value) (ty : TypeId), w.heap[g]? = some (.cells cur ty (0, 0)) ∧ 4 ≤ cur.size ∧ Rows2 t w cur.toList rows
theorem Tab2.ext {t : TypeId} {g : Nat} {rows : List (List Int × Value)} {w w' : World} (h : Tab2 t g rows w) (x : Ext w w') : Tab2 t g rows w' := by
  obtain ⟨cur, ty, h1, h2, h3⟩ := h
  exact ⟨cur, ty, by rw [x.block g (Array.getElem?_eq_some_iff.1 h1).1]; exact h1, h2, h3.mono fun _ _ k => k.ext x⟩
theorem Tab2.gr {t : TypeId} {g : Nat} {rows : List (List Int × Value)} {w w' : World} (h : Tab2 t g rows w) (x : Gr w w') : Tab2 t g rows w' := by
  obtain ⟨cur, ty, h1, h2, h3⟩ := h
  refine ⟨cur, ty, ?_, h2, h3.mono fun _ _ k => k.gr x⟩
  rcases x.blk g (Array.getElem?_eq_some_iff.1 h1).1 with e | ⟨m, ⟨cur', t', k1, ⟨k2, k3⟩, -⟩, -⟩
  · rw [e]; exact h1
  · rw [h1] at k1
    injection k1 with k1
    injection k1 with k1
    subst k1
    omega
theorem Tab2.new {t ty : TypeId} {w : World} {C : Array Value} {rows : List (List Int × Value)} (hC : 4 ≤ C.size) (h : Rows2 t (w.alloc (.cells C ty)) C.toList rows) : Tab2 t w.heap.size rows (w.alloc (.cells C ty)) := ⟨C, ty, heap_alloc_new w _, hC, h⟩
theorem Tab2.cell {t : TypeId} {g : Nat} {rows : List (List Int × Value)} {w : World} (h : Tab2 t g rows w) {i : Nat} {r : List Int × Value} (hi : rows[i]? = some r) :
    ∃ a n c, w.cell? ⟨g, i * 2, none⟩ = some (.slice a n c) ∧ w.cell? ⟨g, i * 2 + 1, none⟩ = some r.2 ∧ OwnZ t 0 w (.slice a n c) r.1 := by
  obtain ⟨cur, ty, h1, h2, h3⟩ := h
  obtain ⟨a, n, c, k1, k2, k3⟩ := h3.get hi
  exact ⟨a, n, c, by rw [cell_of_row w g _ cur ty (0, 0) h1, ← Array.getElem?_toList]; exact k1, by rw [cell_of_row w g _ cur ty (0, 0) h1, ← Array.getElem?_toList]; exact k2, k3⟩
def Sg.tab2 (t : TypeId) (n : Nat) (rows : List (List Int × Value)) : Sg := ⟨fun v w => ∃ g, v = .slice (some ⟨g, 0, none⟩) n n ∧ Tab2 t g rows w, fun _ _ _ ⟨g, h1, h2⟩ x => ⟨g, h1, h2.gr x⟩⟩
theorem lit_z {t : TypeId} {w : World} (L : List Int) (C : Array Value) (hC : C.toList = L.map zv) (n : Nat) (hn : n = L.length) (hl : L.length ≤ 100000) (ht : t ∈ notBox := by decide) : (Sg.z t L).holds (.slice (some ⟨w.heap.size, 0, none⟩) n n) (w.alloc (.cells C t)) :=
  ⟨_, _, _, rfl, litz_n0 L C hC n hn hl (Nat.zero_le _) ht⟩
theorem made_z {t : TypeId} {w' : World} {g n : Nat} (h : RowG t g n (List.replicate n 0) w') (ht : t ∈ notBox := by decide) : (Sg.z t (List.replicate n 0)).holds (.slice (some ⟨g, 0, none⟩) n n) w' :=
  ⟨_, _, _, rfl, by have := h.ownZ (Nat.zero_le _) ht; rwa [List.length_replicate] at this⟩
end Go.Proofs.Ytefeglkbikcjeaa
