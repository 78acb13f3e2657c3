/- What an operation of a region leaves, its memory being the call's own; boxes by the type of their block. -/
import Derived.Test.YtefeglkbikcjeaaGreatDoorRegInv2
import Derived.Test.YtefeglkbikcjeaaGreatDoorLawOwn
namespace Go.Proofs.YtefeglkbikcjeaaGreatDoor
open Go Go.RowKit

/-- the call returns z, as it is told, in new memory -/
def RetOs (w : World) (z : Int) (e : Ending) (w' : World) : Prop := ∃ b v m, e = .returned (.agg #[.bool b, v]) ∧ IsI w' b v m z ∧ OwnL w.heap.size w' v (dig m) ∧ Ext w w'
theorem RetI.os {w w' : World} {z : Int} {e : Ending} (h : RetI w z e w') : RetOs w z e w' := by
  obtain ⟨v, rfl, h1, h2⟩ := h
  exact ⟨_, v, _, rfl, ⟨rfl, rfl, h1.limbs⟩, h1, h2⟩
theorem add_os {w : World} {b1 b2 : Bool} {v u : Value} {k l : Nat} {x y : Int} (hx : InI w b1 v k x) (hy : InI w b2 u l y) (hk : k ≤ 65535) (hl : l ≤ 65535) :
    Calls Tryz.prog 13 #[.agg #[.bool b1, v], .agg #[.bool b2, u]] w (RetOs w (x + y)) := by
  obtain ⟨A, a1, rfl, a3⟩ := hx
  obtain ⟨B, c1, rfl, c3⟩ := hy
  exact (iadd_calls a1 c1 (by omega) (by omega) b1 b2).mono fun _ _ h => h.os
theorem sub_os {w : World} {b1 b2 : Bool} {v u : Value} {k l : Nat} {x y : Int} (hx : InI w b1 v k x) (hy : InI w b2 u l y) (hk : k ≤ 65535) (hl : l ≤ 65535) :
    Calls Tryz.prog 14 #[.agg #[.bool b1, v], .agg #[.bool b2, u]] w (RetOs w (x - y)) := by
  obtain ⟨A, a1, rfl, a3⟩ := hx
  obtain ⟨B, c1, rfl, c3⟩ := hy
  exact (isub_calls a1 c1 (by omega) (by omega) b1 b2).mono fun _ _ h => h.os
theorem mul_os {w : World} {b1 b2 : Bool} {v u : Value} {k l : Nat} {x y : Int} (hx : InI w b1 v k x) (hy : InI w b2 u l y) (hk : k + l ≤ 65536) :
    Calls Tryz.prog 15 #[.agg #[.bool b1, v], .agg #[.bool b2, u]] w (RetOs w (x * y)) := by
  obtain ⟨A, a1, rfl, a3⟩ := hx
  obtain ⟨B, c1, rfl, c3⟩ := hy
  exact (imul_calls a1 c1 (by omega) b1 b2).mono fun _ _ h => h.os
theorem neg_os {w : World} {b1 : Bool} {v : Value} {k : Nat} {x : Int} (hx : InI w b1 v k x) (hk : k ≤ 65535) :
    Calls Tryz.prog 12 #[.agg #[.bool b1, v]] w (RetOs w (-x)) := by
  obtain ⟨A, a1, rfl, a3⟩ := hx
  exact (neg_calls a1 (by omega) b1).mono fun _ _ h => h.os

/-- block s is a box for whole numbers -/
def BoxTy (s : Nat) (w : World) : Prop := ∃ cur f, w.heap[s]? = some (.cells cur 25 f)
theorem BoxTy.new {w : World} {C : Array Value} : BoxTy w.heap.size (w.alloc (.cells C 25)) := ⟨C, (0, 0), heap_alloc_new w _⟩
theorem BoxTy.ext {s : Nat} {a b : World} (h : BoxTy s a) (x : Ext a b) : BoxTy s b := by
  obtain ⟨cur, f, e⟩ := h
  exact ⟨cur, f, by rw [x.block s (Array.getElem?_eq_some_iff.1 e).1]; exact e⟩
theorem BoxTy.set {s : Nat} {w : World} (h : BoxTy s w) (p : Addr) (u : Value) : BoxTy s (w.setCell p u) := by
  obtain ⟨cur, f, h1⟩ := h
  by_cases e : p.block = s
  · refine ⟨if p.spot.isSome then cur else cur.setIfInBounds p.off u, f, ?_⟩
    simp only [World.setCell, Array.getElem?_modify, e, if_true, h1, Option.map_some]
  · exact ⟨cur, f, by rw [Below.heap_setCell _ _ _ _ (fun x => e x.symm)]; exact h1⟩
theorem own_ty {w : World} {B : Nat} {e : TypeId} {s : Nat} {v : Value} {n : Nat} {xs : List Value} (h : w.ownsRow B e s v n xs) {g : Nat} (hg : v.ownBlock = some g) : ∃ cur, w.heap[g]? = some (.cells cur e (0, 0)) := by
  rcases h.2 with ⟨rfl, -⟩ | ⟨g', cap, cur, rfl, -, hh, -⟩
  · cases hg
  · have : g' = g := by simpa [Value.ownBlock] using hg
    subst this
    exact ⟨cur, hh⟩
theorem OwnL.storeTy {B : Nat} {w : World} {v : Value} {A : List Nat} (h : OwnL B w v A) {p : Addr} (hp : BoxTy p.block w) (u : Value) : OwnL B (w.setCell p u) v A := by
  refine ⟨?_, h.2⟩
  rcases h.1 with h1 | ⟨a, h1, h2, h3, h4⟩
  · refine .inl (h1.kept (row := some p.block) ⟨rfl, rfl, rfl, by simp [World.setCell], fun k hk hne => Below.heap_setCell _ _ _ _ (fun e => hne (by rw [e]))⟩ ?_)
    cases hv : v.ownBlock with
    | none => exact .inl rfl
    | some b =>
      right
      intro e
      have h6 : p.block = b := by injection e with e; exact e.symm
      obtain ⟨cur, hc⟩ := own_ty h1 hv
      obtain ⟨cur', f, hc'⟩ := hp
      rw [h6, hc] at hc'
      injection hc' with hc'
      injection hc' with _ ht _
      exact absurd ht (by decide)
  · exact .inr ⟨a, h1, h2, h3, fun q hq => ⟨(h4 q hq).1, by have := (h4 q hq).2; simpa [World.setCell] using this⟩⟩

/-- a whole number in memory of the region's own -/
def Sp.own (B : Nat) (z : Int) : Sp := ⟨fun v w => ∃ b p n c m, v = .agg #[.bool b, .slice p n c] ∧ IsI w b (.slice p n c) m z ∧ OwnL B w (.slice p n c) (dig m), fun _ _ _ ⟨b, p, n, c, m, h, i, j⟩ x => ⟨b, p, n, c, m, h, i.ext x, j.ext x⟩⟩
/-- limbs with a sign, as they came in, in memory of the region's own -/
def Sp.copy (B : Nat) (b : Bool) (A : List Nat) : Sp := ⟨fun v w => ∃ p n c, v = .agg #[.bool b, .slice p n c] ∧ OwnL B w (.slice p n c) A, fun _ _ _ ⟨p, n, c, h, i⟩ x => ⟨p, n, c, h, i.ext x⟩⟩
theorem OwnL.slice {B : Nat} {w : World} {v : Value} {A : List Nat} (h : OwnL B w v A) : ∃ a n c, v = .slice a n c := by
  obtain ⟨a, c, h, -⟩ := h.limbs.open; exact ⟨a, _, c, h⟩
/-- a new box for a whole number, with its block's type -/
def Sp.boxT (lo : Nat) : Sp := ⟨fun v w => ∃ s, v = .pointer (some ⟨s, 0, none⟩) ∧ lo ≤ s ∧ BoxAt s w ∧ BoxTy s w, fun _ _ _ ⟨s, h, hl, a, b⟩ x => ⟨s, h, hl, a.ext x, b.ext x⟩⟩
/-- what a call owns may be written over -/
theorem OwnL.soft {B s : Nat} {w : World} {v : Value} {A : List Nat} (h : OwnL B w v A) (hs : ∀ g, v.ownBlock = some g → g ≠ s) : Soft B s w v := by
  rcases h.1 with ⟨-, ⟨rfl, h1⟩ | ⟨g, cap, cur, rfl, hg, hh, hn, hc, hl, -⟩⟩ | ⟨a, rfl, h1, h2, h3⟩
  · exact ⟨none, 0, 0, rfl, Nat.le_refl _, Nat.zero_le _, .inl rfl⟩
  · exact ⟨_, _, cap, rfl, hn, hc, .inr ⟨g, rfl, hg, hs g rfl, cur, _, hh, by rw [hl, Nat.mul_one]⟩⟩
  · exact ⟨a, 0, 0, rfl, Nat.le_refl _, Nat.zero_le _, .inl rfl⟩
end Go.Proofs.YtefeglkbikcjeaaGreatDoor
