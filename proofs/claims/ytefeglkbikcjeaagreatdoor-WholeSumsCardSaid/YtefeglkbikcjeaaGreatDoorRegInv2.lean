/- What an operation leaves, as a thing that grows with the memory; the law of regions, operation by operation. -/
import Derived.Test.YtefeglkbikcjeaaGreatDoorPartA
import Derived.Test.YtefeglkbikcjeaaGreatDoorPartC
namespace Go.Proofs.YtefeglkbikcjeaaGreatDoor
open Go Go.RowKit

/-- what is said of a value, in a world, and stays true as memory grows -/
structure Sp where
  holds : Value → World → Prop
  mono : ∀ v w w', holds v w → Ext w w' → holds v w'
def Sp.val (u : Value) : Sp := ⟨fun v _ => v = u, fun _ _ _ h _ => h⟩
/-- a whole number -/
def Sp.int (z : Int) : Sp := ⟨fun v w => ∃ b p n c m, v = .agg #[.bool b, .slice p n c] ∧ IsI w b (.slice p n c) m z, fun _ _ _ ⟨b, p, n, c, m, h, i⟩ x => ⟨b, p, n, c, m, h, i.ext x⟩⟩
/-- a quotient, and what is left -/
def Sp.div (x y : Int) (k : Int) : Sp := ⟨fun v w => ∃ b p n c m p' n' c' m', v = .tuple #[.agg #[.bool b, .slice p n c], .agg #[.bool false, .slice p' n' c'], .int .i64 k] ∧ IsI w b (.slice p n c) m x ∧ IsI w false (.slice p' n' c') m' y,
  fun _ _ _ ⟨b, p, n, c, m, p', n', c', m', h, i, j⟩ x => ⟨b, p, n, c, m, p', n', c', m', h, i.ext x, j.ext x⟩⟩
/-- a whole number from 0 on -/
def Sp.nat (z : Int) : Sp := ⟨fun v w => ∃ p n c m, v = .agg #[.bool false, .slice p n c] ∧ IsI w false (.slice p n c) m z, fun _ _ _ ⟨p, n, c, m, h, i⟩ x => ⟨p, n, c, m, h, i.ext x⟩⟩
/-- a new box for a whole number -/
structure BoxAt (s : Nat) (w : World) : Prop where
  c0 : At s 0 (.bool false) w
  c1 : At s 1 (.slice none 0 0) w
  f0 : Fr s 0 w
  f1 : Fr s 1 w
  two : ∀ j u, w.cell? ⟨s, j, none⟩ = some u → j < 2
theorem BoxAt.ext {s : Nat} {a b : World} (h : BoxAt s a) (x : Ext a b) : BoxAt s b :=
  ⟨h.c0.ext x, h.c1.ext x, h.f0.ext x, h.f1.ext x, fun j u hu => h.two j u (by rw [← Below.cell x (p := ⟨s, j, none⟩) h.c0.2]; exact hu)⟩
theorem BoxAt.new {w : World} {t : TypeId} : BoxAt w.heap.size (w.alloc (.cells #[.bool false, .slice none 0 0] t)) :=
  ⟨At.n0 rfl, At.n0 rfl, Fr.n0, Fr.n0, fun j u hu => by
    rw [cell_of_row _ w.heap.size _ #[.bool false, .slice none 0 0] t (0, 0) (heap_alloc_new w _)] at hu
    exact (Array.getElem?_eq_some_iff.1 hu).1⟩
def Sp.box (lo : Nat) : Sp := ⟨fun v w => ∃ s, v = .pointer (some ⟨s, 0, none⟩) ∧ lo ≤ s ∧ BoxAt s w, fun _ _ _ ⟨s, h, hl, a⟩ x => ⟨s, h, hl, a.ext x⟩⟩
theorem Limbs.store {w : World} {v : Value} {A : List Nat} (h : Limbs w v A) {s : Nat} (hb : BoxAt s w) (x y : Value) : Limbs ((w.setCell ⟨s, 0, none⟩ x).setCell ⟨s, 1, none⟩ y) v A := by
  obtain ⟨⟨h1, a, cap, h2, h3, h4, h5, h6⟩, h7⟩ := h
  refine ⟨⟨h1, a, cap, h2, h3, h4, h5, fun p hp h0 => ?_⟩, h7⟩
  obtain ⟨q1, q2, q3⟩ := h6 p hp h0
  refine ⟨q1, by simpa [World.setCell] using q2, fun j hj => ?_⟩
  have hc := q3 j hj
  have hne : s ≠ p.block := by
    intro e
    have h2 := hb.two (p.off + j) _ (by rw [e]; exact hc)
    have hl : (A.map lv)[j] = lv (A[j]'(by simpa using hj)) := by simp
    rw [hl] at hc
    have : p.off + j = 0 ∨ p.off + j = 1 := by omega
    rcases this with g | g <;> rw [g, ← e] at hc
    · rw [hb.c0.1] at hc; cases hc
    · rw [hb.c1.1] at hc; cases hc
  rw [cell_set_other (.inl hne), cell_set_other (.inl hne)]
  exact hc
theorem IsI.store {w : World} {b : Bool} {v : Value} {m : Nat} {z : Int} (h : IsI w b v m z) {s : Nat} (hb : BoxAt s w) (x y : Value) : IsI ((w.setCell ⟨s, 0, none⟩ x).setCell ⟨s, 1, none⟩ y) b v m z := ⟨h.1, h.2.1, h.2.2.store hb x y⟩
theorem BoxAt.store {w : World} {s t : Nat} (h : BoxAt t w) (hne : s ≠ t) (x y : Value) : BoxAt t ((w.setCell ⟨s, 0, none⟩ x).setCell ⟨s, 1, none⟩ y) := by
  have hc : ∀ j, ((w.setCell ⟨s, 0, none⟩ x).setCell ⟨s, 1, none⟩ y).cell? ⟨t, j, none⟩ = w.cell? ⟨t, j, none⟩ := fun j => by rw [cell_set_other (.inl hne), cell_set_other (.inl hne)]
  have hz : ((w.setCell ⟨s, 0, none⟩ x).setCell ⟨s, 1, none⟩ y).heap.size = w.heap.size := by simp [World.setCell]
  have hf : ∀ j, ((w.setCell ⟨s, 0, none⟩ x).setCell ⟨s, 1, none⟩ y).frozen? ⟨t, j, none⟩ = w.frozen? ⟨t, j, none⟩ := fun j => by
    simp [go_sem]
  exact ⟨⟨by rw [hc]; exact h.c0.1, by rw [hz]; exact h.c0.2⟩, ⟨by rw [hc]; exact h.c1.1, by rw [hz]; exact h.c1.2⟩, ⟨by rw [hf]; exact h.f0.1, by rw [hz]; exact h.f0.2⟩, ⟨by rw [hf]; exact h.f1.1, by rw [hz]; exact h.f1.2⟩, fun j u hu => h.two j u (by rw [← hc]; exact hu)⟩
theorem BoxAt.stored {w : World} {s : Nat} (h : BoxAt s w) (x y : Value) : At s 0 x ((w.setCell ⟨s, 0, none⟩ x).setCell ⟨s, 1, none⟩ y) ∧ At s 1 y ((w.setCell ⟨s, 0, none⟩ x).setCell ⟨s, 1, none⟩ y) := by
  have hz : ((w.setCell ⟨s, 0, none⟩ x).setCell ⟨s, 1, none⟩ y).heap.size = w.heap.size := by simp [World.setCell]
  have h1 : (w.setCell ⟨s, 0, none⟩ x).cell? ⟨s, 1, none⟩ = some (.slice none 0 0) := by rw [cell_set_other (.inr (by decide))]; exact h.c1.1
  exact ⟨⟨by rw [cell_set_other (.inr (by decide))]; exact cell_set_same h.c0.1 x, by rw [hz]; exact h.c0.2⟩, ⟨cell_set_same h1 y, by rw [hz]; exact h.c0.2⟩⟩
theorem At.store {w : World} {s t o : Nat} {u : Value} (h : At t o u w) (hne : s ≠ t) (x y : Value) : At t o u ((w.setCell ⟨s, 0, none⟩ x).setCell ⟨s, 1, none⟩ y) :=
  ⟨by rw [cell_set_other (.inl hne), cell_set_other (.inl hne)]; exact h.1, by simpa [World.setCell] using h.2⟩

theorem sl_get (a : Act) (k : Nat) : sl a k = a.tmps[k]?.getD undef := by simp [sl]
theorem slot_of {D : List Nat} {a0 a : Act} (h : Agree D a0 a) {k : Nat} {v : Value} (hk : k ∉ D) (hv : sl a0 k = v) : a.tmps[k]?.getD undef = v := by rw [← sl_get, h.slots k hk, hv]
theorem slot_is {a : Act} {k : Nat} {v : Value} (h : sl a k = v) : a.tmps[k]?.getD undef = v := by rw [← sl_get, h]

def AllAt (l : List (Nat × Nat × Value)) (w : World) : Prop := ∀ p ∈ l, At p.1 p.2.1 p.2.2 w
theorem AllAt.ext {l : List (Nat × Nat × Value)} {w w' : World} (h : AllAt l w) (x : Ext w w') : AllAt l w' := fun p hp => (h p hp).ext x
theorem AllAt.nil (w : World) : AllAt [] w := fun _ h => by cases h
theorem AllAt.cons {s o : Nat} {u : Value} {l : List (Nat × Nat × Value)} {w : World} (h : At s o u w) (k : AllAt l w) : AllAt ((s, o, u) :: l) w := fun p hp => by
  rcases List.mem_cons.1 hp with rfl | hp
  · exact h
  · exact k p hp
theorem AllAt.get {l : List (Nat × Nat × Value)} {w : World} (h : AllAt l w) {s o : Nat} {u : Value} (i : Nat) (hi : l[i]? = some (s, o, u)) : w.cell? ⟨s, o, none⟩ = some u := (h (s, o, u) (List.mem_of_getElem? hi)).1

/-- the operations that bind o, by their numbers -/
def preds (o : Oper) : List Nat := (o.after.toList.filter binds).map (·.on)
theorem preds_mem {o : Oper} {e : Edge} (he : e ∈ o.after) (hb : binds e = true) : e.on ∈ preds o :=
  List.mem_map.2 ⟨e, List.mem_filter.2 ⟨Array.mem_def.1 he, hb⟩, rfl⟩

def EachOp (C : Nat → Oper → Prop) : Nat → List Oper → Prop
  | _, [] => True
  | n, o :: l => C n o ∧ EachOp C (n + 1) l
theorem EachOp.get {C : Nat → Oper → Prop} : ∀ (l : List Oper) (n i : Nat) (o : Oper), EachOp C n l → l[i]? = some o → C (n + i) o
  | [], _, _, _, _, h => by simp at h
  | a :: l, n, 0, o, h, ho => by simp at ho; subst ho; exact h.1
  | a :: l, n, i + 1, o, h, ho => by
    have := EachOp.get l (n + 1) i o h.2 (by simpa using ho)
    rwa [Nat.add_assoc, Nat.add_comm 1 i] at this

/-- one operation's part of the law -/
def OpStep (P : Program) (ops : Array Oper) (Q : Exit → Act → World → Prop) (D : List Nat) (a0 : Act) (w0 : World) (pure tail fr : Nat → Bool) (sp : Nat → Sp) (cells : List (Nat × Nat × Value)) (i : Nat) (o : Oper) : Prop :=
  tail i = true ∨ ∀ a w, Agree D a0 a → AllAt cells w → Ext w0 w → (∀ j ∈ preds o, (sp j).holds (at_ ops a j) w) →
    (pure i = true ∧ fr i = false ∧ ∃ v, YieldsIf P ops (AllAt cells) o v a ∧ (sp i).holds v w) ∨
    (pure i = false ∧ wpOp P ops Q i (fun a' w' => ∃ v, a' = a.put o.dst v ∧ (sp i).holds v w' ∧ Ext w w' ∧ (fr i = true → blkOf v = w.heap.size)) a w)

theorem wp_region_ops {P : Program} {ops : Array Oper} {Q : Exit → Act → World → Prop} {id : Nat} {a0 : Act} {w0 : World} (D : List Nat) (pure tail fr : Nat → Bool) (sp : Nat → Sp) (cells : List (Nat × Nat × Value))
    (hm : P.follows .mixedOrders = true) (hpo : pureOk ops pure tail = true) (hto : tailOk ops pure tail = true) (hDi : dIn ops tail D = true) (hd : dstOk ops tail a0.tmps.size = true)
    (hQ : ∀ c a (d : Option Tmp) v w, Q (.panic c) (a.put d v) w → Q (.panic c) a w) (h0 : AllAt cells w0)
    (hfr : ∀ i v w, fr i = true → (sp i).holds v w → blkOf v < w.heap.size)
    (hs : EachOp (OpStep P ops Q D a0 w0 pure tail fr sp cells) 0 ops.toList)
    (htail : ∀ a w fuel, unl ops.size (lastL ops.size tail) ≤ fuel → Mid ops D tail fr (fun i => (sp i).holds) (AllAt cells) a0 (lastL ops.size tail) a w → Ext w0 w → wpAnyH P .any ops Q (AllAt cells) fuel (lastL ops.size tail) a w) :
    (Code.region id ops true).wp P Q a0 w0 := by
  have hstep : ∀ i o, ops[i]? = some o → OpStep P ops Q D a0 w0 pure tail fr sp cells i o := fun i o ho => by
    have := EachOp.get ops.toList 0 i o hs (by rw [Array.getElem?_toList]; exact ho)
    rwa [Nat.zero_add] at this
  refine wp_region_inv D pure tail fr (fun i => (sp i).holds) (AllAt cells) hm hpo hto hDi hd hQ (fun i => (sp i).mono) (fun _ _ h x => h.ext x) hfr (h0.ext (Ext.refl _).drew) ?_ ?_ htail
  · intro i o a w hp ho hag hS hx hpre
    have hti : tail i = false := by
      simp only [pureOk, Bool.and_eq_true] at hpo
      have := List.all_eq_true.1 hpo.2 i (List.mem_range.2 (Array.getElem?_eq_some_iff.1 ho).1)
      simp only [hp, Bool.not_true, Bool.false_or, Bool.and_eq_true, Bool.not_eq_true'] at this
      exact this.1
    rcases hstep i o ho with h | h
    · rw [hti] at h; cases h
    rcases h a w hag hS hx (fun j hj => by
      obtain ⟨e, he, rfl⟩ := List.mem_map.1 hj
      obtain ⟨h1, h2⟩ := List.mem_filter.1 he
      exact hpre e (Array.mem_def.2 h1) h2) with ⟨-, hf, v, h1, h2⟩ | ⟨h1, -⟩
    · exact ⟨v, h1, h2, hf⟩
    · rw [hp] at h1; cases h1
  · intro i o a w hp hti ho hag hS hx hpre
    rcases hstep i o ho with h | h
    · rw [hti] at h; cases h
    rcases h a w hag hS hx (fun j hj => by
      obtain ⟨e, he, rfl⟩ := List.mem_map.1 hj
      obtain ⟨h1, h2⟩ := List.mem_filter.1 he
      exact hpre e (Array.mem_def.2 h1) h2) with ⟨h1, -⟩ | ⟨-, h1⟩
    · rw [hp] at h1; cases h1
    · exact h1
end Go.Proofs.YtefeglkbikcjeaaGreatDoor
