/- What tells a fraction or why there is none; tombolalaw06.spoil. -/
import Derived.Test.YtaklejkdmfgplaaGreatDoorRefHalf
import Derived.Test.YtaklejkdmfgplaaGreatDoorPartG
namespace Go.Proofs.YtaklejkdmfgplaaGreatDoor
open Go Go.RowKit

/-- a fraction by its parts: the sign, the numerator's limbs, the denominator's -/
noncomputable def frQ6 (q : Rat) : Bool × List Nat × List Nat := (decide (q.num < 0), dig q.num.natAbs, dig q.den)
/-- the fraction that nobody made -/
def fr06 : Bool × List Nat × List Nat := (false, [], [])
def RetF6 (w : World) (x : Bool × List Nat × List Nat) (c : Nat) (e : Ending) (w' : World) : Prop :=
  ∃ p n k p' n' k', e = .returned (.tuple #[.agg #[.bool x.1, .slice p n k, .slice p' n' k'], .int .i64 (c : Int)]) ∧ OwnL w.heap.size w' (.slice p n k) x.2.1 ∧ OwnL w.heap.size w' (.slice p' n' k') x.2.2 ∧ Ext w w'
theorem retR0_f6 {w w' : World} {q : Rat} {e : Ending} (h : RetR0 w q e w') : RetF6 w (frQ6 q) 0 e w' := by
  obtain ⟨b, v, u, m, d, rfl, h1, h2, h3⟩ := h
  obtain ⟨a, n, c, a', n', c', rfl, rfl⟩ := h1.slice
  exact ⟨a, n, c, a', n', c', by rw [← h1.1]; rfl, by show OwnL _ _ _ (dig _); rw [h1.2.1]; exact h2.1, by show OwnL _ _ _ (dig _); rw [h1.2.2.1]; exact h2.2, h3⟩
theorem retRE_f6 {w w' : World} {k : Nat} {e : Ending} (h : RetRE w (k : Int) e w') : RetF6 w fr06 k e w' := by
  obtain ⟨rfl, h3⟩ := h
  exact ⟨none, 0, 0, none, 0, 0, rfl, OwnL.nil _ _, OwnL.nil _ _, h3⟩

/-- a slice of limbs that may be written over, in memory from block B on -/
def Wr (B : Nat) (w : World) (p : Option Addr) (n : Nat) : Prop := n = 0 ∨ ∃ (g : Nat) (cur : Array Value), p = some ⟨g, 0, none⟩ ∧ B ≤ g ∧ w.heap[g]? = some (.cells cur 54 (0, 0)) ∧ n ≤ cur.size
theorem OwnL.wr {B : Nat} {w : World} {p : Option Addr} {n c : Nat} {A : List Nat} (h : OwnL B w (.slice p n c) A) : Wr B w p n := by
  rcases h.1 with ⟨h1, h2⟩ | ⟨a, e1, -⟩
  · rcases h2 with ⟨e, -⟩ | ⟨g, cap, cur, e, hg, hh, hn, -, hs, -⟩
    · injection e with _ e2 _
      exact .inl e2
    · injection e with e1 e2 e3
      exact .inr ⟨g, cur, e1, hg, hh, by rw [hs, e2]; omega⟩
  · injection e1 with _ e2 _
    exact .inl e2
/-- what writing over leaves: what lies below block B; what is no limb; each row, with other limbs -/
structure Spl (B : Nat) (w w' : World) : Prop where
  below : Below B w w'
  same : ∀ (g : Nat) (cur : Array Value) (t : TypeId), w.heap[g]? = some (.cells cur t (0, 0)) → t ≠ 54 → w'.heap[g]? = some (.cells cur t (0, 0))
  rows : ∀ (g : Nat) (cur : Array Value), w.heap[g]? = some (.cells cur 54 (0, 0)) → ∃ cur' : Array Value, w'.heap[g]? = some (.cells cur' 54 (0, 0)) ∧ cur'.size = cur.size
theorem Spl.refl (B : Nat) (w : World) : Spl B w w := ⟨Below.refl _ _, fun _ _ _ h _ => h, fun _ cur h => ⟨cur, h, rfl⟩⟩
theorem Spl.ext {B : Nat} {a w w' : World} (h : Spl B w w') (x : Ext a w) (hB : B ≤ a.heap.size) : Spl B a w' := by
  have hlt : ∀ {g : Nat} {o : Obj}, a.heap[g]? = some o → w.heap[g]? = some o := fun {g o} hg => by rw [x.block g (Array.getElem?_eq_some_iff.1 hg).1]; exact hg
  exact ⟨Below.trans (x.mono hB) h.below, fun g cur t hg ht => h.same g cur t (hlt hg) ht, fun g cur hg => h.rows g cur (hlt hg)⟩
theorem Spl.trans {B : Nat} {a w w' : World} (k : Spl B a w) (h : Spl B w w') : Spl B a w' :=
  ⟨Below.trans k.below h.below, fun g cur t hg ht => h.same g cur t (k.same g cur t hg ht) ht, fun g cur hg => by
    obtain ⟨c1, q1, q2⟩ := k.rows g cur hg
    obtain ⟨c2, r1, r2⟩ := h.rows g c1 q1
    exact ⟨c2, r1, r2.trans q2⟩⟩
theorem Spl.mono {B B' : Nat} {w w' : World} (h : Spl B w w') (hB : B' ≤ B) : Spl B' w w' := ⟨h.below.mono hB, h.same, h.rows⟩
theorem Spl.set {B : Nat} {w wr : World} (h : Spl B w wr) {g : Nat} {cur : Array Value} (hg : wr.heap[g]? = some (.cells cur 54 (0, 0))) (hB : B ≤ g) (i : Nat) (u : Value) : Spl B w (wr.setCell ⟨g, i, none⟩ u) := by
  have hoth : ∀ k, k ≠ g → (wr.setCell ⟨g, i, none⟩ u).heap[k]? = wr.heap[k]? := fun k hk => Below.heap_setCell _ _ _ _ hk
  have hown : (wr.setCell ⟨g, i, none⟩ u).heap[g]? = some (.cells (cur.setIfInBounds i u) 54 (0, 0)) := by simp [World.setCell, Array.getElem?_modify, hg]
  refine ⟨Below.setCell h.below hB _, fun k c t hk ht => ?_, fun k c hk => ?_⟩
  · have h1 := h.same k c t hk ht
    rw [hoth k (fun e => by subst e; rw [hg] at h1; injection h1 with h1; injection h1 with _ h1; exact ht h1.symm)]
    exact h1
  · obtain ⟨c1, q1, q2⟩ := h.rows k c hk
    by_cases e : k = g
    · subst e
      rw [hg] at q1
      injection q1 with q1
      injection q1 with q1
      subst q1
      exact ⟨_, hown, by rw [Array.size_setIfInBounds, q2]⟩
    · exact ⟨c1, by rw [hoth k e]; exact q1, q2⟩
theorem Wr.spl {B B' : Nat} {w w' : World} {p : Option Addr} {n : Nat} (h : Wr B' w p n) (s : Spl B w w') : Wr B' w' p n := by
  rcases h with h | ⟨g, cur, h1, h2, h3, h4⟩
  · exact .inl h
  · obtain ⟨c1, q1, q2⟩ := s.rows g cur h3
    exact .inr ⟨g, c1, h1, h2, q1, by omega⟩
theorem Wr.ext {B : Nat} {w w' : World} {p : Option Addr} {n : Nat} (h : Wr B w p n) (x : Ext w w') : Wr B w' p n := by
  rcases h with h | ⟨g, cur, h1, h2, h3, h4⟩
  · exact .inl h
  · exact .inr ⟨g, cur, h1, h2, by rw [x.block g (Array.getElem?_eq_some_iff.1 h3).1]; exact h3, h4⟩
theorem Wr.mono {B B' : Nat} {w : World} {p : Option Addr} {n : Nat} (h : Wr B w p n) (k : B' ≤ B) : Wr B' w p n := by
  rcases h with h | ⟨g, cur, h1, h2, h3, h4⟩
  · exact .inl h
  · exact .inr ⟨g, cur, h1, Nat.le_trans k h2, h3, h4⟩
/-- a box of a fraction -/
def BoxV (s : Nat) (b : Bool) (v u : Value) (w : World) : Prop := w.heap[s]? = some (.cells #[.bool b, v, u] 36 (0, 0))
theorem BoxV.ext {s : Nat} {b : Bool} {v u : Value} {w w' : World} (h : BoxV s b v u w) (x : Ext w w') : BoxV s b v u w' := by
  unfold BoxV at h ⊢
  rw [x.block s (Array.getElem?_eq_some_iff.1 h).1]; exact h
theorem BoxV.spl {B s : Nat} {b : Bool} {v u : Value} {w w' : World} (h : BoxV s b v u w) (x : Spl B w w') : BoxV s b v u w' := x.same s _ _ h (by decide)
theorem BoxV.new {b : Bool} {v u : Value} (w : World) : BoxV w.heap.size b v u (w.alloc (.cells #[.bool b, v, u] 36)) := heap_alloc_new w _
theorem BoxV.cells {s : Nat} {b : Bool} {v u : Value} {w : World} (h : BoxV s b v u w) : w.cell? ⟨s, 0, none⟩ = some (.bool b) ∧ w.cell? ⟨s, 1, none⟩ = some v ∧ w.cell? ⟨s, 2, none⟩ = some u :=
  ⟨by rw [cell_of_row w s 0 _ _ (0, 0) h]; rfl, by rw [cell_of_row w s 1 _ _ (0, 0) h]; rfl, by rw [cell_of_row w s 2 _ _ (0, 0) h]; rfl⟩

set_option maxHeartbeats 1600000 in
set_option maxRecDepth 100000 in
theorem spoil06_calls {B : Nat} {w : World} {b : Bool} {p p' : Option Addr} {n c n' c' : Nat} (h : Wr B w p n) (h' : Wr B w p' n') (hB : B ≤ w.heap.size) (hn : n ≤ maxLen) (hn' : n' ≤ maxLen) :
    Calls Tryz.prog 33 #[.agg #[.bool b, .slice p n c, .slice p' n' c']] w fun e w' => e = .returned (.tuple #[]) ∧ Spl B w w' := by
  have X0 : Hid (Ext w (w.alloc (.cells #[.bool b, .slice p n c, .slice p' n' c'] 36))) := (Ext.refl _).alloc _
  have BX := Lib.hid (BoxV.new (b := b) (v := .slice p n c) (u := .slice p' n' c') w)
  have H1 := Lib.hid (h.ext X0.out)
  have H2 := Lib.hid (h'.ext X0.out)
  have HB := Lib.hid hB
  unfold maxLen at hn hn'
  have n1 : (n : Int) ≤ 9223372036854775807 := by omega
  have n2 : (n' : Int) ≤ 9223372036854775807 := by omega
  clear h h' hB hn hn'
  go_enter Tryz.func33, Tryz.ntmps33
  go_wp2_with fail
  obtain ⟨w1, hw1⟩ : ∃ W, W = w.alloc (.cells #[.bool b, .slice p n c, .slice p' n' c'] 36) := ⟨_, rfl⟩
  obtain ⟨s, hs⟩ : ∃ s, w.heap.size = s := ⟨_, rfl⟩
  rw [← hw1] at X0 BX H1 H2 ⊢
  rw [hs] at BX ⊢
  clear hw1 hs
  go_loopw [2] (fun v2 wr => ∃ i : Nat, v2 = .int .i64 (i : Int) ∧ i ≤ n ∧ Spl B w1 wr) (fun v2 _ => n - (intOf v2).toNat)
  case atStart => exact ⟨0, rfl, Nat.zero_le _, Spl.refl _ _⟩
  case round =>
    rename World => w2
    obtain ⟨i, rfl, hi, hS⟩ := hrel
    have SP := Lib.hid hS
    obtain ⟨g0, g1, g2⟩ := (BX.out.spl hS).cells
    clear hS
    by_cases hin : i < n
    · have LT := Lib.hid hin
      obtain ⟨g, cur, rfl, hg, hh, hl⟩ := (H1.out.spl SP.out).resolve_left (by omega)
      have hc : w2.cell? ⟨g, i, none⟩ = some (cur[i]'(by omega)) := by rw [cell_of_row w2 g i cur _ (0, 0) hh]; simp [show i < cur.size by omega]
      have hf : w2.frozen? ⟨g, i, none⟩ = false := by simp [World.frozen?, hh]
      have SP2 := Lib.hid (SP.out.set hh hg i (.int .u64 77))
      obtain ⟨x, hx⟩ : ∃ x, (cur[i]'(by omega)) = x := ⟨_, rfl⟩
      rw [hx] at hc
      clear hg hh hl hx hi
      go_wp2_with fail
      exact ⟨⟨i + 1, by go_num, LT.out, SP2.out⟩, by simp [intOf]; have := LT.out; omega⟩
    · have i1 : (n : Int) ≤ (i : Int) := by omega
      clear hi hin
      go_wp2_with fail
      clear g0 g1 g2
      go_loopw [3] (fun v3 wr => ∃ i : Nat, v3 = .int .i64 (i : Int) ∧ i ≤ n' ∧ Spl B w1 wr) (fun v3 _ => n' - (intOf v3).toNat)
      case atStart => exact ⟨0, rfl, Nat.zero_le _, SP.out⟩
      case round =>
        clear SP
        rename World => w3
        obtain ⟨j, rfl, hj, hS⟩ := hrel
        have SP := Lib.hid hS
        obtain ⟨g0, g1, g2⟩ := (BX.out.spl hS).cells
        clear hS
        by_cases hjn : j < n'
        · have LT := Lib.hid hjn
          obtain ⟨g, cur, rfl, hg, hh, hl⟩ := (H2.out.spl SP.out).resolve_left (by omega)
          have hc : w3.cell? ⟨g, j, none⟩ = some (cur[j]'(by omega)) := by rw [cell_of_row w3 g j cur _ (0, 0) hh]; simp [show j < cur.size by omega]
          have hf : w3.frozen? ⟨g, j, none⟩ = false := by simp [World.frozen?, hh]
          have SP2 := Lib.hid (SP.out.set hh hg j (.int .u64 77))
          obtain ⟨x, hx⟩ : ∃ x, (cur[j]'(by omega)) = x := ⟨_, rfl⟩
          rw [hx] at hc
          clear hg hh hl hx hj
          go_wp2_with fail
          exact ⟨⟨j + 1, by go_num, LT.out, SP2.out⟩, by simp [intOf]; have := LT.out; omega⟩
        · have j1 : (n' : Int) ≤ (j : Int) := by omega
          clear hj hjn
          go_wp2_with fail
          (try simp only [Exit.inBlock, Exit.then])
          refine bodyPost_end (results_none rfl _ _ _) rfl ?_
          exact ⟨rfl, SP.out.ext X0.out HB.out⟩
theorem At.spl {s o k B : Nat} {u : Value} {w w' : World} (h : At s o u w) (b : Bx k s w) (x : Spl B w w') : At s o u w' := by
  obtain ⟨cur, t, h1, -, h3, -⟩ := b
  have h4 := x.same s cur t h1 (fun e => h3 (by rw [e]; decide))
  refine ⟨?_, Nat.lt_of_lt_of_le h.2 x.below.size⟩
  rw [← h.1]
  exact World.cell?_of_block (w := w) (by rw [h4, h1])
theorem Bx.spl {s k B : Nat} {w w' : World} (b : Bx k s w) (x : Spl B w w') : Bx k s w' := by
  have b' := b
  obtain ⟨cur, t, h1, h2, h3, h4⟩ := b'
  exact ⟨cur, t, x.same s cur t h1 (fun e => h3 (by rw [e]; decide)), h2, h3, h4⟩
theorem OwnL.len {B : Nat} {w : World} {p : Option Addr} {n c : Nat} {A : List Nat} (h : OwnL B w (.slice p n c) A) : n ≤ maxLen := by
  obtain ⟨q, d, e, h1, h2, -⟩ := h.limbs.open
  injection e with _ e _
  omega
end Go.Proofs.YtaklejkdmfgplaaGreatDoor
