/- The base of the proofs: what a slice of numbers reads as, in a world; how it is kept. -/
import Derived.Test.YtomhfipgabpfiaaGreatDoorRows
import Derived.WalkKit
import Derived.WalkSpells
import Derived.Handy
import Derived.PlainAid
import Derived.Deep.DeepMust
import Derived.Deep.QuietTactic
import Derived.BigQuiet
import Derived.Lib.Hide
import Derived.Laws.AppendOwnNone
import Derived.Test.YtomhfipgabpfiaaGreatDoorPlain
namespace Go.Proofs.YtomhfipgabpfiaaGreatDoor
open Go Go.RowKit

/-- v is a slice of n elements of s cells each; its cells read as xs. -/
def Sl (s : Nat) (w : World) (v : Value) (n : Nat) (xs : List Value) : Prop :=
  xs.length = n * s ∧ ∃ a cap, v = .slice a n cap ∧ n ≤ cap ∧ cap ≤ maxLen ∧ (a = none → n = 0 ∧ cap = 0) ∧
    ∀ p, a = some p → 0 < n → p.spot = none ∧ p.block < w.heap.size ∧ ∀ j (h : j < xs.length), w.cell? ⟨p.block, p.off + j, none⟩ = some xs[j]

/-- a limb as a value -/
def lv (x : Nat) : Value := .int .u64 (x : Int)

/-- v reads as the limbs A -/
def Limbs (w : World) (v : Value) (A : List Nat) : Prop := Sl 1 w v A.length (A.map lv) ∧ ∀ x ∈ A, x < Bs

/-- everything that was there in w is as it was -/
def Ext (w w' : World) : Prop := Below w.heap.size w w'

theorem Ext.refl (w : World) : Ext w w := Below.refl _ _
theorem Ext.trans {a b c : World} (h : Ext a b) (k : Ext b c) : Ext a c := Below.trans h (Below.mono k h.size)
theorem Ext.alloc {a w : World} (h : Ext a w) (o : Obj) : Ext a (w.alloc o) := Below.alloc h h.size o
theorem Ext.drew {a w : World} (h : Ext a w) : Ext a w.drew := Below.drew h
theorem Ext.drewN {a w : World} (h : Ext a w) (n : Nat) : Ext a (w.drewN n) := Below.trans h ⟨rfl, rfl, rfl, Nat.le_refl _, fun _ _ => rfl⟩
theorem Ext.below {a b c : World} (h : Ext a b) (k : Below a.heap.size b c) : Ext a c := Below.trans h k

theorem Sl.ext {s : Nat} {w w' : World} {v : Value} {n : Nat} {xs : List Value} (h : Sl s w v n xs) (k : Ext w w') : Sl s w' v n xs := by
  obtain ⟨h1, a, cap, h2, h3, h4, h5, h6⟩ := h
  refine ⟨h1, a, cap, h2, h3, h4, h5, fun p hp h0 => ?_⟩
  obtain ⟨q1, q2, q3⟩ := h6 p hp h0
  exact ⟨q1, Nat.lt_of_lt_of_le q2 k.size, fun j hj => by rw [← q3 j hj]; exact Below.cell k (p := ⟨p.block, p.off + j, none⟩) q2⟩

theorem Limbs.ext {w w' : World} {v : Value} {A : List Nat} (h : Limbs w v A) (k : Ext w w') : Limbs w' v A := ⟨h.1.ext k, h.2⟩

theorem Limbs.nil (w : World) : Limbs w (.slice none 0 0) [] :=
  ⟨⟨rfl, none, 0, rfl, Nat.le_refl _, Nat.zero_le _, fun _ => ⟨rfl, rfl⟩, fun p hp _ => by cases hp⟩, fun x hx => by cases hx⟩

/-- the shape of a slice -/
theorem Limbs.open {w : World} {v : Value} {A : List Nat} (h : Limbs w v A) :
    ∃ a cap, v = .slice a A.length cap ∧ A.length ≤ cap ∧ cap ≤ maxLen ∧
      ∀ i, i < A.length → ∃ b o, a = some ⟨b, o, none⟩ ∧ b < w.heap.size ∧ ∀ j, j < A.length → w.cell? ⟨b, o + j, none⟩ = some (.int .u64 (el A j : Nat)) := by
  obtain ⟨⟨h1, a, cap, h2, h3, h4, h5, h6⟩, h7⟩ := h
  refine ⟨a, cap, h2, h3, h4, fun i hi => ?_⟩
  cases a with
  | none => have := h5 rfl; omega
  | some p =>
    obtain ⟨q1, q2, q3⟩ := h6 p rfl (by omega)
    obtain ⟨b, o, sp⟩ := p
    subst q1
    refine ⟨b, o, rfl, q2, fun j hj => ?_⟩
    rw [q3 j (by simpa using hj)]
    simp [lv, el_of_lt hj]

theorem Limbs.lt {w : World} {v : Value} {A : List Nat} (h : Limbs w v A) (i : Nat) : el A i < Bs := el_lt h.2 i

/-- v is a slice of the call's own, in a block from B on (or it owns nothing) -/
def Own (B : Nat) (e : TypeId) (s : Nat) (w : World) (v : Value) (n : Nat) (xs : List Value) : Prop :=
  w.ownsRow B e s v n xs ∨ (∃ a, v = .slice a 0 0 ∧ n = 0 ∧ xs = [] ∧ ∀ p, a = some p → p.spot = none ∧ p.block < w.heap.size)

theorem Own.sl {B : Nat} {e : TypeId} {s : Nat} {w : World} {v : Value} {n : Nat} {xs : List Value} (h : Own B e s w v n xs) : Sl s w v n xs := by
  rcases h with ⟨h1, h2⟩ | ⟨a, rfl, rfl, rfl, h⟩
  · refine ⟨h1, ?_⟩
    rcases h2 with ⟨rfl, rfl⟩ | ⟨g, cap, cur, rfl, hg, hh, h3, h4, h5, h6⟩
    · exact ⟨none, 0, rfl, Nat.le_refl _, Nat.zero_le _, fun _ => ⟨rfl, rfl⟩, fun p hp _ => by cases hp⟩
    · refine ⟨some ⟨g, 0, none⟩, cap, rfl, h3, h4, (fun e => by cases e), fun p hp _ => ?_⟩
      obtain rfl := Option.some.inj hp
      refine ⟨rfl, (Array.getElem?_eq_some_iff.1 hh).1, fun j hj => ?_⟩
      have hjc : j < cur.size := by
        rw [h5]; exact Nat.lt_of_lt_of_le hj (by rw [h1]; exact Nat.mul_le_mul_right _ h3)
      have e1 : xs[j] = cur[j] := by
        have : (cur.toList.take (n * s))[j]? = some xs[j] := by rw [h6]; exact List.getElem?_eq_getElem hj
        rw [List.getElem?_take_of_lt (by omega)] at this
        simpa [hjc] using this.symm
      rw [e1]
      simp [World.cell?, hh, hjc]
  · exact ⟨by simp, a, 0, rfl, Nat.le_refl _, Nat.zero_le _, fun _ => ⟨rfl, rfl⟩, fun p hp h0 => absurd h0 (by omega)⟩

theorem Own.ext {B : Nat} {e : TypeId} {s : Nat} {w w' : World} {v : Value} {n : Nat} {xs : List Value} (h : Own B e s w v n xs) (k : Ext w w') : Own B e s w' v n xs := by
  rcases h with ⟨h1, h2⟩ | ⟨a, rfl, rfl, rfl, h⟩
  · refine .inl ⟨h1, ?_⟩
    rcases h2 with h2 | ⟨g, cap, cur, rfl, hg, hh, rest⟩
    · exact .inl h2
    · exact .inr ⟨g, cap, cur, rfl, hg, by rw [k.block g (Array.getElem?_eq_some_iff.1 hh).1]; exact hh, rest⟩
  · exact .inr ⟨a, rfl, rfl, rfl, fun p hp => ⟨(h p hp).1, Nat.lt_of_lt_of_le (h p hp).2 k.size⟩⟩

theorem Own.mono {B B' : Nat} {e : TypeId} {s : Nat} {w : World} {v : Value} {n : Nat} {xs : List Value} (h : Own B e s w v n xs) (k : B' ≤ B) : Own B' e s w v n xs := by
  rcases h with ⟨h1, h2⟩ | h
  · refine .inl ⟨h1, ?_⟩
    rcases h2 with h2 | ⟨g, cap, cur, rfl, hg, rest⟩
    · exact .inl h2
    · exact .inr ⟨g, cap, cur, rfl, Nat.le_trans k hg, rest⟩
  · exact .inr h

/-- v reads as the limbs A, and is the call's own -/
def OwnL (B : Nat) (w : World) (v : Value) (A : List Nat) : Prop := Own B 46 1 w v A.length (A.map lv) ∧ ∀ x ∈ A, x < Bs

theorem OwnL.limbs {B : Nat} {w : World} {v : Value} {A : List Nat} (h : OwnL B w v A) : Limbs w v A := ⟨h.1.sl, h.2⟩
theorem OwnL.ext {B : Nat} {w w' : World} {v : Value} {A : List Nat} (h : OwnL B w v A) (k : Ext w w') : OwnL B w' v A := ⟨h.1.ext k, h.2⟩
theorem OwnL.mono {B B' : Nat} {w : World} {v : Value} {A : List Nat} (h : OwnL B w v A) (k : B' ≤ B) : OwnL B' w v A := ⟨h.1.mono k, h.2⟩
theorem OwnL.nil (B : Nat) (w : World) : OwnL B w (.slice none 0 0) [] := ⟨.inl (World.ownsRow_nil ..), fun x hx => by cases hx⟩

theorem Ext.grown {a w w' : World} {row : Option Nat} (h : Ext a w) (hg : w.grownBy w' row) (hr : ∀ k, row = some k → a.heap.size ≤ k) : Ext a w' :=
  Below.grown h hg h.size hr

theorem cell_set_same {w : World} {b o : Nat} {u : Value} (h : w.cell? ⟨b, o, none⟩ = some u) (v : Value) : (w.setCell ⟨b, o, none⟩ v).cell? ⟨b, o, none⟩ = some v := by
  simp only [World.setCell, World.cell?, Array.getElem?_modify, if_true] at h ⊢
  cases e : w.heap[b]? with
  | none => rw [e] at h; cases h
  | some x =>
    rw [e] at h
    cases x with
    | cells c t f =>
      simp only [Option.isSome_none, Bool.false_eq_true, if_false] at h
      simp only [Option.map_some, Option.isSome_none, Bool.false_eq_true, if_false]
      exact Array.getElem?_setIfInBounds_self_of_lt (Array.getElem?_eq_some_iff.1 h).1
    | _ => cases h
theorem cell_set_other {w : World} {b o b' o' : Nat} (h : b ≠ b' ∨ o ≠ o') (v : Value) : (w.setCell ⟨b, o, none⟩ v).cell? ⟨b', o', none⟩ = w.cell? ⟨b', o', none⟩ := by
  by_cases hb : b = b'
  · subst hb
    have ho : o ≠ o' := by omega
    simp only [World.setCell, World.cell?, Array.getElem?_modify, if_true]
    cases e : w.heap[b]? with
    | none => rfl
    | some x =>
      cases x with
      | cells c t f => simp [Array.getElem?_setIfInBounds_ne ho]
      | _ => rfl
  · exact World.cell?_of_block (w := w) (Below.heap_setCell _ _ _ _ (fun e => hb e.symm))

/-- 'append' to a slice of the call's own, of whatever is a slice, nil too -/
theorem wpList_append_sl {P : Program} {w : World} {ops : Array Oper} {rest : List Oper} {o : Oper} {a : Act} {Q : Exit → Act → World → Prop} (hgd : o.guard = none) (s x : Operand) (t : TypeId)
    (ho : o.op = .call { callee := .builtin .append, args := #[s, x], argTypes := #[t, t] })
    (base : Nat) (e : TypeId) (z : Value) (size bytes : Nat) (ht : P.underlying t = some (.slice e)) (hinfo : (P.info? e).map (fun i => (i.zero, i.size, i.bytes)) = some (some z, size, bytes))
    (hzs : z.cells.size = size) (hsz : 0 < size)
    (v : Value) (n : Nat) (xs : List Value) (hs : a.eval s = v) (hown : w.ownsRow base e size v n xs)
    (u : Value) (m : Nat) (news : List Value) (hx : a.eval x = u) (hu : Sl size w u m news) (h1 : ∀ u ∈ news, u.oneCell' = true)
    (h63 : n + m ≤ maxLen) (hbytes : (n + m) * bytes ≤ 140737488355328) (hbase : base ≤ w.heap.size)
    (h : ∀ v' w', w'.ownsRow base e size v' (n + m) (xs ++ news) → w.grownBy w' v.ownBlock → wpList P ops Q rest (a.put o.dst v') w') : wpList P ops Q (o :: rest) a w := by
  obtain ⟨i, hi, hz, hsize, hby⟩ := info_parts hinfo
  obtain ⟨hl, ad, cap, rfl, hm, hc, hn, hp⟩ := hu
  cases ad with
  | none =>
    obtain ⟨rfl, rfl⟩ := hn rfl
    have : news = [] := List.eq_nil_of_length_eq_zero (by simpa using hl)
    subst this
    refine wpList_append_own_none hgd s x t ho base e i size ht hi v n xs hs hown hx ?_
    exact h v w (by simpa using hown) (World.grownBy.refl _ _)
  | some p =>
    refine wpList_append_own w hgd s x t ho base e i z size bytes ht hi hz hsize hby hzs hsz v n xs hs hown p m cap news hx hl ?_ h1 h63 hbytes hbase (fun v' w' r1 r2 _ => h v' w' r1 r2)
    intro j y hj
    obtain ⟨hj', rfl⟩ := List.getElem?_eq_some_iff.1 hj
    obtain ⟨q1, q2, q3⟩ := hp p rfl (by
      rcases Nat.eq_zero_or_pos m with g | g
      · rw [g, Nat.zero_mul] at hl; omega
      · exact g)
    obtain ⟨b, of, sp⟩ := p
    subst q1
    rw [Addr.add_lit]
    exact q3 j hj'

theorem lmax_fits {n : Nat} (h : n ≤ Lmax) : n ≤ maxLen ∧ n * 8 ≤ 140737488355328 := by
  rw [Lmax_def] at h; unfold maxLen; omega

theorem lv_oneCell (A : List Nat) : ∀ u ∈ A.map lv, u.oneCell' = true := by
  intro u hu
  obtain ⟨_, _, rfl⟩ := List.mem_map.1 hu
  rfl

theorem info_u64 : (Tryz.prog.info? 46).map (fun i => (i.zero, i.size, i.bytes)) = some (some (.int .u64 0), 1, 8) := by kernel_rfl

/-- 'append' of limbs to limbs of the call's own -/
theorem append_limbs {w : World} {ops : Array Oper} {rest : List Oper} {o : Oper} {a : Act} {Q : Exit → Act → World → Prop} (hgd : o.guard = none) (s x : Operand) (t : TypeId)
    (ht : Tryz.prog.underlying t = some (.slice 46)) (ho : o.op = .call { callee := .builtin .append, args := #[s, x], argTypes := #[t, t] })
    (base : Nat) (v : Value) (n : Nat) (C : List Value) (hs : a.eval s = v) (hown : w.ownsRow base 46 1 v n C) (hbase : base ≤ w.heap.size)
    (u : Value) (A : List Nat) (hx : a.eval x = u) (hA : Limbs w u A) (hlen : n + A.length ≤ Lmax)
    (h : ∀ v' w', w'.ownsRow base 46 1 v' (n + A.length) (C ++ A.map lv) → w.grownBy w' v.ownBlock → wpList Tryz.prog ops Q rest (a.put o.dst v') w') : wpList Tryz.prog ops Q (o :: rest) a w :=
  wpList_append_sl hgd s x t ho base 46 (.int .u64 0) 1 8 ht info_u64 rfl (by decide) v n C hs hown u A.length (A.map lv) hx hA.1 (lv_oneCell A) (lmax_fits hlen).1 (lmax_fits hlen).2 hbase h

/-- 'make' of limbs: so many 0s -/
theorem make_limbs {w : World} {ops : Array Oper} {rest : List Oper} {o : Oper} {a : Act} {Q : Exit → Act → World → Prop} (hgd : o.guard = none) (l c : Operand) (t : TypeId)
    (ht : Tryz.prog.underlying t = some (.slice 46)) (hop : o.op = Op.makeSlice t l c) (n : Nat) (C : Int) (hC : C = (n : Int)) (hl : a.eval l = .int .i64 C) (hc : a.eval c = .int .i64 C) (hn : n ≤ Lmax)
    (h : ∀ w', w'.ownsRow w.heap.size 46 1 (.slice (some ⟨w.heap.size, 0, none⟩) n n) n ((List.replicate n 0).map lv) → w.grownBy w' none →
      wpList Tryz.prog ops Q rest (a.put o.dst (.slice (some ⟨w.heap.size, 0, none⟩) n n)) w') : wpList Tryz.prog ops Q (o :: rest) a w := by
  obtain ⟨i, hi, hz, hsize, hby⟩ := info_parts info_u64
  have hn' : n ≤ 1099511627776 := by rw [← Lmax_def]; exact hn
  refine wpList_make_full w hgd l c t hop w.heap.size 46 i (.int .u64 0) 1 ht hi hz hsize .i64 .i64 C C n hl hc hC hC (by rw [hby]; omega) (lmax_fits hn).1 (Nat.le_refl _) (fun w' h1 h2 => h w' ?_ h2)
  rw [show (Value.int IntKind.u64 0).cells = #[Value.int IntKind.u64 0] from rfl, Nat.mul_one, toList_madeCells_one] at h1
  simpa [lv] using h1

/-- the call returns, in new memory, the limbs of n -/
def RetNat (w : World) (n : Nat) (e : Ending) (w' : World) : Prop := ∃ v, e = .returned v ∧ OwnL w.heap.size w' v (dig n) ∧ Ext w w'

theorem ret_eq {a b : Value} (h : a = b) : Ending.returned a = .returned b := by rw [h]
theorem int_eq {k : IntKind} {a b : Int} (h : a = b) : Value.int k a = .int k b := by rw [h]

end Go.Proofs.YtomhfipgabpfiaaGreatDoor
