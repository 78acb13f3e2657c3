/- Facts and contracts, joined: Cur, Cur2, Below, Below2, Ints, FreqPlain, Freq, Freq2, Freq3, Freq4, FreqKit, Awake10. -/
import Derived.Test.YtaklejkdmfgplaaGreatDoorPartF
import Derived.IntWalk
import Derived.Test.YtaklejkdmfgplaaGreatDoorPartC
import Derived.Test.YtaklejkdmfgplaaGreatDoorPartG

/- Strings of bits; what a cursor holds. The contracts of bits.Is and of package cursor. -/
namespace Go.Proofs.YtaklejkdmfgplaaGreatDoor
open Go Go.RowKit

/-- all but block s is as it was; more may have come -/
structure Mv (s : Nat) (w w' : World) : Prop where
  blw : Below s w w'
  oth : ∀ b, b < w.heap.size → b ≠ s → w'.heap[b]? = w.heap[b]?
theorem Mv.refl (s : Nat) (w : World) : Mv s w w := ⟨Below.refl _ _, fun _ _ _ => rfl⟩
theorem Mv.size {s : Nat} {w w' : World} (h : Mv s w w') : w.heap.size ≤ w'.heap.size := h.blw.size
theorem Mv.trans {s : Nat} {a b c : World} (h : Mv s a b) (k : Mv s b c) : Mv s a c :=
  ⟨h.blw.trans k.blw, fun x hx hn => (k.oth x (Nat.lt_of_lt_of_le hx h.size) hn).trans (h.oth x hx hn)⟩
theorem Mv.ext {s : Nat} {a w w' : World} (h : Ext a w) (k : Mv s w w') (hs : a.heap.size ≤ s) : Ext a w' := Ext.below h (k.blw.mono hs)
theorem Mv.at {s : Nat} {w w' : World} (h : Mv s w w') {t o : Nat} {u : Value} (hne : t ≠ s) (k : At t o u w) : At t o u w' :=
  ⟨by rw [← k.1]; exact World.cell?_of_block (w := w) (h.oth t k.2 hne), Nat.lt_of_lt_of_le k.2 h.size⟩
theorem Mv.gr {s n : Nat} {w w' : World} (h : Mv s w w') (k : Bx n s w) (k' : Bx n s w') : Gr w w' :=
  ⟨h.size, fun b hb => by
    by_cases e : b = s
    · subst e; exact .inr ⟨n, k, k'⟩
    · exact .inl (h.oth b hb e)⟩
theorem Mv.set (s o : Nat) (v : Value) (w : World) : Mv s w (w.setCell ⟨s, o, none⟩ v) :=
  ⟨(Below.refl s w).setCell (p := ⟨s, o, none⟩) (Nat.le_refl _) v, fun _b _ hb => Below.heap_setCell _ _ _ _ hb⟩

/-- the cursor in block s: its string, how many bits were read, whether it is over -/
structure Cur (S : ByteArray) (s at_ : Nat) (ov : Bool) (w : World) : Prop where
  c0 : At s 0 (.string S) w
  c1 : At s 1 (.int .i64 (at_ : Int)) w
  c2 : At s 2 (.bool ov) w
  bx : Bx 3 s w
theorem Cur.ext {S : ByteArray} {s at_ : Nat} {ov : Bool} {w w' : World} (h : Cur S s at_ ov w) (x : Ext w w') : Cur S s at_ ov w' := ⟨h.c0.ext x, h.c1.ext x, h.c2.ext x, h.bx.gr x.gr⟩
theorem Cur.set {S : ByteArray} {s at_ : Nat} {ov : Bool} {w : World} (h : Cur S s at_ ov w) (n : Nat) : Cur S s n ov (w.setCell ⟨s, 1, none⟩ (.int .i64 (n : Int))) := by
  have hb := setRow_bx' (o := 1) (cs := [.int .i64 (n : Int)]) h.bx (by simp) (by intro u hu; simp at hu; subst hu; trivial)
  exact ⟨hb.2.2 0 _ (by simp) h.c0, hb.2.1 0 _ rfl, hb.2.2 2 _ (by simp) h.c2, hb.1⟩
theorem Cur.lt {S : ByteArray} {s at_ : Nat} {ov : Bool} {w : World} (h : Cur S s at_ ov w) : s < w.heap.size := h.c0.2

end Go.Proofs.YtaklejkdmfgplaaGreatDoor

/- The contract of Cursor.Take; numbers that bits are. -/
namespace Go.Proofs.YtaklejkdmfgplaaGreatDoor
open Go Go.RowKit

/-- the number that bits are -/
def bitv (l : List UInt8) : Nat := l.foldl (fun x b => 2 * x + (b.toNat - 48)) 0
/-- k bits from a place on -/
def bitsAt (l : List UInt8) (a k : Nat) : Nat := bitv ((l.drop a).take k)
end Go.Proofs.YtaklejkdmfgplaaGreatDoor

/- Numbers drawn below others: what is drawn, as a function; the contracts of package below (all but Cost). -/
namespace Go.Proofs.YtaklejkdmfgplaaGreatDoor
open Go Go.RowKit

/-- how many bits a number below m has -/
def wid (m : Nat) : Nat := if m = 0 then 0 else bl (m - 1)
/-- a number below m, drawn of the bits from a place on; where it ends -/
def drawF (l : List UInt8) (m a : Nat) : Option Nat × Nat :=
  if l.length < a + wid m then (none, a)
  else if bitsAt l a (wid m) < m then (some (bitsAt l a (wid m)), a + wid m)
  else if wid m = 0 then (none, a)
  else drawF l m (a + wid m)
termination_by l.length - a
decreasing_by omega

theorem drawF_short {l : List UInt8} {m a : Nat} (h : l.length < a + wid m) : drawF l m a = (none, a) := by rw [drawF, if_pos h]
theorem drawF_hit {l : List UInt8} {m a v : Nat} (h : a + wid m ≤ l.length) (hv : bitsAt l a (wid m) = v) (hm : v < m) : drawF l m a = (some v, a + wid m) := by
  rw [drawF, if_neg (by omega), if_pos (by omega), hv]
theorem drawF_miss {l : List UInt8} {m a v : Nat} (h : a + wid m ≤ l.length) (hv : bitsAt l a (wid m) = v) (hm : m ≤ v) (h0 : 1 ≤ wid m) : drawF l m a = drawF l m (a + wid m) := by
  rw [drawF, if_neg (by omega), if_neg (by omega), if_neg (by omega)]
theorem drawF_lt {l : List UInt8} {m v : Nat} (a : Nat) (h : (drawF l m a).1 = some v) : v < m := by
  induction a using drawF.induct (l := l) (m := m) with
  | case1 a h1 => rw [drawF_short h1] at h; cases h
  | case2 a h1 h2 => rw [drawF_hit (by omega) rfl h2] at h; injection h with h; rw [← h]; exact h2
  | case3 a h1 h2 h3 => rw [drawF, if_neg h1, if_neg h2, if_pos h3] at h; cases h
  | case4 a h1 h2 h3 ih => rw [drawF_miss (by omega) rfl (by omega) (by omega)] at h; exact ih h

/-- what a draw tells -/
def valD : Option Nat → Nat
  | some v => v
  | none => 0

/-- what a draw leaves: the number, the cursor -/
def RetDraw (S : ByteArray) (s m a : Nat) (w : World) (e : Ending) (w' : World) : Prop :=
  e = .returned (.tuple #[.int .u64 (valD (drawF S.data.toList m a).1 : Nat), .bool (drawF S.data.toList m a).1.isSome]) ∧ Mv s w w' ∧ Cur S s (drawF S.data.toList m a).2 (!(drawF S.data.toList m a).1.isSome) w'

end Go.Proofs.YtaklejkdmfgplaaGreatDoor

/- The contracts of below.Draw and below.Cost. -/
namespace Go.Proofs.YtaklejkdmfgplaaGreatDoor
open Go Go.RowKit

/-- what is drawn, by names -/
def DrawIs (l : List UInt8) (m a x : Nat) (y : Bool) (a' : Nat) : Prop := valD (drawF l m a).1 = x ∧ (drawF l m a).1.isSome = y ∧ (drawF l m a).2 = a'
theorem DrawIs.lt {l : List UInt8} {m a x a' : Nat} {y : Bool} (h : DrawIs l m a x y a') (hm : 1 ≤ m) : x < m := by
  obtain ⟨h1, -, -⟩ := h
  cases h2 : (drawF l m a).1 with
  | none => rw [h2] at h1; rw [← h1]; exact hm
  | some v => rw [h2] at h1; rw [← h1]; exact drawF_lt a h2
theorem DrawIs.zero {l : List UInt8} {m a x a' : Nat} (h : DrawIs l m a x false a') : x = 0 := by
  obtain ⟨h1, h2, -⟩ := h
  cases h3 : (drawF l m a).1 with
  | none => rw [h3] at h1; exact h1.symm
  | some v => rw [h3] at h2; cases h2
/-- what a draw leaves: the number, the cursor -/
def RetD (S : ByteArray) (s x : Nat) (y : Bool) (a : Nat) (w : World) (e : Ending) (w' : World) : Prop :=
  e = .returned (.tuple #[.int .u64 (x : Int), .bool y]) ∧ Mv s w w' ∧ Cur S s a (!y) w'
theorem RetDraw.d {S : ByteArray} {s m a x a' : Nat} {y : Bool} {w w' : World} {e : Ending} (h : RetDraw S s m a w e w') (hd : DrawIs S.data.toList m a x y a') : RetD S s x y a' w e w' := by
  obtain ⟨h1, h2, h3⟩ := h
  obtain ⟨d1, d2, d3⟩ := hd
  subst d1 d2 d3
  exact ⟨h1, h2, h3⟩

end Go.Proofs.YtaklejkdmfgplaaGreatDoor

/- Slices of numbers: views, rows of the call's own; append, make, literals. -/
namespace Go.Proofs.YtaklejkdmfgplaaGreatDoor
open Go Go.RowKit

/-- a number as a value -/
def zv (x : Int) : Value := .int .i64 x
/-- v reads as the numbers L -/
def Ints (w : World) (v : Value) (L : List Int) : Prop := Sl 1 w v L.length (L.map zv)
theorem Ints.ext {w w' : World} {v : Value} {L : List Int} (h : Ints w v L) (k : Ext w w') : Ints w' v L := Sl.ext h k
theorem Ints.nil (w : World) : Ints w (.slice none 0 0) [] :=
  ⟨rfl, none, 0, rfl, Nat.le_refl _, Nat.zero_le _, fun _ => ⟨rfl, rfl⟩, fun p hp _ => by cases hp⟩
/-- the shape of a slice -/
theorem Ints.open {w : World} {v : Value} {L : List Int} (h : Ints w v L) :
    ∃ a cap, v = .slice a L.length cap ∧ L.length ≤ cap ∧ cap ≤ maxLen ∧
      ∀ i, i < L.length → ∃ b o, a = some ⟨b, o, none⟩ ∧ b < w.heap.size ∧ ∀ j, j < L.length → w.cell? ⟨b, o + j, none⟩ = some (.int .i64 (L.getD j 0)) := by
  obtain ⟨h1, a, cap, h2, h3, h4, h5, h6⟩ := h
  refine ⟨a, cap, h2, h3, h4, fun i hi => ?_⟩
  cases a with
  | none => have := h5 rfl; omega
  | some p =>
    obtain ⟨q1, q2, q3⟩ := h6 p rfl (by omega)
    obtain ⟨b, o, sp⟩ := p
    subst q1
    refine ⟨b, o, rfl, q2, fun j hj => ?_⟩
    rw [q3 j (by simpa using hj)]
    simp [zv, List.getD, hj]
theorem Ints.slice {w : World} {v : Value} {L : List Int} (h : Ints w v L) : ∃ a cap, v = .slice a L.length cap := by
  obtain ⟨a, cap, h1, -⟩ := h.open; exact ⟨a, cap, h1⟩
/-- the first ones -/
theorem Ints.take {w : World} {a : Option Addr} {L : List Int} {m cap : Nat} (h : Ints w (.slice a m cap) L) {n : Nat} (hn : n ≤ L.length) : Ints w (.slice a n cap) (L.take n) := by
  obtain ⟨h1, a', cap', h2, h3, h4, h5, h6⟩ := h
  cases h2
  have hl : (L.take n).length = n := by simp; omega
  refine ⟨by simp, a, cap, by rw [hl], by omega, h4, fun e => ?_, fun p hp h0 => ?_⟩
  · have := h5 e; omega
  · obtain ⟨q1, q2, q3⟩ := h6 p hp (by omega)
    refine ⟨q1, q2, fun j hj => ?_⟩
    have hj' : j < L.length := by simp at hj; omega
    rw [q3 j (by simpa using hj')]
    simp
/-- those from a place on -/
theorem Ints.drop {w : World} {b o : Nat} {L : List Int} {m cap : Nat} (h : Ints w (.slice (some ⟨b, o, none⟩) m cap) L) {n : Nat} (hn : n ≤ L.length) : Ints w (.slice (some ⟨b, o + n, none⟩) (m - n) (cap - n)) (L.drop n) := by
  obtain ⟨h1, a', cap', h2, h3, h4, h5, h6⟩ := h
  cases h2
  refine ⟨by simp, some ⟨b, o + n, none⟩, cap - n, by simp, by simp; omega, by omega, fun e => (by cases e), fun p hp h0 => ?_⟩
  obtain rfl := Option.some.inj hp
  obtain ⟨q1, q2, q3⟩ := h6 _ rfl (by simp at h0; omega)
  refine ⟨rfl, q2, fun j hj => ?_⟩
  have hj' : n + j < L.length := by simp at hj; omega
  show w.cell? ⟨b, o + n + j, none⟩ = _
  have := q3 (n + j) (by simpa using hj')
  rw [Nat.add_assoc, this]
  simp

/-- v reads as L, in a row of the type t of the call's own, from block B on -/
def OwnI (t : TypeId) (B : Nat) (w : World) (v : Value) (L : List Int) : Prop := Own B t 1 w v L.length (L.map zv)
theorem OwnI.ints {t : TypeId} {B : Nat} {w : World} {v : Value} {L : List Int} (h : OwnI t B w v L) : Ints w v L := Own.sl h
theorem OwnI.ext {t : TypeId} {B : Nat} {w w' : World} {v : Value} {L : List Int} (h : OwnI t B w v L) (k : Ext w w') : OwnI t B w' v L := Own.ext h k
theorem OwnI.mono {t : TypeId} {B B' : Nat} {w : World} {v : Value} {L : List Int} (h : OwnI t B w v L) (k : B' ≤ B) : OwnI t B' w v L := Own.mono h k
theorem OwnI.gr {t : TypeId} {B : Nat} {w w' : World} {v : Value} {L : List Int} (h : OwnI t B w v L) (ht : t ∈ notBox) (k : Gr w w') : OwnI t B w' v L := Own.gr h ht k
theorem OwnI.nil (t : TypeId) (B : Nat) (w : World) : OwnI t B w (.slice none 0 0) [] := .inl (World.ownsRow_nil ..)
/-- a row of the call's own, while it grows -/
structure RowMem (t : TypeId) (B : Nat) (L : List Int) (v : Value) (w wr : World) : Prop where
  own : wr.ownsRow B t 1 v L.length (L.map zv)
  ext : Ext w wr
  lo : w.heap.size ≤ B
theorem RowMem.grow {t : TypeId} {B : Nat} {L A : List Int} {v v' : Value} {w wr w1 w' : World} (h : RowMem t B L v w wr) (k : Ext wr w1) (h1 : w'.ownsRow B t 1 v' (L.length + A.length) (L.map zv ++ A.map zv)) (hg : w1.grownBy w' v.ownBlock) :
    RowMem t B (L ++ A) v' w w' :=
  ⟨by rw [List.length_append, List.map_append]; exact h1, (h.ext.trans k).grown hg (fun b hb => Nat.le_trans h.lo (h.own.lt b hb).1), h.lo⟩
/-- a cell ahead of the row stays, as it grows -/
theorem At.grown {s o : Nat} {u : Value} {w w' : World} {row : Option Nat} (h : At s o u w) (hg : w.grownBy w' row) (hr : ∀ k, row = some k → s < k) : At s o u w' :=
  ⟨by rw [← h.1]; exact World.cell?_of_block (w := w) (hg.block s h.2 (fun e => Nat.lt_irrefl s (hr s e.symm))), Nat.lt_of_lt_of_le h.2 hg.size⟩
theorem Bx.grown {n s : Nat} {w w' : World} {row : Option Nat} (h : Bx n s w) (hg : w.grownBy w' row) (hr : ∀ k, row = some k → s < k) : Bx n s w' :=
  h.of_eq (hg.block s h.lt (fun e => Nat.lt_irrefl s (hr s e.symm)))
theorem row_sliceI {w : World} {B : Nat} {e : TypeId} {s : Nat} {v : Value} {n : Nat} {xs : List Value} (h : w.ownsRow B e s v n xs) : ∃ a c, v = .slice a n c := by
  rcases h.2 with ⟨rfl, h0⟩ | ⟨g, cap, cur, rfl, -⟩
  · exact ⟨_, _, by rw [h0]⟩
  · exact ⟨_, _, rfl⟩
end Go.Proofs.YtaklejkdmfgplaaGreatDoor

/- Weights, their sums, and the places that numbers pick: plain facts. -/
namespace Go.Proofs.YtaklejkdmfgplaaGreatDoor

theorem getD_lt {W : List Int} {k : Nat} (h : k < W.length) : W.getD k 0 = W[k] := by simp [List.getD, h]
theorem getD_ge {W : List Int} {k : Nat} (h : W.length ≤ k) : W.getD k 0 = 0 := by simp [List.getD, h]
/-- what the first k weights add up to -/
def psum : List Int → Nat → Int
  | _, 0 => 0
  | [], _ + 1 => 0
  | x :: W, k + 1 => x + psum W k
theorem psum_zero (W : List Int) : psum W 0 = 0 := by cases W <;> rfl
theorem psum_nil (k : Nat) : psum [] k = 0 := by cases k <;> rfl
theorem psum_succ : ∀ (W : List Int) (k : Nat), psum W (k + 1) = psum W k + W.getD k 0
  | [], k => by simp [psum_nil]
  | x :: W, 0 => by simp [psum, psum_zero]
  | x :: W, k + 1 => by simp only [psum]; rw [psum_succ W k]; simp [Int.add_assoc]
/-- each weight may be -/
def okW (W : List Int) : Prop := ∀ x ∈ W, 0 ≤ x ∧ x ≤ 1048576
instance (W : List Int) : Decidable (okW W) := by unfold okW; infer_instance
theorem okW.get {W : List Int} (h : okW W) (k : Nat) : 0 ≤ W.getD k 0 ∧ W.getD k 0 ≤ 1048576 := by
  rcases Nat.lt_or_ge k W.length with hk | hk
  · rw [getD_lt hk]; exact h _ (List.getElem_mem hk)
  · rw [getD_ge hk]; decide
theorem psum_step {W : List Int} (h : okW W) (k : Nat) : psum W k ≤ psum W (k + 1) ∧ psum W (k + 1) ≤ psum W k + 1048576 := by
  have := h.get k
  rw [psum_succ]; omega
theorem psum_mono {W : List Int} (h : okW W) {i j : Nat} (hij : i ≤ j) : psum W i ≤ psum W j := by
  induction j with
  | zero => rw [show i = 0 by omega]; exact Int.le_refl _
  | succ j ih =>
    rcases Nat.lt_or_ge j i with g | g
    · rw [show i = j + 1 by omega]; exact Int.le_refl _
    · have := ih g; have := (psum_step h j).1; omega
/-- what is wrong of weights -/
def errW (W : List Int) : Nat := if W.length = 0 then 4 else if 64 < W.length then 5 else if ¬ okW W then 1 else if psum W W.length = 0 then 7 else 0
/-- the place that a number picks -/
structure IsPick (W : List Int) (r : Int) (i : Nat) : Prop where
  lt : i < W.length
  lo : psum W i ≤ r
  hi : r < psum W (i + 1)
theorem IsPick.uniq {W : List Int} {r : Int} {i j : Nat} (hW : okW W) (h : IsPick W r i) (k : IsPick W r j) : i = j := by
  rcases Nat.lt_trichotomy i j with g | g | g
  · have := psum_mono hW (show i + 1 ≤ j from g); have := h.hi; have := k.lo; omega
  · exact g
  · have := psum_mono hW (show j + 1 ≤ i from g); have := k.hi; have := h.lo; omega
theorem IsPick.mono {W : List Int} {r r' : Int} {i j : Nat} (hW : okW W) (hr : r ≤ r') (h : IsPick W r i) (k : IsPick W r' j) : i ≤ j := by
  rcases Nat.lt_or_ge j i with g | g
  · have := psum_mono hW (show j + 1 ≤ i from g); have := k.hi; have := h.lo; omega
  · exact g

end Go.Proofs.YtaklejkdmfgplaaGreatDoor

/- The contracts of package freq: New, Len, Sum. -/
namespace Go.Proofs.YtaklejkdmfgplaaGreatDoor
open Go Go.RowKit

/-- the weights, added up -/
def ups (W : List Int) (n : Nat) : List Int := (List.range n).map fun i => psum W (i + 1)
theorem ups_length (W : List Int) (n : Nat) : (ups W n).length = n := by simp [ups]
theorem ups_get (W : List Int) {n i : Nat} (h : i < n) : (ups W n).getD i 0 = psum W (i + 1) := by simp [ups, List.getD, h]
theorem ups_succ (W : List Int) (n : Nat) : ups W (n + 1) = ups W n ++ [psum W (n + 1)] := by simp [ups, List.range_succ]

/-- the table of the weights W in block s -/
structure Tab (W : List Int) (s : Nat) (p : Option Addr) (cap : Nat) (w : World) : Prop where
  c : At s 0 (.slice p W.length cap) w
  bx : Bx 1 s w
  up : OwnI 2 0 w (.slice p W.length cap) (ups W W.length)
theorem Tab.ext {W : List Int} {s : Nat} {p : Option Addr} {cap : Nat} {w w' : World} (h : Tab W s p cap w) (x : Ext w w') : Tab W s p cap w' := ⟨h.c.ext x, h.bx.gr x.gr, h.up.ext x⟩
theorem Tab.cell {W : List Int} {s : Nat} {p : Option Addr} {cap : Nat} {w : World} (h : Tab W s p cap w) {i : Nat} (hi : i < W.length) : ∃ b o, p = some ⟨b, o, none⟩ ∧ b < w.heap.size ∧ w.cell? ⟨b, o + i, none⟩ = some (.int .i64 (psum W (i + 1))) := by
  obtain ⟨a, cap', h1, -, -, h4⟩ := h.up.ints.open
  injection h1 with e1 e2 e3
  subst e1
  obtain ⟨b, o, q1, q2, q3⟩ := h4 i (by rw [ups_length]; exact hi)
  refine ⟨b, o, q1, q2, ?_⟩
  rw [q3 i (by rw [ups_length]; exact hi), ups_get W hi]
/-- New hands a table out -/
def RetTab (W : List Int) (w : World) (e : Ending) (w' : World) : Prop := ∃ s p cap, e = .returned (.tuple #[.pointer (some ⟨s, 0, none⟩), .int .i64 0]) ∧ w.heap.size ≤ s ∧ Tab W s p cap w' ∧ Ext w w'
/-- New refuses -/
def RetNoTab (k : Nat) (w : World) (e : Ending) (w' : World) : Prop := e = .returned (.tuple #[.pointer none, .int .i64 (k : Int)]) ∧ Ext w w'
/-- what New tells -/
def RetNew (W : List Int) (w : World) (e : Ending) (w' : World) : Prop := (errW W = 0 → RetTab W w e w') ∧ (errW W ≠ 0 → RetNoTab (errW W) w e w')
theorem RetNew.no {W : List Int} {w w' : World} {k : Nat} (hk : errW W = k) (h0 : k ≠ 0) (x : Ext w w') : RetNew W w (.returned (.tuple #[.pointer none, .int .i64 (k : Int)])) w' :=
  ⟨fun h => absurd (hk.symm.trans h) h0, fun _ => ⟨by rw [hk], x⟩⟩

/-- in the midst of New's loop -/
structure NewMem (W : List Int) (w : World) (k : Nat) (v : Value) (wr : World) : Prop where
  c : At w.heap.size 0 v wr
  bx : Bx 1 w.heap.size wr
  row : RowMem 2 (w.heap.size + 1) (ups W k) v w wr
theorem NewMem.shape {W : List Int} {w : World} {k : Nat} {v : Value} {wr : World} (h : NewMem W w k v wr) : ∃ p cap, v = .slice p k cap := by
  obtain ⟨a, c, h1⟩ := row_sliceI h.row.own
  exact ⟨a, c, by rw [h1, ups_length]⟩
theorem NewMem.next {W : List Int} {w : World} {k : Nat} {v v' : Value} {wr w1 w' : World} (h : NewMem W w k v wr) (x : Ext wr w1) {C : List Value}
    (h1 : w'.ownsRow (w.heap.size + 1) 2 1 v' (k + 1) ((ups W k).map zv ++ C)) (hC : C = [zv (psum W (k + 1))]) (hg : w1.grownBy w' v.ownBlock) :
    NewMem W w (k + 1) v' (w'.setCell ⟨w.heap.size, 0, none⟩ v') := by
  have hr := h.row.grow (A := [psum W (k + 1)]) x (by rw [ups_length]; subst hC; exact h1) hg
  have hlt : ∀ b, v.ownBlock = some b → w.heap.size < b := fun b hb => (h.row.own.lt b hb).1
  have hc : At w.heap.size 0 v w' := (h.c.ext x).grown hg hlt
  have hb : Bx 1 w.heap.size w' := (h.bx.gr x.gr).grown hg hlt
  obtain ⟨pa, pc, rfl⟩ := row_sliceI hr.own
  have hs := setRow_bx' (o := 0) (cs := [Value.slice pa (ups W k ++ [psum W (k + 1)]).length pc]) hb (by simp) noI_1
  refine ⟨hs.2.1 0 _ rfl, hs.1, ?_, ?_, hr.lo⟩
  · rw [ups_succ]
    exact ownsRow_setCell_below hr.own (a := ⟨w.heap.size, 0, none⟩) (Nat.lt_succ_self _) _
  · exact hr.ext.setCell (Nat.le_refl _) _

end Go.Proofs.YtaklejkdmfgplaaGreatDoor

/- The contracts of package freq: Len, Sum, Pick, with sort.Search. -/
namespace Go.Proofs.YtaklejkdmfgplaaGreatDoor
open Go Go.RowKit

end Go.Proofs.YtaklejkdmfgplaaGreatDoor

/- The contracts of package freq: Draw. -/
namespace Go.Proofs.YtaklejkdmfgplaaGreatDoor
open Go Go.RowKit

theorem Cur.other {S : ByteArray} {s t a : Nat} {ov : Bool} {w w' : World} (h : Cur S s a ov w) (m : Mv t w w') (hne : s ≠ t) (g : Gr w w') : Cur S s a ov w' := ⟨m.at hne h.c0, m.at hne h.c1, m.at hne h.c2, h.bx.gr g⟩
end Go.Proofs.YtaklejkdmfgplaaGreatDoor

/- The contracts of freq.Share and freq.Cost. -/
namespace Go.Proofs.YtaklejkdmfgplaaGreatDoor
open Go Go.RowKit

end Go.Proofs.YtaklejkdmfgplaaGreatDoor

/- Small contracts for the laws of chapter 10: what the walks that a program prints go by. -/
namespace Go.Proofs.YtaklejkdmfgplaaGreatDoor
open Go Go.RowKit

/-- a row of the call's own that stays -/
def OwnZ (t : TypeId) (B : Nat) (w : World) (v : Value) (L : List Int) : Prop := OwnI t B w v L ∧ t ∈ notBox
theorem OwnZ.ext {t : TypeId} {B : Nat} {w w' : World} {v : Value} {L : List Int} (h : OwnZ t B w v L) (k : Ext w w') : OwnZ t B w' v L := ⟨h.1.ext k, h.2⟩
theorem OwnZ.gr {t : TypeId} {B : Nat} {w w' : World} {v : Value} {L : List Int} (h : OwnZ t B w v L) (k : Gr w w') : OwnZ t B w' v L := ⟨h.1.gr h.2 k, h.2⟩
theorem OwnZ.ints {t : TypeId} {B : Nat} {w : World} {v : Value} {L : List Int} (h : OwnZ t B w v L) : Ints w v L := h.1.ints
theorem OwnZ.mono {t : TypeId} {B B' : Nat} {w : World} {v : Value} {L : List Int} (h : OwnZ t B w v L) (k : B' ≤ B) : OwnZ t B' w v L := ⟨h.1.mono k, h.2⟩
end Go.Proofs.YtaklejkdmfgplaaGreatDoor

/- awake of chapter 10 answers true. -/
namespace Go.Proofs.YtaklejkdmfgplaaGreatDoor
open Go Go.RowKit

end Go.Proofs.YtaklejkdmfgplaaGreatDoor
