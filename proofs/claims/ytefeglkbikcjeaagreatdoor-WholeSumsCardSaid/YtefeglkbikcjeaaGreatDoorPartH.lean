/- Facts and contracts, joined: Cur, Cur2, Below, Below2, Ints, FreqPlain, Freq, Freq2, Freq3, Freq4, FreqKit, Awake10. -/
import Derived.Test.YtefeglkbikcjeaaGreatDoorPartF
import Derived.IntWalk
import Derived.Test.YtefeglkbikcjeaaGreatDoorPartC
import Derived.Test.YtefeglkbikcjeaaGreatDoorPartG

/- Strings of bits; what a cursor holds. The contracts of bits.Is and of package cursor. -/
namespace Go.Proofs.YtefeglkbikcjeaaGreatDoor
open Go Go.RowKit

/-- is a byte no bit? -/
def oddL (l : List UInt8) : Bool := l.any fun b => b != 48 && b != 49
/-- a string of bits, not too long -/
def okS (l : List UInt8) : Bool := decide (l.length ≤ 1024) && !oddL l
theorem bn_at {l : List UInt8} {i : Nat} (hi : i < l.length) : bn l i = l[i].toNat := by simp [bn, hi]
theorem odd_byte (b : UInt8) : (b != 48 && b != 49) = true ↔ b.toNat ≠ 48 ∧ b.toNat ≠ 49 := by
  simp only [Bool.and_eq_true, bne_iff_ne, ne_eq, ← UInt8.toNat_inj]; exact Iff.rfl
theorem oddL_get {l : List UInt8} (h : oddL l = false) {i : Nat} (hi : i < l.length) : bn l i = 48 ∨ bn l i = 49 := by
  have h1 := List.any_eq_false.1 h l[i] (List.getElem_mem hi)
  rw [odd_byte] at h1
  rw [bn_at hi]; omega
theorem oddL_at {l : List UInt8} {i : Nat} (hi : i < l.length) (h : ¬ bn l i = 48) (h' : ¬ bn l i = 49) : oddL l = true := by
  refine List.any_eq_true.2 ⟨l[i], List.getElem_mem hi, ?_⟩
  rw [odd_byte]
  rw [bn_at hi] at h h'; exact ⟨h, h'⟩
theorem oddL_none {l : List UInt8} (h : ∀ i, i < l.length → bn l i = 48 ∨ bn l i = 49) : oddL l = false := by
  refine List.any_eq_false.2 fun b hb => ?_
  obtain ⟨i, hi, rfl⟩ := List.getElem_of_mem hb
  rw [odd_byte]
  have := h i hi
  rw [bn_at hi] at this; omega

/-- all but block s is as it was; more may have come -/
structure Mv (s : Nat) (w w' : World) : Prop where
  blw : Below s w w'
  oth : ∀ b, b < w.heap.size → b ≠ s → w'.heap[b]? = w.heap[b]?
theorem Mv.refl (s : Nat) (w : World) : Mv s w w := ⟨Below.refl _ _, fun _ _ _ => rfl⟩
theorem Mv.size {s : Nat} {w w' : World} (h : Mv s w w') : w.heap.size ≤ w'.heap.size := h.blw.size
theorem Mv.trans {s : Nat} {a b c : World} (h : Mv s a b) (k : Mv s b c) : Mv s a c :=
  ⟨h.blw.trans k.blw, fun x hx hn => (k.oth x (Nat.lt_of_lt_of_le hx h.size) hn).trans (h.oth x hx hn)⟩
theorem Ext.mv {s : Nat} {w w' : World} (h : Ext w w') (hs : s ≤ w.heap.size) : Mv s w w' := ⟨h.mono hs, fun b hb _ => h.block b hb⟩
theorem Mv.ext {s : Nat} {a w w' : World} (h : Ext a w) (k : Mv s w w') (hs : a.heap.size ≤ s) : Ext a w' := Ext.below h (k.blw.mono hs)
theorem Mv.at {s : Nat} {w w' : World} (h : Mv s w w') {t o : Nat} {u : Value} (hne : t ≠ s) (k : At t o u w) : At t o u w' :=
  ⟨by rw [← k.1]; exact World.cell?_of_block (w := w) (h.oth t k.2 hne), Nat.lt_of_lt_of_le k.2 h.size⟩
theorem Mv.gr {s n : Nat} {w w' : World} (h : Mv s w w') (k : Bx n s w) (k' : Bx n s w') : Gr w w' :=
  ⟨h.size, fun b hb => by
    by_cases e : b = s
    · subst e; exact .inr ⟨n, k, k'⟩
    · exact .inl (h.oth b hb e)⟩
theorem Mv.set (s o : Nat) (v : Value) (w : World) : Mv s w (w.setCell ⟨s, o, none⟩ v) :=
  ⟨(Below.refl s w).setCell (p := ⟨s, o, none⟩) (Nat.le_refl _) v, fun _b _ hb => Below.heap_setCell _ _ _ _ hb⟩

/-- the cursor in block s: its string, how many bits were read, whether it is over -/
structure Cur (S : ByteArray) (s at_ : Nat) (ov : Bool) (w : World) : Prop where
  c0 : At s 0 (.string S) w
  c1 : At s 1 (.int .i64 (at_ : Int)) w
  c2 : At s 2 (.bool ov) w
  bx : Bx 3 s w
theorem Cur.ext {S : ByteArray} {s at_ : Nat} {ov : Bool} {w w' : World} (h : Cur S s at_ ov w) (x : Ext w w') : Cur S s at_ ov w' := ⟨h.c0.ext x, h.c1.ext x, h.c2.ext x, h.bx.gr x.gr⟩
theorem Cur.set {S : ByteArray} {s at_ : Nat} {ov : Bool} {w : World} (h : Cur S s at_ ov w) (n : Nat) : Cur S s n ov (w.setCell ⟨s, 1, none⟩ (.int .i64 (n : Int))) := by
  have hb := setRow_bx' (o := 1) (cs := [.int .i64 (n : Int)]) h.bx (by simp) (by intro u hu; simp at hu; subst hu; trivial)
  exact ⟨hb.2.2 0 _ (by simp) h.c0, hb.2.1 0 _ rfl, hb.2.2 2 _ (by simp) h.c2, hb.1⟩
theorem Cur.stop {S : ByteArray} {s at_ : Nat} {ov : Bool} {w : World} (h : Cur S s at_ ov w) : Cur S s at_ true (w.setCell ⟨s, 2, none⟩ (.bool true)) := by
  have hb := setRow_bx' (o := 2) (cs := [.bool true]) h.bx (by simp) (by intro u hu; simp at hu; subst hu; trivial)
  exact ⟨hb.2.2 0 _ (by simp) h.c0, hb.2.2 1 _ (by simp) h.c1, hb.2.1 0 _ rfl, hb.1⟩
theorem Cur.lt {S : ByteArray} {s at_ : Nat} {ov : Bool} {w : World} (h : Cur S s at_ ov w) : s < w.heap.size := h.c0.2

/-- New hands a cursor out -/
def RetCur (S : ByteArray) (w : World) (e : Ending) (w' : World) : Prop := ∃ s, e = .returned (.tuple #[.pointer (some ⟨s, 0, none⟩), .int .i64 0]) ∧ w.heap.size ≤ s ∧ Cur S s 0 false w' ∧ Ext w w'

end Go.Proofs.YtefeglkbikcjeaaGreatDoor

/- The contract of Cursor.Take; numbers that bits are. -/
namespace Go.Proofs.YtefeglkbikcjeaaGreatDoor
open Go Go.RowKit

/-- the number that bits are -/
def bitv (l : List UInt8) : Nat := l.foldl (fun x b => 2 * x + (b.toNat - 48)) 0
theorem bitv_snoc (l : List UInt8) (b : UInt8) : bitv (l ++ [b]) = 2 * bitv l + (b.toNat - 48) := by simp [bitv]
/-- k bits from a place on -/
def bitsAt (l : List UInt8) (a k : Nat) : Nat := bitv ((l.drop a).take k)
theorem bitsAt_zero (l : List UInt8) (a : Nat) : bitsAt l a 0 = 0 := by simp [bitsAt, bitv]
theorem bitsAt_succ {l : List UInt8} {a k : Nat} (h : a + k < l.length) : bitsAt l a (k + 1) = 2 * bitsAt l a k + (bn l (a + k) - 48) := by
  unfold bitsAt
  rw [List.take_succ_eq_append_getElem (by simp; omega), bitv_snoc, bn_at h]
  simp
theorem bitsAt_lt {l : List UInt8} (ho : oddL l = false) {a : Nat} : ∀ {k : Nat}, a + k ≤ l.length → bitsAt l a k < 2 ^ k
  | 0, _ => by rw [bitsAt_zero]; decide
  | k + 1, h => by
    have h1 := bitsAt_lt ho (a := a) (k := k) (by omega)
    have h2 := oddL_get ho (i := a + k) (by omega)
    rw [bitsAt_succ (by omega), Nat.pow_succ]; omega
theorem bitsAt_64 {l : List UInt8} (ho : oddL l = false) {a k : Nat} (h : a + k ≤ l.length) (hk : k ≤ 63) : (bitsAt l a k : Int) ≤ 9223372036854775807 := by
  have h1 := bitsAt_lt ho h
  have h2 : (2 : Nat) ^ k ≤ 2 ^ 63 := Nat.pow_le_pow_right (by decide) hk
  have h3 : (2 : Nat) ^ 63 = 9223372036854775808 := by decide
  omega
theorem bitsAt_Bs {l : List UInt8} (ho : oddL l = false) {a k : Nat} (h : a + k ≤ l.length) (hk : k ≤ 64) : bitsAt l a k < Bs := by
  have h1 := bitsAt_lt ho h
  have h2 : (2 : Nat) ^ k ≤ 2 ^ 64 := Nat.pow_le_pow_right (by decide) hk
  rw [Bs_def]; exact Nat.lt_of_lt_of_le h1 h2
theorem or_bit {x b : Nat} (hx : x < 2 ^ 63) (hb : b = 48 ∨ b = 49) : bits .or .u64 (IntKind.u64.wrap ((x : Int) * 2)) ((b : Int) - 48) = ((2 * x + (b - 48) : Nat) : Int) := by
  have h3 : (2 : Nat) ^ 63 = 9223372036854775808 := by decide
  rw [wraps_u64 _ (by omega) (by omega), bits_join .u64 64 (by decide) wraps_u64 1 ((x : Int) * 2) ((b : Int) - 48) (by omega) (by omega) (by omega) (by omega) (by omega) (by omega)]
  omega
theorem okS_len {s : ByteArray} (h : okS s.data.toList = true) : s.size ≤ 1024 ∧ oddL s.data.toList = false := by
  unfold okS at h
  rw [Bool.and_eq_true, decide_eq_true_eq, ← Lib.size_eq s] at h
  exact ⟨h.1, by simpa using h.2⟩

end Go.Proofs.YtefeglkbikcjeaaGreatDoor

/- Numbers drawn below others: what is drawn, as a function; the contracts of package below (all but Cost). -/
namespace Go.Proofs.YtefeglkbikcjeaaGreatDoor
open Go Go.RowKit

/-- how many bits a number below m has -/
def wid (m : Nat) : Nat := if m = 0 then 0 else bl (m - 1)
theorem wid_le {m : Nat} (h : m < Bs) : wid m ≤ 64 := by
  unfold wid; split
  · omega
  · exact (bl_le_iff _ _).2 (by rw [Bs_def] at h; omega)
theorem wid_pos {m : Nat} (h : 2 ≤ m) : 1 ≤ wid m := by
  unfold wid
  rw [if_neg (by omega)]
  rcases Nat.eq_zero_or_pos (bl (m - 1)) with h0 | h0
  · have := (bl_le_iff (m - 1) 0).1 (by omega)
    omega
  · exact h0
theorem wid_one : wid 1 = 0 := by simp [wid, bl]

/-- a number below m, drawn of the bits from a place on; where it ends -/
def drawF (l : List UInt8) (m a : Nat) : Option Nat × Nat :=
  if l.length < a + wid m then (none, a)
  else if bitsAt l a (wid m) < m then (some (bitsAt l a (wid m)), a + wid m)
  else if wid m = 0 then (none, a)
  else drawF l m (a + wid m)
termination_by l.length - a
decreasing_by omega

theorem drawF_short {l : List UInt8} {m a : Nat} (h : l.length < a + wid m) : drawF l m a = (none, a) := by rw [drawF, if_pos h]
theorem drawF_hit {l : List UInt8} {m a v : Nat} (h : a + wid m ≤ l.length) (hv : bitsAt l a (wid m) = v) (hm : v < m) : drawF l m a = (some v, a + wid m) := by
  rw [drawF, if_neg (by omega), if_pos (by omega), hv]
theorem drawF_miss {l : List UInt8} {m a v : Nat} (h : a + wid m ≤ l.length) (hv : bitsAt l a (wid m) = v) (hm : m ≤ v) (h0 : 1 ≤ wid m) : drawF l m a = drawF l m (a + wid m) := by
  rw [drawF, if_neg (by omega), if_neg (by omega), if_neg (by omega)]
theorem drawF_le {l : List UInt8} {m : Nat} (a : Nat) (ha : a ≤ l.length) : a ≤ (drawF l m a).2 ∧ (drawF l m a).2 ≤ l.length := by
  induction a using drawF.induct (l := l) (m := m) with
  | case1 a h => rw [drawF_short h]; exact ⟨Nat.le_refl _, ha⟩
  | case2 a h1 h2 => rw [drawF_hit (by omega) rfl h2]; exact ⟨Nat.le_add_right _ _, by omega⟩
  | case3 a h1 h2 h3 => rw [drawF, if_neg h1, if_neg h2, if_pos h3]; exact ⟨Nat.le_refl _, ha⟩
  | case4 a h1 h2 h3 ih =>
    rw [drawF_miss (by omega) rfl (by omega) (by omega)]
    have := ih (by omega)
    omega
theorem drawF_lt {l : List UInt8} {m v : Nat} (a : Nat) (h : (drawF l m a).1 = some v) : v < m := by
  induction a using drawF.induct (l := l) (m := m) with
  | case1 a h1 => rw [drawF_short h1] at h; cases h
  | case2 a h1 h2 => rw [drawF_hit (by omega) rfl h2] at h; injection h with h; rw [← h]; exact h2
  | case3 a h1 h2 h3 => rw [drawF, if_neg h1, if_neg h2, if_pos h3] at h; cases h
  | case4 a h1 h2 h3 ih => rw [drawF_miss (by omega) rfl (by omega) (by omega)] at h; exact ih h

/-- what a draw tells -/
def valD : Option Nat → Nat
  | some v => v
  | none => 0

/-- what a draw leaves: the number, the cursor -/
def RetDraw (S : ByteArray) (s m a : Nat) (w : World) (e : Ending) (w' : World) : Prop :=
  e = .returned (.tuple #[.int .u64 (valD (drawF S.data.toList m a).1 : Nat), .bool (drawF S.data.toList m a).1.isSome]) ∧ Mv s w w' ∧ Cur S s (drawF S.data.toList m a).2 (!(drawF S.data.toList m a).1.isSome) w'

end Go.Proofs.YtefeglkbikcjeaaGreatDoor

/- The contracts of below.Draw and below.Cost. -/
namespace Go.Proofs.YtefeglkbikcjeaaGreatDoor
open Go Go.RowKit

theorem nof_n (w : World) (n : Nat) (hn : n < Bs) : Calls Tryz.prog 76 #[.int .u64 (n : Int)] w (RetN w n) := of_calls hn

/-- what is drawn, by names -/
def DrawIs (l : List UInt8) (m a x : Nat) (y : Bool) (a' : Nat) : Prop := valD (drawF l m a).1 = x ∧ (drawF l m a).1.isSome = y ∧ (drawF l m a).2 = a'
theorem DrawIs.le {l : List UInt8} {m a x a' : Nat} {y : Bool} (h : DrawIs l m a x y a') (ha : a ≤ l.length) : a ≤ a' ∧ a' ≤ l.length := by
  rw [← h.2.2]; exact drawF_le a ha
theorem DrawIs.lt {l : List UInt8} {m a x a' : Nat} {y : Bool} (h : DrawIs l m a x y a') (hm : 1 ≤ m) : x < m := by
  obtain ⟨h1, -, -⟩ := h
  cases h2 : (drawF l m a).1 with
  | none => rw [h2] at h1; rw [← h1]; exact hm
  | some v => rw [h2] at h1; rw [← h1]; exact drawF_lt a h2
theorem drawIs (l : List UInt8) (m a : Nat) : ∃ x y a', DrawIs l m a x y a' := ⟨_, _, _, rfl, rfl, rfl⟩
theorem DrawIs.zero {l : List UInt8} {m a x a' : Nat} (h : DrawIs l m a x false a') : x = 0 := by
  obtain ⟨h1, h2, -⟩ := h
  cases h3 : (drawF l m a).1 with
  | none => rw [h3] at h1; exact h1.symm
  | some v => rw [h3] at h2; cases h2
/-- what a draw leaves: the number, the cursor -/
def RetD (S : ByteArray) (s x : Nat) (y : Bool) (a : Nat) (w : World) (e : Ending) (w' : World) : Prop :=
  e = .returned (.tuple #[.int .u64 (x : Int), .bool y]) ∧ Mv s w w' ∧ Cur S s a (!y) w'
theorem RetDraw.d {S : ByteArray} {s m a x a' : Nat} {y : Bool} {w w' : World} {e : Ending} (h : RetDraw S s m a w e w') (hd : DrawIs S.data.toList m a x y a') : RetD S s x y a' w e w' := by
  obtain ⟨h1, h2, h3⟩ := h
  obtain ⟨d1, d2, d3⟩ := hd
  subst d1 d2 d3
  exact ⟨h1, h2, h3⟩

/-- how many bits are expected to be read -/
noncomputable def costQ (m : Nat) : Rat := mkRat ((wid m * 2 ^ wid m : Nat) : Int) m
theorem shl_bs {q : Nat} (h : q ≤ 64) : q * 2 ^ q < Bs ^ 2 := by
  have h1 : (2 : Nat) ^ q ≤ Bs := by rw [Bs_eq]; exact Nat.pow_le_pow_right (by decide) h
  have h2 : (q : Nat) < Bs := by rw [Bs_def]; omega
  rw [Nat.pow_two]
  calc q * 2 ^ q ≤ q * Bs := Nat.mul_le_mul_left _ h1
    _ < Bs * Bs := Nat.mul_lt_mul_of_pos_right h2 Bs_pos
theorem costQ_len {m : Nat} (hm : m < Bs) : LenR 2 (costQ m) := by
  refine LenR.mk (by decide) ?_ ?_
  · rw [Int.natAbs_natCast]; exact shl_bs (wid_le hm)
  · rw [Nat.pow_two]; exact Nat.lt_of_lt_of_le hm (Nat.le_mul_of_pos_right _ Bs_pos)

end Go.Proofs.YtefeglkbikcjeaaGreatDoor

/- Slices of numbers: views, rows of the call's own; append, make, literals. -/
namespace Go.Proofs.YtefeglkbikcjeaaGreatDoor
open Go Go.RowKit

/-- a number as a value -/
def zv (x : Int) : Value := .int .i64 x
/-- v reads as the numbers L -/
def Ints (w : World) (v : Value) (L : List Int) : Prop := Sl 1 w v L.length (L.map zv)
theorem Ints.ext {w w' : World} {v : Value} {L : List Int} (h : Ints w v L) (k : Ext w w') : Ints w' v L := Sl.ext h k
theorem Ints.nil (w : World) : Ints w (.slice none 0 0) [] :=
  ⟨rfl, none, 0, rfl, Nat.le_refl _, Nat.zero_le _, fun _ => ⟨rfl, rfl⟩, fun p hp _ => by cases hp⟩
/-- the shape of a slice -/
theorem Ints.open {w : World} {v : Value} {L : List Int} (h : Ints w v L) :
    ∃ a cap, v = .slice a L.length cap ∧ L.length ≤ cap ∧ cap ≤ maxLen ∧
      ∀ i, i < L.length → ∃ b o, a = some ⟨b, o, none⟩ ∧ b < w.heap.size ∧ ∀ j, j < L.length → w.cell? ⟨b, o + j, none⟩ = some (.int .i64 (L.getD j 0)) := by
  obtain ⟨h1, a, cap, h2, h3, h4, h5, h6⟩ := h
  refine ⟨a, cap, h2, h3, h4, fun i hi => ?_⟩
  cases a with
  | none => have := h5 rfl; omega
  | some p =>
    obtain ⟨q1, q2, q3⟩ := h6 p rfl (by omega)
    obtain ⟨b, o, sp⟩ := p
    subst q1
    refine ⟨b, o, rfl, q2, fun j hj => ?_⟩
    rw [q3 j (by simpa using hj)]
    simp [zv, List.getD, hj]
theorem Ints.slice {w : World} {v : Value} {L : List Int} (h : Ints w v L) : ∃ a cap, v = .slice a L.length cap := by
  obtain ⟨a, cap, h1, -⟩ := h.open; exact ⟨a, cap, h1⟩
theorem Ints.len_le {w : World} {a : Option Addr} {n cap : Nat} {L : List Int} (h : Ints w (.slice a n cap) L) : n = L.length := by
  obtain ⟨_, _, h1, -⟩ := h.open
  injection h1
/-- the first ones -/
theorem Ints.take {w : World} {a : Option Addr} {L : List Int} {m cap : Nat} (h : Ints w (.slice a m cap) L) {n : Nat} (hn : n ≤ L.length) : Ints w (.slice a n cap) (L.take n) := by
  obtain ⟨h1, a', cap', h2, h3, h4, h5, h6⟩ := h
  cases h2
  have hl : (L.take n).length = n := by simp; omega
  refine ⟨by simp, a, cap, by rw [hl], by omega, h4, fun e => ?_, fun p hp h0 => ?_⟩
  · have := h5 e; omega
  · obtain ⟨q1, q2, q3⟩ := h6 p hp (by omega)
    refine ⟨q1, q2, fun j hj => ?_⟩
    have hj' : j < L.length := by simp at hj; omega
    rw [q3 j (by simpa using hj')]
    simp
/-- those from a place on -/
theorem Ints.drop {w : World} {b o : Nat} {L : List Int} {m cap : Nat} (h : Ints w (.slice (some ⟨b, o, none⟩) m cap) L) {n : Nat} (hn : n ≤ L.length) : Ints w (.slice (some ⟨b, o + n, none⟩) (m - n) (cap - n)) (L.drop n) := by
  obtain ⟨h1, a', cap', h2, h3, h4, h5, h6⟩ := h
  cases h2
  refine ⟨by simp, some ⟨b, o + n, none⟩, cap - n, by simp, by simp; omega, by omega, fun e => (by cases e), fun p hp h0 => ?_⟩
  obtain rfl := Option.some.inj hp
  obtain ⟨q1, q2, q3⟩ := h6 _ rfl (by simp at h0; omega)
  refine ⟨rfl, q2, fun j hj => ?_⟩
  have hj' : n + j < L.length := by simp at hj; omega
  show w.cell? ⟨b, o + n + j, none⟩ = _
  have := q3 (n + j) (by simpa using hj')
  rw [Nat.add_assoc, this]
  simp

/-- v reads as L, in a row of the type t of the call's own, from block B on -/
def OwnI (t : TypeId) (B : Nat) (w : World) (v : Value) (L : List Int) : Prop := Own B t 1 w v L.length (L.map zv)
theorem OwnI.ints {t : TypeId} {B : Nat} {w : World} {v : Value} {L : List Int} (h : OwnI t B w v L) : Ints w v L := Own.sl h
theorem OwnI.ext {t : TypeId} {B : Nat} {w w' : World} {v : Value} {L : List Int} (h : OwnI t B w v L) (k : Ext w w') : OwnI t B w' v L := Own.ext h k
theorem OwnI.mono {t : TypeId} {B B' : Nat} {w : World} {v : Value} {L : List Int} (h : OwnI t B w v L) (k : B' ≤ B) : OwnI t B' w v L := Own.mono h k
theorem OwnI.gr {t : TypeId} {B : Nat} {w w' : World} {v : Value} {L : List Int} (h : OwnI t B w v L) (ht : t ∈ notBox) (k : Gr w w') : OwnI t B w' v L := Own.gr h ht k
theorem OwnI.nil (t : TypeId) (B : Nat) (w : World) : OwnI t B w (.slice none 0 0) [] := .inl (World.ownsRow_nil ..)
theorem zv_oneCell (L : List Int) : ∀ u ∈ L.map zv, u.oneCell' = true := by
  intro u hu
  obtain ⟨_, _, rfl⟩ := List.mem_map.1 hu
  rfl
theorem info_i64 : (Tryz.prog.info? 2).map (fun i => (i.zero, i.size, i.bytes)) = some (some (.int .i64 0), 1, 8) := by kernel_rfl
theorem info_int : (Tryz.prog.info? 3).map (fun i => (i.zero, i.size, i.bytes)) = some (some (.int .i64 0), 1, 8) := by kernel_rfl
theorem ints_lit {t : TypeId} (w : World) (L : List Int) (C : Array Value) (hC : C.toList = L.map zv) (n : Nat) (hn : n = L.length) (hl : L.length ≤ 100000) :
    Ints (w.alloc (.cells C t)) (.slice (some ⟨w.heap.size, 0, none⟩) n n) L := by
  subst hn
  refine ⟨by simp, _, _, rfl, Nat.le_refl _, by unfold maxLen; omega, fun e => (by cases e), fun p hp _ => ?_⟩
  obtain rfl := Option.some.inj hp
  refine ⟨rfl, by simp, fun j hj => ?_⟩
  have hs : C.size = L.length := by rw [← Array.length_toList, hC]; simp
  have hj' : j < C.size := by rw [hs]; simpa using hj
  rw [cell_of_row _ w.heap.size _ C t (0, 0) (heap_alloc_new w _)]
  rw [Nat.zero_add, Array.getElem?_eq_getElem hj']
  congr 1
  have : C.toList[j]'(by simpa using hj') = (L.map zv)[j] := by simp only [hC]
  simpa using this
theorem own_litI {t : TypeId} (w : World) (L : List Int) (C : Array Value) (hC : C.toList = L.map zv) (n : Nat) (hn : n = L.length) (hl : L.length ≤ 100000) :
    OwnI t w.heap.size (w.alloc (.cells C t)) (.slice (some ⟨w.heap.size, 0, none⟩) n n) L := by
  subst hn
  have hs : C.size = L.length := by rw [← Array.length_toList, hC]; simp
  exact .inl ⟨by simp, .inr ⟨w.heap.size, L.length, C, rfl, Nat.le_refl _, heap_alloc_new w _, Nat.le_refl _, by unfold maxLen; omega, by rw [hs]; simp, by rw [hC]; exact List.take_of_length_le (by simp)⟩⟩

/-- 'append' of numbers to a row of the call's own -/
theorem append_ints {w : World} {ops : Array Oper} {rest : List Oper} {o : Oper} {a : Act} {Q : Exit → Act → World → Prop} (hgd : o.guard = none) (s x : Operand) (t e : TypeId)
    (ht : Tryz.prog.underlying t = some (.slice e)) (hinfo : (Tryz.prog.info? e).map (fun i => (i.zero, i.size, i.bytes)) = some (some (.int .i64 0), 1, 8)) (ho : o.op = .call { callee := .builtin .append, args := #[s, x], argTypes := #[t, t] })
    (base : Nat) (v : Value) (n : Nat) (C : List Value) (hs : a.eval s = v) (hown : w.ownsRow base e 1 v n C) (hbase : base ≤ w.heap.size)
    (u : Value) (A : List Int) (hx : a.eval x = u) (hA : Ints w u A) (hlen : n + A.length ≤ 100000)
    (h : ∀ v' w', w'.ownsRow base e 1 v' (n + A.length) (C ++ A.map zv) → w.grownBy w' v.ownBlock → wpList Tryz.prog ops Q rest (a.put o.dst v') w') : wpList Tryz.prog ops Q (o :: rest) a w :=
  wpList_append_sl hgd s x t ho base e (.int .i64 0) 1 8 ht hinfo rfl (by decide) v n C hs hown u A.length (A.map zv) hx hA (zv_oneCell A) (by unfold maxLen; omega) (by omega) hbase h
/-- 'make' of numbers: so many 0s -/
theorem make_ints {w : World} {ops : Array Oper} {rest : List Oper} {o : Oper} {a : Act} {Q : Exit → Act → World → Prop} (hgd : o.guard = none) (l c : Operand) (t e : TypeId)
    (ht : Tryz.prog.underlying t = some (.slice e)) (hinfo : (Tryz.prog.info? e).map (fun i => (i.zero, i.size, i.bytes)) = some (some (.int .i64 0), 1, 8)) (hop : o.op = Op.makeSlice t l c) (n : Nat) (C : Int) (hC : C = (n : Int)) (hl : a.eval l = .int .i64 C) (hc : a.eval c = .int .i64 C) (hn : n ≤ 100000)
    (h : ∀ w', w'.ownsRow w.heap.size e 1 (.slice (some ⟨w.heap.size, 0, none⟩) n n) n ((List.replicate n 0).map zv) → w.grownBy w' none →
      wpList Tryz.prog ops Q rest (a.put o.dst (.slice (some ⟨w.heap.size, 0, none⟩) n n)) w') : wpList Tryz.prog ops Q (o :: rest) a w := by
  obtain ⟨i, hi, hz, hsize, hby⟩ := info_parts hinfo
  refine wpList_make_full w hgd l c t hop w.heap.size e i (.int .i64 0) 1 ht hi hz hsize .i64 .i64 C C n hl hc hC hC (by rw [hby]; omega) (by unfold maxLen; omega) (Nat.le_refl _) (fun w' h1 h2 => h w' ?_ h2)
  rw [show (Value.int IntKind.i64 0).cells = #[Value.int IntKind.i64 0] from rfl, Nat.mul_one, toList_madeCells_one] at h1
  simpa [zv] using h1

/-- a row of the call's own, while it grows -/
structure RowMem (t : TypeId) (B : Nat) (L : List Int) (v : Value) (w wr : World) : Prop where
  own : wr.ownsRow B t 1 v L.length (L.map zv)
  ext : Ext w wr
  lo : w.heap.size ≤ B
theorem RowMem.grow {t : TypeId} {B : Nat} {L A : List Int} {v v' : Value} {w wr w1 w' : World} (h : RowMem t B L v w wr) (k : Ext wr w1) (h1 : w'.ownsRow B t 1 v' (L.length + A.length) (L.map zv ++ A.map zv)) (hg : w1.grownBy w' v.ownBlock) :
    RowMem t B (L ++ A) v' w w' :=
  ⟨by rw [List.length_append, List.map_append]; exact h1, (h.ext.trans k).grown hg (fun b hb => Nat.le_trans h.lo (h.own.lt b hb).1), h.lo⟩
theorem RowMem.ownI {t : TypeId} {B : Nat} {L : List Int} {v : Value} {w wr : World} (h : RowMem t B L v w wr) : OwnI t B wr v L := .inl h.own
/-- a cell ahead of the row stays, as it grows -/
theorem At.grown {s o : Nat} {u : Value} {w w' : World} {row : Option Nat} (h : At s o u w) (hg : w.grownBy w' row) (hr : ∀ k, row = some k → s < k) : At s o u w' :=
  ⟨by rw [← h.1]; exact World.cell?_of_block (w := w) (hg.block s h.2 (fun e => Nat.lt_irrefl s (hr s e.symm))), Nat.lt_of_lt_of_le h.2 hg.size⟩
theorem Bx.grown {n s : Nat} {w w' : World} {row : Option Nat} (h : Bx n s w) (hg : w.grownBy w' row) (hr : ∀ k, row = some k → s < k) : Bx n s w' :=
  h.of_eq (hg.block s h.lt (fun e => Nat.lt_irrefl s (hr s e.symm)))
theorem row_sliceI {w : World} {B : Nat} {e : TypeId} {s : Nat} {v : Value} {n : Nat} {xs : List Value} (h : w.ownsRow B e s v n xs) : ∃ a c, v = .slice a n c := by
  rcases h.2 with ⟨rfl, h0⟩ | ⟨g, cap, cur, rfl, -⟩
  · exact ⟨_, _, by rw [h0]⟩
  · exact ⟨_, _, rfl⟩
end Go.Proofs.YtefeglkbikcjeaaGreatDoor

/- Weights, their sums, and the places that numbers pick: plain facts. -/
namespace Go.Proofs.YtefeglkbikcjeaaGreatDoor

theorem getD_lt {W : List Int} {k : Nat} (h : k < W.length) : W.getD k 0 = W[k] := by simp [List.getD, h]
theorem getD_ge {W : List Int} {k : Nat} (h : W.length ≤ k) : W.getD k 0 = 0 := by simp [List.getD, h]
theorem getD_app {W V : List Int} {k : Nat} (h : W.length ≤ k) : (W ++ V).getD k 0 = V.getD (k - W.length) 0 := by simp [List.getD, List.getElem?_append_right h]
/-- what the first k weights add up to -/
def psum : List Int → Nat → Int
  | _, 0 => 0
  | [], _ + 1 => 0
  | x :: W, k + 1 => x + psum W k
theorem psum_zero (W : List Int) : psum W 0 = 0 := by cases W <;> rfl
theorem psum_nil (k : Nat) : psum [] k = 0 := by cases k <;> rfl
theorem psum_succ : ∀ (W : List Int) (k : Nat), psum W (k + 1) = psum W k + W.getD k 0
  | [], k => by simp [psum_nil]
  | x :: W, 0 => by simp [psum, psum_zero]
  | x :: W, k + 1 => by simp only [psum]; rw [psum_succ W k]; simp [Int.add_assoc]
theorem psum_app_left : ∀ (W V : List Int) (k : Nat), k ≤ W.length → psum (W ++ V) k = psum W k
  | W, V, 0, _ => by rw [psum_zero, psum_zero]
  | [], V, k + 1, h => by simp at h
  | x :: W, V, k + 1, h => by simp only [List.cons_append, psum]; rw [psum_app_left W V k (by simpa using h)]
theorem psum_app : ∀ (W V : List Int) (k : Nat), psum (W ++ V) (W.length + k) = psum W W.length + psum V k
  | [], V, k => by simp [psum_nil]
  | x :: W, V, k => by
    simp only [List.cons_append, List.length_cons]
    rw [show W.length + 1 + k = (W.length + k) + 1 by omega]
    simp only [psum]; rw [psum_app W V k, Int.add_assoc]
theorem psum_take (W : List Int) {k j : Nat} (h : j ≤ k) : psum (W.take k) j = psum W j := by
  rcases Nat.lt_or_ge k W.length with hk | hk
  · have := psum_app_left (W.take k) (W.drop k) j (by simp; omega)
    rw [List.take_append_drop] at this; exact this.symm
  · rw [List.take_of_length_le hk]
theorem psum_end (W : List Int) {k : Nat} (h : W.length ≤ k) : psum W k = psum W W.length := by
  obtain ⟨d, rfl⟩ := Nat.exists_eq_add_of_le h
  have := psum_app W [] d
  rw [List.append_nil, psum_nil, Int.add_zero] at this; exact this

/-- each weight may be -/
def okW (W : List Int) : Prop := ∀ x ∈ W, 0 ≤ x ∧ x ≤ 1048576
instance (W : List Int) : Decidable (okW W) := by unfold okW; infer_instance
theorem okW.get {W : List Int} (h : okW W) (k : Nat) : 0 ≤ W.getD k 0 ∧ W.getD k 0 ≤ 1048576 := by
  rcases Nat.lt_or_ge k W.length with hk | hk
  · rw [getD_lt hk]; exact h _ (List.getElem_mem hk)
  · rw [getD_ge hk]; decide
theorem psum_step {W : List Int} (h : okW W) (k : Nat) : psum W k ≤ psum W (k + 1) ∧ psum W (k + 1) ≤ psum W k + 1048576 := by
  have := h.get k
  rw [psum_succ]; omega
theorem psum_mono {W : List Int} (h : okW W) {i j : Nat} (hij : i ≤ j) : psum W i ≤ psum W j := by
  induction j with
  | zero => rw [show i = 0 by omega]; exact Int.le_refl _
  | succ j ih =>
    rcases Nat.lt_or_ge j i with g | g
    · rw [show i = j + 1 by omega]; exact Int.le_refl _
    · have := ih g; have := (psum_step h j).1; omega
theorem psum_nonneg {W : List Int} (h : okW W) (k : Nat) : 0 ≤ psum W k := by have := psum_mono h (Nat.zero_le k); rwa [psum_zero] at this
theorem psum_le {W : List Int} (h : okW W) : ∀ k : Nat, psum W k ≤ k * 1048576
  | 0 => by rw [psum_zero]; omega
  | k + 1 => by have := psum_le h k; have := (psum_step h k).2; omega
theorem psum_top {W : List Int} (h : okW W) (k : Nat) : psum W k ≤ psum W W.length := by
  rcases Nat.le_total k W.length with g | g
  · exact psum_mono h g
  · rw [psum_end W g]; exact Int.le_refl _

/-- what is wrong of weights -/
def errW (W : List Int) : Nat := if W.length = 0 then 4 else if 64 < W.length then 5 else if ¬ okW W then 1 else if psum W W.length = 0 then 7 else 0
theorem errW_ok {W : List Int} (h : errW W = 0) : 1 ≤ W.length ∧ W.length ≤ 64 ∧ okW W ∧ 1 ≤ psum W W.length := by
  unfold errW at h
  split at h
  · cases h
  · split at h
    · cases h
    · split at h
      · cases h
      · rename_i h3
        split at h
        · cases h
        · have h3 := Decidable.not_not.1 h3
          have := psum_nonneg h3 W.length
          exact ⟨by omega, by omega, h3, by omega⟩
theorem errW_of {W : List Int} (h1 : 1 ≤ W.length) (h2 : W.length ≤ 64) (h3 : okW W) (h4 : psum W W.length ≠ 0) : errW W = 0 := by
  unfold errW
  rw [if_neg (by omega), if_neg (by omega), if_neg (by simpa using h3), if_neg h4]
theorem errW_sum {W : List Int} (h1 : 1 ≤ W.length) (h2 : W.length ≤ 64) (h3 : okW W) (h4 : psum W W.length = 0) : errW W = 7 := by
  unfold errW
  rw [if_neg (by omega), if_neg (by omega), if_neg (by simpa using h3), if_pos h4]
theorem errW_bad {W : List Int} (h1 : 1 ≤ W.length) (h2 : W.length ≤ 64) {i : Nat} (_hi : i < W.length) (h : W.getD i 0 < 0 ∨ 1048576 < W.getD i 0) : errW W = 1 := by
  unfold errW
  rw [if_neg (by omega), if_neg (by omega), if_pos]
  intro h3
  have := h3.get i; omega

/-- the place that a number picks -/
structure IsPick (W : List Int) (r : Int) (i : Nat) : Prop where
  lt : i < W.length
  lo : psum W i ≤ r
  hi : r < psum W (i + 1)
theorem IsPick.uniq {W : List Int} {r : Int} {i j : Nat} (hW : okW W) (h : IsPick W r i) (k : IsPick W r j) : i = j := by
  rcases Nat.lt_trichotomy i j with g | g | g
  · have := psum_mono hW (show i + 1 ≤ j from g); have := h.hi; have := k.lo; omega
  · exact g
  · have := psum_mono hW (show j + 1 ≤ i from g); have := k.hi; have := h.lo; omega
theorem IsPick.mono {W : List Int} {r r' : Int} {i j : Nat} (hW : okW W) (hr : r ≤ r') (h : IsPick W r i) (k : IsPick W r' j) : i ≤ j := by
  rcases Nat.lt_or_ge j i with g | g
  · have := psum_mono hW (show j + 1 ≤ i from g); have := k.hi; have := h.lo; omega
  · exact g

theorem pick_exists {W : List Int} {r : Int} (h0 : 0 ≤ r) (h1 : r < psum W W.length) : ∃ i, IsPick W r i := by
  have key : ∀ k, k ≤ W.length → r < psum W k → ∃ i, IsPick W r i := by
    intro k
    induction k with
    | zero => intro _ h; rw [psum_zero] at h; omega
    | succ k ih =>
      intro hk h
      rcases Int.lt_or_le r (psum W k) with g | g
      · exact ih (by omega) g
      · exact ⟨k, hk, g, h⟩
  exact key _ (Nat.le_refl _) h1

/-- how often a place was hit by the numbers below r -/
def hitsW (W : List Int) (r : Int) (i : Nat) : Int := max 0 (min (W.getD i 0) (r - psum W i))
theorem hitsW_zero {W : List Int} (h : okW W) (i : Nat) : hitsW W 0 i = 0 := by
  unfold hitsW; have := psum_nonneg h i; have := h.get i; omega
theorem hitsW_end {W : List Int} (h : okW W) {i : Nat} (hi : i < W.length) : hitsW W (psum W W.length) i = W.getD i 0 := by
  unfold hitsW
  have h1 := h.get i
  have h2 := psum_succ W i
  have h3 := psum_mono h (show i + 1 ≤ W.length from hi)
  omega
theorem hitsW_same {W : List Int} (h : okW W) {r : Int} {i : Nat} (hp : IsPick W r i) : hitsW W (r + 1) i = hitsW W r i + 1 := by
  unfold hitsW
  have h1 := hp.lo; have h2 := hp.hi; have h3 := psum_succ W i; have := h.get i
  omega
theorem hitsW_other {W : List Int} (h : okW W) {r : Int} {i j : Nat} (hp : IsPick W r i) (hj : j ≠ i) : hitsW W (r + 1) j = hitsW W r j := by
  unfold hitsW
  have h1 := hp.lo; have h2 := hp.hi; have h3 := psum_succ W j; have h4 := h.get j
  rcases Nat.lt_or_gt_of_ne hj with g | g
  · have := psum_mono h (show j + 1 ≤ i from g); omega
  · have := psum_mono h (show i + 1 ≤ j from g); omega

/-- all weights so many times as great -/
theorem psum_times (W : List Int) (b : Int) : ∀ k, psum (W.map (· * b)) k = psum W k * b
  | 0 => by simp [psum_zero]
  | k + 1 => by
    rw [psum_succ, psum_succ, psum_times W b k, Int.add_mul]
    congr 1
    rcases Nat.lt_or_ge k W.length with hk | hk
    · simp [List.getD, hk]
    · simp [List.getD, hk]

/-- a weight parted into two -/
def partW (W : List Int) (k : Nat) (p : Int) : List Int := W.take k ++ [p, W.getD k 0 - p] ++ W.drop (k + 1)
theorem partW_length {W : List Int} {k : Nat} (p : Int) (h : k < W.length) : (partW W k p).length = W.length + 1 := by
  simp [partW]; omega
theorem partW_lo (W : List Int) {k : Nat} (p : Int) (h : k < W.length) {i : Nat} (hi : i ≤ k) : psum (partW W k p) i = psum W i := by
  unfold partW
  rw [List.append_assoc, psum_app_left _ _ _ (by simp; omega), psum_take W hi]
theorem partW_mid (W : List Int) {k : Nat} (p : Int) (h : k < W.length) : psum (partW W k p) (k + 1) = psum W k + p := by
  rw [psum_succ, partW_lo W p h (Nat.le_refl _)]
  have : (partW W k p).getD k 0 = p := by
    unfold partW
    rw [List.append_assoc, getD_app (by simp; omega)]
    simp [Nat.min_eq_left (Nat.le_of_lt h)]
  rw [this]
theorem getD_drop (W : List Int) (k i : Nat) : (W.drop k).getD i 0 = W.getD (k + i) 0 := by simp [List.getD]
theorem partW_hi (W : List Int) {k : Nat} (p : Int) (h : k < W.length) : ∀ i : Nat, psum (partW W k p) (k + 2 + i) = psum W (k + 1 + i)
  | 0 => by
    rw [Nat.add_zero, Nat.add_zero, psum_succ, partW_mid W p h, psum_succ]
    have : (partW W k p).getD (k + 1) 0 = W.getD k 0 - p := by
      unfold partW
      rw [List.append_assoc, getD_app (by simp; omega)]
      simp [Nat.min_eq_left (Nat.le_of_lt h)]
    rw [this]; omega
  | i + 1 => by
    rw [← Nat.add_assoc, psum_succ, partW_hi W p h i, ← Nat.add_assoc, psum_succ]
    congr 1
    unfold partW
    rw [List.append_assoc, getD_app (by simp; omega)]
    rw [show k + 2 + i - (W.take k).length = i + 2 by simp; omega]
    show (W.drop (k + 1)).getD i 0 = _
    rw [getD_drop]
theorem partW_okW {W : List Int} (hW : okW W) {k : Nat} {p : Int} (_h : k < W.length) (h0 : 0 ≤ p) (h1 : p ≤ W.getD k 0) : okW (partW W k p) := by
  have hk := hW.get k
  intro x hx
  unfold partW at hx
  rw [List.append_assoc, List.mem_append, List.mem_append] at hx
  rcases hx with hx | hx | hx
  · exact hW x (List.mem_of_mem_take hx)
  · have hx : x = p ∨ x = W.getD k 0 - p := by simpa using hx
    rcases hx with rfl | rfl <;> omega
  · exact hW x (List.mem_of_mem_drop hx)
theorem partW_sum {W : List Int} {k : Nat} (p : Int) (h : k < W.length) : psum (partW W k p) (partW W k p).length = psum W W.length := by
  rw [partW_length p h]
  have := partW_hi W p h (W.length - (k + 1))
  rw [show k + 2 + (W.length - (k + 1)) = W.length + 1 by omega, show k + 1 + (W.length - (k + 1)) = W.length by omega] at this
  exact this
theorem partW_pick {W : List Int} (hW : okW W) {k : Nat} {p r : Int} (h : k < W.length) (h0 : 0 ≤ p) (h1 : p ≤ W.getD k 0) {i j : Nat} (hi : IsPick W r i) (hj : IsPick (partW W k p) r j) :
    (i = k → j = k ∨ j = k + 1) ∧ (i < k → j = i) ∧ (k < i → j = i + 1) := by
  have hX := partW_okW hW h h0 h1
  refine ⟨fun e => ?_, fun e => ?_, fun e => ?_⟩
  · subst e
    rcases Int.lt_or_le r (psum W i + p) with g | g
    · exact .inl (hj.uniq hX ⟨by rw [partW_length p h]; omega, by rw [partW_lo W p h (Nat.le_refl _)]; exact hi.lo, by rw [partW_mid W p h]; exact g⟩)
    · exact .inr (hj.uniq hX ⟨by rw [partW_length p h]; omega, by rw [partW_mid W p h]; exact g, by have := partW_hi W p h 0; rw [Nat.add_zero, Nat.add_zero] at this; rw [this]; exact hi.hi⟩)
  · exact hj.uniq hX ⟨by rw [partW_length p h]; omega, by rw [partW_lo W p h (Nat.le_of_lt e)]; exact hi.lo, by rw [partW_lo W p h e]; exact hi.hi⟩
  · obtain ⟨d, rfl⟩ := Nat.exists_eq_add_of_lt e
    refine hj.uniq hX ⟨by rw [partW_length p h]; have := hi.lt; omega, ?_, ?_⟩
    · have := partW_hi W p h d
      rw [show k + d + 1 + 1 = k + 2 + d by omega, this, show k + 1 + d = k + d + 1 by omega]; exact hi.lo
    · have := partW_hi W p h (d + 1)
      rw [show k + d + 1 + 1 + 1 = k + 2 + (d + 1) by omega, this, show k + 1 + (d + 1) = k + d + 1 + 1 by omega]; exact hi.hi
end Go.Proofs.YtefeglkbikcjeaaGreatDoor

/- The contracts of package freq: New, Len, Sum. -/
namespace Go.Proofs.YtefeglkbikcjeaaGreatDoor
open Go Go.RowKit

/-- the weights, added up -/
def ups (W : List Int) (n : Nat) : List Int := (List.range n).map fun i => psum W (i + 1)
theorem ups_length (W : List Int) (n : Nat) : (ups W n).length = n := by simp [ups]
theorem ups_get (W : List Int) {n i : Nat} (h : i < n) : (ups W n).getD i 0 = psum W (i + 1) := by simp [ups, List.getD, h]
theorem ups_succ (W : List Int) (n : Nat) : ups W (n + 1) = ups W n ++ [psum W (n + 1)] := by simp [ups, List.range_succ]

/-- the table of the weights W in block s -/
structure Tab (W : List Int) (s : Nat) (p : Option Addr) (cap : Nat) (w : World) : Prop where
  c : At s 0 (.slice p W.length cap) w
  bx : Bx 1 s w
  up : OwnI 2 0 w (.slice p W.length cap) (ups W W.length)
theorem Tab.ext {W : List Int} {s : Nat} {p : Option Addr} {cap : Nat} {w w' : World} (h : Tab W s p cap w) (x : Ext w w') : Tab W s p cap w' := ⟨h.c.ext x, h.bx.gr x.gr, h.up.ext x⟩
theorem Tab.cell {W : List Int} {s : Nat} {p : Option Addr} {cap : Nat} {w : World} (h : Tab W s p cap w) {i : Nat} (hi : i < W.length) : ∃ b o, p = some ⟨b, o, none⟩ ∧ b < w.heap.size ∧ w.cell? ⟨b, o + i, none⟩ = some (.int .i64 (psum W (i + 1))) := by
  obtain ⟨a, cap', h1, -, -, h4⟩ := h.up.ints.open
  injection h1 with e1 e2 e3
  subst e1
  obtain ⟨b, o, q1, q2, q3⟩ := h4 i (by rw [ups_length]; exact hi)
  refine ⟨b, o, q1, q2, ?_⟩
  rw [q3 i (by rw [ups_length]; exact hi), ups_get W hi]
/-- New hands a table out -/
def RetTab (W : List Int) (w : World) (e : Ending) (w' : World) : Prop := ∃ s p cap, e = .returned (.tuple #[.pointer (some ⟨s, 0, none⟩), .int .i64 0]) ∧ w.heap.size ≤ s ∧ Tab W s p cap w' ∧ Ext w w'
/-- New refuses -/
def RetNoTab (k : Nat) (w : World) (e : Ending) (w' : World) : Prop := e = .returned (.tuple #[.pointer none, .int .i64 (k : Int)]) ∧ Ext w w'
/-- what New tells -/
def RetNew (W : List Int) (w : World) (e : Ending) (w' : World) : Prop := (errW W = 0 → RetTab W w e w') ∧ (errW W ≠ 0 → RetNoTab (errW W) w e w')
theorem RetNew.no {W : List Int} {w w' : World} {k : Nat} (hk : errW W = k) (h0 : k ≠ 0) (x : Ext w w') : RetNew W w (.returned (.tuple #[.pointer none, .int .i64 (k : Int)])) w' :=
  ⟨fun h => absurd (hk.symm.trans h) h0, fun _ => ⟨by rw [hk], x⟩⟩

/-- in the midst of New's loop -/
structure NewMem (W : List Int) (w : World) (k : Nat) (v : Value) (wr : World) : Prop where
  c : At w.heap.size 0 v wr
  bx : Bx 1 w.heap.size wr
  row : RowMem 2 (w.heap.size + 1) (ups W k) v w wr
theorem NewMem.shape {W : List Int} {w : World} {k : Nat} {v : Value} {wr : World} (h : NewMem W w k v wr) : ∃ p cap, v = .slice p k cap := by
  obtain ⟨a, c, h1⟩ := row_sliceI h.row.own
  exact ⟨a, c, by rw [h1, ups_length]⟩
theorem NewMem.tab {W : List Int} {w : World} {p : Option Addr} {cap : Nat} {wr : World} (h : NewMem W w W.length (.slice p W.length cap) wr) : Tab W w.heap.size p cap wr := ⟨h.c, h.bx, h.row.ownI.mono (Nat.zero_le _)⟩
theorem NewMem.next {W : List Int} {w : World} {k : Nat} {v v' : Value} {wr w1 w' : World} (h : NewMem W w k v wr) (x : Ext wr w1) {C : List Value}
    (h1 : w'.ownsRow (w.heap.size + 1) 2 1 v' (k + 1) ((ups W k).map zv ++ C)) (hC : C = [zv (psum W (k + 1))]) (hg : w1.grownBy w' v.ownBlock) :
    NewMem W w (k + 1) v' (w'.setCell ⟨w.heap.size, 0, none⟩ v') := by
  have hr := h.row.grow (A := [psum W (k + 1)]) x (by rw [ups_length]; subst hC; exact h1) hg
  have hlt : ∀ b, v.ownBlock = some b → w.heap.size < b := fun b hb => (h.row.own.lt b hb).1
  have hc : At w.heap.size 0 v w' := (h.c.ext x).grown hg hlt
  have hb : Bx 1 w.heap.size w' := (h.bx.gr x.gr).grown hg hlt
  obtain ⟨pa, pc, rfl⟩ := row_sliceI hr.own
  have hs := setRow_bx' (o := 0) (cs := [Value.slice pa (ups W k ++ [psum W (k + 1)]).length pc]) hb (by simp) noI_1
  refine ⟨hs.2.1 0 _ rfl, hs.1, ?_, ?_, hr.lo⟩
  · rw [ups_succ]
    exact ownsRow_setCell_below hr.own (a := ⟨w.heap.size, 0, none⟩) (Nat.lt_succ_self _) _
  · exact hr.ext.setCell (Nat.le_refl _) _

end Go.Proofs.YtefeglkbikcjeaaGreatDoor

/- The contracts of package freq: Len, Sum, Pick, with sort.Search. -/
namespace Go.Proofs.YtefeglkbikcjeaaGreatDoor
open Go Go.RowKit

end Go.Proofs.YtefeglkbikcjeaaGreatDoor

/- The contracts of package freq: Draw. -/
namespace Go.Proofs.YtefeglkbikcjeaaGreatDoor
open Go Go.RowKit

theorem Tab.mv {W : List Int} {s t : Nat} {p : Option Addr} {cap : Nat} {w w' : World} (h : Tab W s p cap w) (m : Mv t w w') (hne : s ≠ t) (g : Gr w w') : Tab W s p cap w' :=
  ⟨m.at hne h.c, h.bx.gr g, h.up.gr (by decide) g⟩
theorem Cur.mvgr {S S' : ByteArray} {s a a' : Nat} {ov ov' : Bool} {w w' : World} (h : Cur S s a ov w) (m : Mv s w w') (h' : Cur S' s a' ov' w') : Gr w w' := m.gr h.bx h'.bx
theorem Cur.other {S : ByteArray} {s t a : Nat} {ov : Bool} {w w' : World} (h : Cur S s a ov w) (m : Mv t w w') (hne : s ≠ t) (g : Gr w w') : Cur S s a ov w' := ⟨m.at hne h.c0, m.at hne h.c1, m.at hne h.c2, h.bx.gr g⟩
theorem psum_nat {W : List Int} (h : errW W = 0) : ∃ M : Nat, psum W W.length = (M : Int) ∧ 1 ≤ M ∧ M ≤ 67108864 := by
  obtain ⟨k1, k2, k3, k4⟩ := errW_ok h
  have := psum_le k3 W.length
  exact ⟨(psum W W.length).toNat, by omega, by omega, by omega⟩

end Go.Proofs.YtefeglkbikcjeaaGreatDoor

/- The contracts of freq.Share and freq.Cost. -/
namespace Go.Proofs.YtefeglkbikcjeaaGreatDoor
open Go Go.RowKit

/-- a place's share -/
noncomputable def shareQ (W : List Int) (i : Nat) : Rat := Rat.divInt (W.getD i 0) (psum W W.length)
theorem shareQ_len {W : List Int} (h : errW W = 0) (i : Nat) : LenR 1 (shareQ W i) := by
  obtain ⟨M, hM, m1, m2⟩ := psum_nat h
  have h3 := (errW_ok h).2.2.1.get i
  exact lenR_over (n := W.getD i 0) (d := psum W W.length) (by omega) (by omega) (by omega) (by omega) rfl

end Go.Proofs.YtefeglkbikcjeaaGreatDoor

/- Small contracts for the laws of chapter 10: what the walks that a program prints go by. -/
namespace Go.Proofs.YtefeglkbikcjeaaGreatDoor
open Go Go.RowKit

/-- a row of the call's own that stays -/
def OwnZ (t : TypeId) (B : Nat) (w : World) (v : Value) (L : List Int) : Prop := OwnI t B w v L ∧ t ∈ notBox
theorem OwnZ.ext {t : TypeId} {B : Nat} {w w' : World} {v : Value} {L : List Int} (h : OwnZ t B w v L) (k : Ext w w') : OwnZ t B w' v L := ⟨h.1.ext k, h.2⟩
theorem OwnZ.gr {t : TypeId} {B : Nat} {w w' : World} {v : Value} {L : List Int} (h : OwnZ t B w v L) (k : Gr w w') : OwnZ t B w' v L := ⟨h.1.gr h.2 k, h.2⟩
theorem OwnZ.ints {t : TypeId} {B : Nat} {w : World} {v : Value} {L : List Int} (h : OwnZ t B w v L) : Ints w v L := h.1.ints
theorem OwnZ.mono {t : TypeId} {B B' : Nat} {w : World} {v : Value} {L : List Int} (h : OwnZ t B w v L) (k : B' ≤ B) : OwnZ t B' w v L := ⟨h.1.mono k, h.2⟩
theorem litz_n0 {t : TypeId} {B : Nat} {w : World} (L : List Int) (C : Array Value) (hC : C.toList = L.map zv) (n : Nat) (hn : n = L.length) (hl : L.length ≤ 100000) (hB : B ≤ w.heap.size) (ht : t ∈ notBox := by decide) :
    OwnZ t B (w.alloc (.cells C t)) (.slice (some ⟨w.heap.size, 0, none⟩) n n) L := ⟨(own_litI w L C hC n hn hl).mono hB, ht⟩
theorem litz_n1 {t : TypeId} {B : Nat} {w : World} {o1 : Obj} (L : List Int) (C : Array Value) (hC : C.toList = L.map zv) (n : Nat) (hn : n = L.length) (hl : L.length ≤ 100000) (hB : B ≤ w.heap.size) (ht : t ∈ notBox := by decide) :
    OwnZ t B ((w.alloc o1).alloc (.cells C t)) (.slice (some ⟨w.heap.size + 1, 0, none⟩) n n) L := by
  have := litz_n0 (w := w.alloc o1) (B := B) L C hC n hn hl (by simp; omega) ht; simpa using this
theorem litz_n2 {t : TypeId} {B : Nat} {w : World} {o1 o2 : Obj} (L : List Int) (C : Array Value) (hC : C.toList = L.map zv) (n : Nat) (hn : n = L.length) (hl : L.length ≤ 100000) (hB : B ≤ w.heap.size) (ht : t ∈ notBox := by decide) :
    OwnZ t B (((w.alloc o1).alloc o2).alloc (.cells C t)) (.slice (some ⟨w.heap.size + 1 + 1, 0, none⟩) n n) L := by
  have := litz_n1 (w := w.alloc o1) (B := B) (o1 := o2) L C hC n hn hl (by simp; omega) ht; simpa using this

theorem drawIs_hit {l : List UInt8} {m a v a' : Nat} (h : a + wid m ≤ l.length) (hv : bitsAt l a (wid m) = v) (hm : v < m) (ha : a' = a + wid m) : DrawIs l m a v true a' := by
  unfold DrawIs; rw [drawF_hit h hv hm]; exact ⟨rfl, rfl, ha.symm⟩
theorem drawIs_short {l : List UInt8} {m a : Nat} (h : l.length < a + wid m) : DrawIs l m a 0 false a := by
  unfold DrawIs; rw [drawF_short h]; exact ⟨rfl, rfl, rfl⟩
theorem drawIs_miss {l : List UInt8} {m a x a' : Nat} {y : Bool} (h : a + wid m ≤ l.length) (hm : m ≤ bitsAt l a (wid m)) (h0 : 1 ≤ wid m) (k : DrawIs l m (a + wid m) x y a') : DrawIs l m a x y a' := by
  unfold DrawIs; rw [drawF_miss h rfl hm h0]; exact k

end Go.Proofs.YtefeglkbikcjeaaGreatDoor

/- awake of chapter 10 answers true. -/
namespace Go.Proofs.YtefeglkbikcjeaaGreatDoor
open Go Go.RowKit

end Go.Proofs.YtefeglkbikcjeaaGreatDoor
