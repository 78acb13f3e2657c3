/- Facts and contracts, joined: Cur, Cur2, Below, Below2, Ints, FreqPlain, Freq, Freq2, Freq3, Freq4, FreqKit, Awake10. -/
import Derived.Test.YtefeglkbikcjeaaDoorPartF
import Derived.IntWalk
import Derived.Test.YtefeglkbikcjeaaDoorPartC
import Derived.Test.YtefeglkbikcjeaaDoorPartG

/- Strings of bits; what a cursor holds. The contracts of bits.Is and of package cursor. -/
namespace Go.Proofs.YtefeglkbikcjeaaDoor
open Go Go.RowKit

/-- is a byte no bit? -/
def oddL (l : List UInt8) : Bool := l.any fun b => b != 48 && b != 49
/-- a string of bits, not too long -/
def okS (l : List UInt8) : Bool := decide (l.length ≤ 1024) && !oddL l
theorem bn_at {l : List UInt8} {i : Nat} (hi : i < l.length) : bn l i = l[i].toNat := by simp [bn, hi]
theorem odd_byte (b : UInt8) : (b != 48 && b != 49) = true ↔ b.toNat ≠ 48 ∧ b.toNat ≠ 49 := by
  simp only [Bool.and_eq_true, bne_iff_ne, ne_eq, ← UInt8.toNat_inj]; exact Iff.rfl
theorem oddL_get {l : List UInt8} (h : oddL l = false) {i : Nat} (hi : i < l.length) : bn l i = 48 ∨ bn l i = 49 := by
  have h1 := List.any_eq_false.1 h l[i] (List.getElem_mem hi)
  rw [odd_byte] at h1
  rw [bn_at hi]; omega
theorem oddL_at {l : List UInt8} {i : Nat} (hi : i < l.length) (h : ¬ bn l i = 48) (h' : ¬ bn l i = 49) : oddL l = true := by
  refine List.any_eq_true.2 ⟨l[i], List.getElem_mem hi, ?_⟩
  rw [odd_byte]
  rw [bn_at hi] at h h'; exact ⟨h, h'⟩
theorem oddL_none {l : List UInt8} (h : ∀ i, i < l.length → bn l i = 48 ∨ bn l i = 49) : oddL l = false := by
  refine List.any_eq_false.2 fun b hb => ?_
  obtain ⟨i, hi, rfl⟩ := List.getElem_of_mem hb
  rw [odd_byte]
  have := h i hi
  rw [bn_at hi] at this; omega

set_option maxHeartbeats 1000000 in
set_option maxRecDepth 100000 in
theorem odd_calls (s : ByteArray) (w : World) (hs : s.size ≤ maxLen) (b : Bool) (hb : oddL s.data.toList = b) :
    Calls Tryd.prog 86 #[.string s] w fun e w' => e = .returned (.bool b) ∧ w = w' := by
  unfold maxLen at hs
  obtain ⟨l, hl⟩ : ∃ l, l = s.data.toList := ⟨_, rfl⟩
  have hsz : s.size = l.length := by rw [hl]; exact Lib.size_eq s
  have hget : ∀ i (h : i < s.size), ((s[i]'h).toNat : Int) = (bn l i : Int) := fun i h => by rw [hl]; exact bn_get s i h
  rw [← hl] at hb
  have HSZ := Lib.hid hsz
  have HB := Lib.hid hb
  clear hl hsz hb
  go_enter Tryd.func86, Tryd.ntmps86
  go_wp2_with fail
  go_loop [6] (fun v6 => ∃ k : Nat, v6 = .int .i64 (k : Int) ∧ k ≤ s.size ∧ ∀ i, i < k → bn l i = 48 ∨ bn l i = 49) (fun v6 => s.size - (intOf v6).toNat)
  case atStart => exact ⟨0, rfl, Nat.zero_le _, fun i hi => by omega⟩
  case round =>
    obtain ⟨k, rfl, hk, hall⟩ := hrel
    have HA := Lib.hid hall
    clear hall
    by_cases hks : k < s.size
    · by_cases h1 : bn l k = 48
      · have t1 : ((bn l k : Int) != 48) = false := by rw [bne_eq_false_iff_eq]; omega
        go_wp2_with fail
        refine ⟨⟨k + 1, by go_num, by omega, fun i hi => ?_⟩, by simp [intOf]; omega⟩
        by_cases hik : i < k
        · exact HA.out i hik
        · obtain rfl : i = k := by omega
          exact .inl h1
      · by_cases h2 : bn l k = 49
        · have t1 : ((bn l k : Int) != 48) = true := by rw [bne_iff_ne]; omega
          have t2 : ((bn l k : Int) != 49) = false := by rw [bne_eq_false_iff_eq]; omega
          clear h1
          go_wp2_with fail
          refine ⟨⟨k + 1, by go_num, by omega, fun i hi => ?_⟩, by simp [intOf]; omega⟩
          by_cases hik : i < k
          · exact HA.out i hik
          · obtain rfl : i = k := by omega
            exact .inr h2
        · have HE : Hid (b = true) := by show _ = _; rw [← HB.out]; exact oddL_at (by rw [← HSZ.out]; exact hks) h1 h2
          have t1 : ((bn l k : Int) != 48) = true := by rw [bne_iff_ne]; omega
          have t2 : ((bn l k : Int) != 49) = true := by rw [bne_iff_ne]; omega
          clear h1 h2
          go_wp2_with fail
          go_ret
          exact ⟨by rw [HE.out]; rfl, rfl⟩
    · obtain rfl : k = s.size := by omega
      have HE : Hid (b = false) := by show _ = _; rw [← HB.out]; exact oddL_none fun i hi => HA.out i (by rw [HSZ.out]; exact hi)
      go_wp2_with fail
      go_ret
      exact ⟨by rw [HE.out]; rfl, rfl⟩

set_option maxHeartbeats 1000000 in
set_option maxRecDepth 100000 in
theorem bits_is (s : ByteArray) (w : World) (hs : s.size ≤ maxLen) (b : Bool) (hb : okS s.data.toList = b) :
    Calls Tryd.prog 53 #[.string s] w fun e w' => e = .returned (.bool b) ∧ w = w' := by
  have hsz : s.size = s.data.toList.length := Lib.size_eq s
  obtain ⟨o, ho⟩ : ∃ o, oddL s.data.toList = o := ⟨_, rfl⟩
  have hs' := hs
  unfold maxLen at hs'
  have HS := Lib.hid hs
  have HO := Lib.hid ho
  by_cases h : s.size ≤ 1024
  · have HB : Hid (b = !o) := by show _ = _; rw [← hb]; unfold okS; rw [ho, ← hsz]; simp [h]
    clear hb ho hsz hs
    have h1 : (s.size : Int) ≤ 1024 := by omega
    go_enter Tryd.func53, Tryd.ntmps53
    go_wp2_with (go_at_call 86; refine (odd_calls s _ HS.out o HO.out).mono ?_; rintro e w' ⟨rfl, rfl⟩)
    go_ret
    exact ⟨by rw [HB.out]; rfl, rfl⟩
  · have HB : Hid (b = false) := by show _ = _; rw [← hb]; unfold okS; rw [← hsz]; simp [h]
    clear hb ho hsz hs
    have h1 : (1025 : Int) ≤ s.size := by omega
    have h2 : decide ((s.size : Int) ≤ 1024) = false := by simp; omega
    go_enter Tryd.func53, Tryd.ntmps53
    go_wp2_with fail
    go_ret
    exact ⟨by rw [HB.out]; rfl, rfl⟩

/-- all but block s is as it was; more may have come -/
structure Mv (s : Nat) (w w' : World) : Prop where
  blw : Below s w w'
  oth : ∀ b, b < w.heap.size → b ≠ s → w'.heap[b]? = w.heap[b]?
theorem Mv.refl (s : Nat) (w : World) : Mv s w w := ⟨Below.refl _ _, fun _ _ _ => rfl⟩
theorem Mv.size {s : Nat} {w w' : World} (h : Mv s w w') : w.heap.size ≤ w'.heap.size := h.blw.size
theorem Mv.trans {s : Nat} {a b c : World} (h : Mv s a b) (k : Mv s b c) : Mv s a c :=
  ⟨h.blw.trans k.blw, fun x hx hn => (k.oth x (Nat.lt_of_lt_of_le hx h.size) hn).trans (h.oth x hx hn)⟩
theorem Ext.mv {s : Nat} {w w' : World} (h : Ext w w') (hs : s ≤ w.heap.size) : Mv s w w' := ⟨h.mono hs, fun b hb _ => h.block b hb⟩
theorem Mv.ext {s : Nat} {a w w' : World} (h : Ext a w) (k : Mv s w w') (hs : a.heap.size ≤ s) : Ext a w' := Ext.below h (k.blw.mono hs)
theorem Mv.at {s : Nat} {w w' : World} (h : Mv s w w') {t o : Nat} {u : Value} (hne : t ≠ s) (k : At t o u w) : At t o u w' :=
  ⟨by rw [← k.1]; exact World.cell?_of_block (w := w) (h.oth t k.2 hne), Nat.lt_of_lt_of_le k.2 h.size⟩
theorem Mv.gr {s n : Nat} {w w' : World} (h : Mv s w w') (k : Bx n s w) (k' : Bx n s w') : Gr w w' :=
  ⟨h.size, fun b hb => by
    by_cases e : b = s
    · subst e; exact .inr ⟨n, k, k'⟩
    · exact .inl (h.oth b hb e)⟩
theorem Mv.set (s o : Nat) (v : Value) (w : World) : Mv s w (w.setCell ⟨s, o, none⟩ v) :=
  ⟨(Below.refl s w).setCell (p := ⟨s, o, none⟩) (Nat.le_refl _) v, fun _b _ hb => Below.heap_setCell _ _ _ _ hb⟩

/-- the cursor in block s: its string, how many bits were read, whether it is over -/
structure Cur (S : ByteArray) (s at_ : Nat) (ov : Bool) (w : World) : Prop where
  c0 : At s 0 (.string S) w
  c1 : At s 1 (.int .i64 (at_ : Int)) w
  c2 : At s 2 (.bool ov) w
  bx : Bx 3 s w
theorem Cur.ext {S : ByteArray} {s at_ : Nat} {ov : Bool} {w w' : World} (h : Cur S s at_ ov w) (x : Ext w w') : Cur S s at_ ov w' := ⟨h.c0.ext x, h.c1.ext x, h.c2.ext x, h.bx.gr x.gr⟩
theorem Cur.set {S : ByteArray} {s at_ : Nat} {ov : Bool} {w : World} (h : Cur S s at_ ov w) (n : Nat) : Cur S s n ov (w.setCell ⟨s, 1, none⟩ (.int .i64 (n : Int))) := by
  have hb := setRow_bx' (o := 1) (cs := [.int .i64 (n : Int)]) h.bx (by simp) (by intro u hu; simp at hu; subst hu; trivial)
  exact ⟨hb.2.2 0 _ (by simp) h.c0, hb.2.1 0 _ rfl, hb.2.2 2 _ (by simp) h.c2, hb.1⟩
theorem Cur.stop {S : ByteArray} {s at_ : Nat} {ov : Bool} {w : World} (h : Cur S s at_ ov w) : Cur S s at_ true (w.setCell ⟨s, 2, none⟩ (.bool true)) := by
  have hb := setRow_bx' (o := 2) (cs := [.bool true]) h.bx (by simp) (by intro u hu; simp at hu; subst hu; trivial)
  exact ⟨hb.2.2 0 _ (by simp) h.c0, hb.2.2 1 _ (by simp) h.c1, hb.2.1 0 _ rfl, hb.1⟩
theorem Cur.lt {S : ByteArray} {s at_ : Nat} {ov : Bool} {w : World} (h : Cur S s at_ ov w) : s < w.heap.size := h.c0.2

/-- New hands a cursor out -/
def RetCur (S : ByteArray) (w : World) (e : Ending) (w' : World) : Prop := ∃ s, e = .returned (.tuple #[.pointer (some ⟨s, 0, none⟩), .int .i64 0]) ∧ w.heap.size ≤ s ∧ Cur S s 0 false w' ∧ Ext w w'

set_option maxHeartbeats 1000000 in
set_option maxRecDepth 100000 in
theorem cnew_ok (s : ByteArray) (w : World) (hs : s.size ≤ maxLen) (hb : okS s.data.toList = true) :
    Calls Tryd.prog 30 #[.string s] w (RetCur s w) := by
  have HS := Lib.hid hs
  have HB := Lib.hid hb
  clear hs hb
  go_enter Tryd.func30, Tryd.ntmps30
  go_wp2_with (go_at_call 53; refine (bits_is s _ HS.out true HB.out).mono ?_; rintro e w' ⟨rfl, rfl⟩)
  go_ret2
  exact ⟨_, rfl, Nat.le_refl _, ⟨At.n0 (by rfl), At.n0 (by rfl), At.n0 (by rfl), Bx.n0 3 ⟨rfl, by decide⟩ (by decide) (by simp [NoI])⟩, (Ext.refl _).alloc _⟩

set_option maxHeartbeats 1000000 in
set_option maxRecDepth 100000 in
theorem cnew_bad (s : ByteArray) (w : World) (hs : s.size ≤ maxLen) (hb : okS s.data.toList = false) :
    Calls Tryd.prog 30 #[.string s] w fun e w' => e = .returned (.tuple #[.pointer none, .int .i64 3]) ∧ Ext w w' := by
  have HS := Lib.hid hs
  have HB := Lib.hid hb
  clear hs hb
  go_enter Tryd.func30, Tryd.ntmps30
  go_wp2_with (go_at_call 53; refine (bits_is s _ HS.out false HB.out).mono ?_; rintro e w' ⟨rfl, rfl⟩)
  go_ret2
  exact ⟨rfl, Ext.refl _⟩

set_option maxHeartbeats 1000000 in
set_option maxRecDepth 100000 in
theorem cat_calls {S : ByteArray} {s at_ : Nat} {ov : Bool} {w : World} (h : Cur S s at_ ov w) :
    Calls Tryd.prog 32 #[.pointer (some ⟨s, 0, none⟩)] w fun e w' => e = .returned (.int .i64 (at_ : Int)) ∧ Ext w w' := by
  have c1 := h.c1.1
  go_enter Tryd.func32, Tryd.ntmps32
  go_wp2_with fail
  go_ret
  exact ⟨rfl, Ext.refl _⟩

set_option maxHeartbeats 1000000 in
set_option maxRecDepth 100000 in
theorem cover_calls {S : ByteArray} {s at_ : Nat} {ov : Bool} {w : World} (h : Cur S s at_ ov w) :
    Calls Tryd.prog 33 #[.pointer (some ⟨s, 0, none⟩)] w fun e w' => e = .returned (.bool ov) ∧ Ext w w' := by
  have c2 := h.c2.1
  go_enter Tryd.func33, Tryd.ntmps33
  go_wp2_with fail
  go_ret
  exact ⟨rfl, Ext.refl _⟩

set_option maxHeartbeats 1000000 in
set_option maxRecDepth 100000 in
theorem rest_calls {S : ByteArray} {s at_ : Nat} {ov : Bool} {w : World} (h : Cur S s at_ ov w) (ha : at_ ≤ S.size) :
    Calls Tryd.prog 110 #[.pointer (some ⟨s, 0, none⟩)] w fun e w' => e = .returned (.string (S.extract at_ S.size)) ∧ Ext w w' := by
  have c0 := h.c0.1
  have c1 := h.c1.1
  go_enter Tryd.func110, Tryd.ntmps110
  go_wp2_with fail
  go_quiet (fail)
  go_wp2_with fail
  go_ret
  exact ⟨rfl, (Ext.refl _).drewN _⟩

set_option maxHeartbeats 1000000 in
set_option maxRecDepth 100000 in
theorem left_calls {S : ByteArray} {s at_ : Nat} {ov : Bool} {w : World} (h : Cur S s at_ ov w) (ha : at_ ≤ S.size) (n : Nat) (hn : n = S.size - at_) :
    Calls Tryd.prog 103 #[.pointer (some ⟨s, 0, none⟩)] w fun e w' => e = .returned (.int .i64 (n : Int)) ∧ Ext w w' := by
  have HA := Lib.hid ha
  have HN : Hid ((S.extract at_ S.size).size = n) := by show _ = _; rw [hn, ByteArray.size_extract]; omega
  clear ha hn
  go_enter Tryd.func103, Tryd.ntmps103
  go_wp2_with fail
  refine (rest_calls h HA.out).mono ?_
  rintro e w1 ⟨rfl, x1⟩
  obtain ⟨T, hT⟩ : ∃ T, S.extract at_ S.size = T := ⟨_, rfl⟩
  rw [hT]
  have HN2 : Hid (T.size = n) := by show _ = _; rw [← hT]; exact HN.out
  clear hT HN
  go_wp2_with fail
  go_ret
  exact ⟨by rw [HN2.out]; rfl, x1⟩
end Go.Proofs.YtefeglkbikcjeaaDoor

/- The contract of Cursor.Take; numbers that bits are. -/
namespace Go.Proofs.YtefeglkbikcjeaaDoor
open Go Go.RowKit

/-- the number that bits are -/
def bitv (l : List UInt8) : Nat := l.foldl (fun x b => 2 * x + (b.toNat - 48)) 0
theorem bitv_snoc (l : List UInt8) (b : UInt8) : bitv (l ++ [b]) = 2 * bitv l + (b.toNat - 48) := by simp [bitv]
/-- k bits from a place on -/
def bitsAt (l : List UInt8) (a k : Nat) : Nat := bitv ((l.drop a).take k)
theorem bitsAt_zero (l : List UInt8) (a : Nat) : bitsAt l a 0 = 0 := by simp [bitsAt, bitv]
theorem bitsAt_succ {l : List UInt8} {a k : Nat} (h : a + k < l.length) : bitsAt l a (k + 1) = 2 * bitsAt l a k + (bn l (a + k) - 48) := by
  unfold bitsAt
  rw [List.take_succ_eq_append_getElem (by simp; omega), bitv_snoc, bn_at h]
  simp
theorem bitsAt_lt {l : List UInt8} (ho : oddL l = false) {a : Nat} : ∀ {k : Nat}, a + k ≤ l.length → bitsAt l a k < 2 ^ k
  | 0, _ => by rw [bitsAt_zero]; decide
  | k + 1, h => by
    have h1 := bitsAt_lt ho (a := a) (k := k) (by omega)
    have h2 := oddL_get ho (i := a + k) (by omega)
    rw [bitsAt_succ (by omega), Nat.pow_succ]; omega
theorem bitsAt_64 {l : List UInt8} (ho : oddL l = false) {a k : Nat} (h : a + k ≤ l.length) (hk : k ≤ 63) : (bitsAt l a k : Int) ≤ 9223372036854775807 := by
  have h1 := bitsAt_lt ho h
  have h2 : (2 : Nat) ^ k ≤ 2 ^ 63 := Nat.pow_le_pow_right (by decide) hk
  have h3 : (2 : Nat) ^ 63 = 9223372036854775808 := by decide
  omega
theorem bitsAt_Bs {l : List UInt8} (ho : oddL l = false) {a k : Nat} (h : a + k ≤ l.length) (hk : k ≤ 64) : bitsAt l a k < Bs := by
  have h1 := bitsAt_lt ho h
  have h2 : (2 : Nat) ^ k ≤ 2 ^ 64 := Nat.pow_le_pow_right (by decide) hk
  rw [Bs_def]; exact Nat.lt_of_lt_of_le h1 h2
theorem or_bit {x b : Nat} (hx : x < 2 ^ 63) (hb : b = 48 ∨ b = 49) : bits .or .u64 (IntKind.u64.wrap ((x : Int) * 2)) ((b : Int) - 48) = ((2 * x + (b - 48) : Nat) : Int) := by
  have h3 : (2 : Nat) ^ 63 = 9223372036854775808 := by decide
  rw [wraps_u64 _ (by omega) (by omega), bits_join .u64 64 (by decide) wraps_u64 1 ((x : Int) * 2) ((b : Int) - 48) (by omega) (by omega) (by omega) (by omega) (by omega) (by omega)]
  omega
theorem okS_len {s : ByteArray} (h : okS s.data.toList = true) : s.size ≤ 1024 ∧ oddL s.data.toList = false := by
  unfold okS at h
  rw [Bool.and_eq_true, decide_eq_true_eq, ← Lib.size_eq s] at h
  exact ⟨h.1, by simpa using h.2⟩

set_option maxHeartbeats 1000000 in
set_option maxRecDepth 100000 in
theorem take_over {S : ByteArray} {s at_ : Nat} {w : World} (h : Cur S s at_ true w) (n : Int) (hn : 0 ≤ n ∧ n ≤ 64) :
    Calls Tryd.prog 87 #[.pointer (some ⟨s, 0, none⟩), .int .i64 n] w fun e w' => e = .returned (.tuple #[.int .u64 0, .bool false]) ∧ Ext w w' := by
  have c2 := h.c2.1
  obtain ⟨h1, h2⟩ := hn
  go_enter Tryd.func87, Tryd.ntmps87
  go_wp2_with fail
  go_ret2
  exact ⟨rfl, Ext.refl _⟩

set_option maxHeartbeats 1000000 in
set_option maxRecDepth 100000 in
theorem take_nil (w : World) (n : Int) :
    Calls Tryd.prog 87 #[.pointer none, .int .i64 n] w fun e w' => e = .returned (.tuple #[.int .u64 0, .bool false]) ∧ Ext w w' := by
  go_enter Tryd.func87, Tryd.ntmps87
  go_wp2_with fail
  go_ret2
  exact ⟨rfl, Ext.refl _⟩

set_option maxHeartbeats 1000000 in
set_option maxRecDepth 100000 in
theorem take_short {S : ByteArray} {s at_ : Nat} {w : World} (h : Cur S s at_ false w) (ha : at_ ≤ S.size) (_hS : S.size ≤ 1024) (n : Nat) (hn : n ≤ 64) (hl : S.size < at_ + n) :
    Calls Tryd.prog 87 #[.pointer (some ⟨s, 0, none⟩), .int .i64 (n : Int)] w fun e w' => e = .returned (.tuple #[.int .u64 0, .bool false]) ∧ Mv s w w' ∧ Cur S s at_ true w' := by
  have c2 := h.c2.1
  obtain ⟨k, hk⟩ : ∃ k, k = S.size - at_ := ⟨_, rfl⟩
  have h1 : (n : Int) ≤ 64 := by omega
  have h2 : (k : Int) + 1 ≤ n := by omega
  have HA := Lib.hid ha
  have HK := Lib.hid hk
  have hf := h.bx.free 2
  have HC := Lib.hid h
  clear hk hl ha hn _hS h
  go_enter Tryd.func87, Tryd.ntmps87
  go_wp2_with fail
  refine (left_calls HC.out HA.out k HK.out).mono ?_
  rintro e w1 ⟨rfl, x1⟩
  have HC1 := Lib.hid (HC.out.ext x1)
  have d2 := HC1.out.c2.1
  have hf1 := HC1.out.bx.free 2
  have X := Lib.hid x1
  clear x1 c2 hf
  go_wp2_with fail
  go_ret2
  exact ⟨rfl, (X.out.mv (Nat.le_of_lt HC.out.lt)).trans (Mv.set s 2 _ _), HC1.out.stop⟩

set_option maxHeartbeats 2000000 in
set_option maxRecDepth 100000 in
theorem take_ok {S : ByteArray} {s at_ : Nat} {w : World} (h : Cur S s at_ false w) (ho : okS S.data.toList = true) (n : Nat) (hn : n ≤ 64) (hl : at_ + n ≤ S.size) (v : Nat) (hv : bitsAt S.data.toList at_ n = v) :
    Calls Tryd.prog 87 #[.pointer (some ⟨s, 0, none⟩), .int .i64 (n : Int)] w fun e w' => e = .returned (.tuple #[.int .u64 (v : Int), .bool true]) ∧ Mv s w w' ∧ Cur S s (at_ + n) false w' := by
  obtain ⟨hS, hodd⟩ := okS_len ho
  have c2 := h.c2.1
  obtain ⟨l, hl2⟩ : ∃ l, l = S.data.toList := ⟨_, rfl⟩
  have hsz : S.size = l.length := by rw [hl2]; exact Lib.size_eq S
  have hget : ∀ i (h : i < S.size), ((S[i]'h).toNat : Int) = (bn l i : Int) := fun i h => by rw [hl2]; exact bn_get S i h
  rw [← hl2] at hv hodd
  obtain ⟨k, hk⟩ : ∃ k, k = S.size - at_ := ⟨_, rfl⟩
  have h1 : (n : Int) ≤ 64 := by omega
  have h2 : (n : Int) ≤ k := by omega
  have h3 : (at_ : Int) + n ≤ 1024 := by omega
  have HA : Hid (at_ ≤ S.size) := by show _ ≤ _; omega
  have HK := Lib.hid hk
  have HC := Lib.hid h
  have HSZ := Lib.hid hsz
  have HODD := Lib.hid hodd
  have HL : Hid (at_ + n ≤ S.size) := hl
  have HV := Lib.hid hv
  clear hk hl hn hS h hl2 ho hsz hodd hv
  go_enter Tryd.func87, Tryd.ntmps87
  go_wp2_with fail
  refine (left_calls HC.out HA.out k HK.out).mono ?_
  rintro e w1 ⟨rfl, x1⟩
  have HC1 := Lib.hid (HC.out.ext x1)
  have X := Lib.hid x1
  clear x1 c2
  go_wp2_with fail
  go_loopw [4, 27] (fun v4 v27 wr => ∃ i : Nat, v27 = .int .i64 (i : Int) ∧ i ≤ n ∧ v4 = .int .u64 (bitsAt l at_ i : Nat) ∧ Ext w1 wr) (fun _ v27 _ => n - (intOf v27).toNat)
  case atStart => exact ⟨0, rfl, Nat.zero_le _, by rw [bitsAt_zero]; rfl, Ext.refl _⟩
  case round =>
    obtain ⟨i, rfl, hi, rfl, hx⟩ := hrel
    have HC2 := Lib.hid (HC1.out.ext hx)
    have HX := Lib.hid hx
    clear hx
    by_cases hin : i < n
    · have e0 := HC2.out.c0.1
      have e1 := HC2.out.c1.1
      obtain ⟨j, hj⟩ : ∃ j, j = at_ + i := ⟨_, rfl⟩
      have hlt : j < S.size := by have := HL.out; omega
      have HB : Hid (bitsAt l at_ (i + 1) = 2 * bitsAt l at_ i + (bn l j - 48)) := by rw [hj]; exact bitsAt_succ (by rw [← HSZ.out, ← hj]; exact hlt)
      have hb := oddL_get HODD.out (i := j) (by rw [← HSZ.out]; exact hlt)
      have HW : Hid (bitsAt l at_ i < 2 ^ 63) := by
        have := bitsAt_64 HODD.out (a := at_) (k := i) (by rw [← HSZ.out]; omega) (by omega)
        show _ < _
        omega
      have hw1 : IntKind.i64.wrap ((at_ : Int) + i) = (j : Int) := by rw [IntWalk.i64_in _ (by omega)]; omega
      clear hj
      go_wp2_with fail
      go_quiet (fail)
      clear hw1
      go_wp2_with fail
      refine ⟨⟨i + 1, by go_num, by omega, ?_, HX.out.drewN _⟩, by simp [intOf]; omega⟩
      exact int_eq (by rw [or_bit HW.out hb, HB.out])
    · obtain rfl : i = n := by omega
      have e1 := HC2.out.c1.1
      have hf := HC2.out.bx.free 1
      have hw1 : IntKind.i64.wrap ((at_ : Int) + i) = ((at_ + i : Nat) : Int) := by rw [IntWalk.i64_in _ (by omega)]; omega
      go_wp2_with fail
      go_ret2
      refine ⟨?_, ((X.out.trans HX.out).mv (Nat.le_of_lt HC.out.lt)).trans (Mv.set s 1 _ _), ?_⟩
      · rw [HV.out]; rfl
      · have := HC2.out.set (at_ + i)
        rw [Int.natCast_add] at this
        exact this
end Go.Proofs.YtefeglkbikcjeaaDoor

/- Numbers drawn below others: what is drawn, as a function; the contracts of package below (all but Cost). -/
namespace Go.Proofs.YtefeglkbikcjeaaDoor
open Go Go.RowKit

/-- how many bits a number below m has -/
def wid (m : Nat) : Nat := if m = 0 then 0 else bl (m - 1)
theorem wid_le {m : Nat} (h : m < Bs) : wid m ≤ 64 := by
  unfold wid; split
  · omega
  · exact (bl_le_iff _ _).2 (by rw [Bs_def] at h; omega)
theorem wid_pos {m : Nat} (h : 2 ≤ m) : 1 ≤ wid m := by
  unfold wid
  rw [if_neg (by omega)]
  rcases Nat.eq_zero_or_pos (bl (m - 1)) with h0 | h0
  · have := (bl_le_iff (m - 1) 0).1 (by omega)
    omega
  · exact h0
theorem wid_one : wid 1 = 0 := by simp [wid, bl]

/-- a number below m, drawn of the bits from a place on; where it ends -/
def drawF (l : List UInt8) (m a : Nat) : Option Nat × Nat :=
  if l.length < a + wid m then (none, a)
  else if bitsAt l a (wid m) < m then (some (bitsAt l a (wid m)), a + wid m)
  else if wid m = 0 then (none, a)
  else drawF l m (a + wid m)
termination_by l.length - a
decreasing_by omega

theorem drawF_short {l : List UInt8} {m a : Nat} (h : l.length < a + wid m) : drawF l m a = (none, a) := by rw [drawF, if_pos h]
theorem drawF_hit {l : List UInt8} {m a v : Nat} (h : a + wid m ≤ l.length) (hv : bitsAt l a (wid m) = v) (hm : v < m) : drawF l m a = (some v, a + wid m) := by
  rw [drawF, if_neg (by omega), if_pos (by omega), hv]
theorem drawF_miss {l : List UInt8} {m a v : Nat} (h : a + wid m ≤ l.length) (hv : bitsAt l a (wid m) = v) (hm : m ≤ v) (h0 : 1 ≤ wid m) : drawF l m a = drawF l m (a + wid m) := by
  rw [drawF, if_neg (by omega), if_neg (by omega), if_neg (by omega)]
theorem drawF_le {l : List UInt8} {m : Nat} (a : Nat) (ha : a ≤ l.length) : a ≤ (drawF l m a).2 ∧ (drawF l m a).2 ≤ l.length := by
  induction a using drawF.induct (l := l) (m := m) with
  | case1 a h => rw [drawF_short h]; exact ⟨Nat.le_refl _, ha⟩
  | case2 a h1 h2 => rw [drawF_hit (by omega) rfl h2]; exact ⟨Nat.le_add_right _ _, by omega⟩
  | case3 a h1 h2 h3 => rw [drawF, if_neg h1, if_neg h2, if_pos h3]; exact ⟨Nat.le_refl _, ha⟩
  | case4 a h1 h2 h3 ih =>
    rw [drawF_miss (by omega) rfl (by omega) (by omega)]
    have := ih (by omega)
    omega
theorem drawF_lt {l : List UInt8} {m v : Nat} (a : Nat) (h : (drawF l m a).1 = some v) : v < m := by
  induction a using drawF.induct (l := l) (m := m) with
  | case1 a h1 => rw [drawF_short h1] at h; cases h
  | case2 a h1 h2 => rw [drawF_hit (by omega) rfl h2] at h; injection h with h; rw [← h]; exact h2
  | case3 a h1 h2 h3 => rw [drawF, if_neg h1, if_neg h2, if_pos h3] at h; cases h
  | case4 a h1 h2 h3 ih => rw [drawF_miss (by omega) rfl (by omega) (by omega)] at h; exact ih h

/-- what a draw tells -/
def valD : Option Nat → Nat
  | some v => v
  | none => 0

set_option maxHeartbeats 1000000 in
set_option maxRecDepth 100000 in
theorem width_calls (w : World) (m : Nat) (hm : m < Bs) :
    Calls Tryd.prog 89 #[.int .u64 (m : Int)] w fun e w' => e = .returned (.int .i64 (wid m : Nat)) ∧ w = w' := by
  by_cases h0 : m = 0
  · subst h0
    go_enter Tryd.func89, Tryd.ntmps89
    go_wp2_with fail
    go_ret
    exact ⟨rfl, rfl⟩
  · obtain ⟨k, hk⟩ : ∃ k, m = k + 1 := ⟨m - 1, by omega⟩
    have HW : Hid (wid m = bl k) := by show _ = _; rw [hk]; simp [wid]
    have HK : Hid (k < Bs) := by show _ < _; omega
    have h1 : ((m : Int) == 0) = false := by rw [beq_eq_false_iff_ne]; omega
    have h2 : IntKind.u64.wrap ((m : Int) - 1) = (k : Int) := by rw [wraps_u64 _ (by omega) (by rw [Bs_def] at hm; omega)]; omega
    clear h0 hm hk
    go_enter Tryd.func89, Tryd.ntmps89
    go_wp2_with fail
    refine (len_calls _ k HK.out).mono ?_
    rintro e w1 ⟨rfl, rfl⟩
    clear h2
    go_wp2_with fail
    go_ret
    exact ⟨ret_eq (int_eq (by rw [HW.out])), rfl⟩

/-- what a draw leaves: the number, the cursor -/
def RetDraw (S : ByteArray) (s m a : Nat) (w : World) (e : Ending) (w' : World) : Prop :=
  e = .returned (.tuple #[.int .u64 (valD (drawF S.data.toList m a).1 : Nat), .bool (drawF S.data.toList m a).1.isSome]) ∧ Mv s w w' ∧ Cur S s (drawF S.data.toList m a).2 (!(drawF S.data.toList m a).1.isSome) w'

set_option maxHeartbeats 2000000 in
set_option maxRecDepth 100000 in
theorem first_calls {S : ByteArray} {s a : Nat} {w : World} (h : Cur S s a false w) (ho : okS S.data.toList = true) (ha : a ≤ S.size) (m : Nat) (hm : m < Bs) (h1 : 1 ≤ m) :
    Calls Tryd.prog 88 #[.func (.func 87) #[.pointer (some ⟨s, 0, none⟩)] #[], .int .u64 (m : Int)] w (RetDraw S s m a w) := by
  obtain ⟨hS, hodd⟩ := okS_len ho
  have hsz : S.size = S.data.toList.length := Lib.size_eq S
  have hw := wid_le hm
  obtain ⟨q, hq⟩ : ∃ q, wid m = q := ⟨_, rfl⟩
  have HQ := Lib.hid hq
  have HM := Lib.hid hm
  have H1 := Lib.hid h1
  have HO := Lib.hid ho
  have HS := Lib.hid hS
  have HD := Lib.hid hodd
  have HZ := Lib.hid hsz
  have HC := Lib.hid h
  have HA := Lib.hid ha
  have hq64 : (q : Int) ≤ 64 := by omega
  clear hq hm ho hS hodd hsz h hw ha h1
  go_enter Tryd.func88, Tryd.ntmps88
  go_wp2_with fail
  refine (width_calls _ m HM.out).mono ?_
  rintro e w1 ⟨rfl, rfl⟩
  rw [HQ.out]
  go_wp2_with fail
  go_loopg [7] (S.size - a) (fun g _ wr => ∃ b : Nat, g = S.size - b ∧ b ≤ S.size ∧ Hid (drawF S.data.toList m b = drawF S.data.toList m a) ∧ Mv s w wr ∧ Cur S s b false wr)
  case atStart => exact ⟨a, rfl, HA.out, rfl, Mv.refl _ _, HC.out⟩
  case round =>
    obtain ⟨b, hg, hb, hd, hmv, hc⟩ := hrel
    have HG := Lib.hid hg
    have HB := Lib.hid hb
    have MV := Lib.hid hmv
    have CU := Lib.hid hc
    clear hg hb hmv hc
    by_cases hl : S.size < b + q
    · have HF : Hid (drawF S.data.toList m a = (none, b)) := by
        show _ = _
        rw [← hd.out]; exact drawF_short (by rw [HQ.out, ← HZ.out]; exact hl)
      have HL := Lib.hid hl
      clear hl
      go_wp2_with fail
      refine (take_short CU.out HB.out HS.out q (by omega) HL.out).mono ?_
      rintro e w2 ⟨rfl, m2, c2⟩
      have M2 := Lib.hid m2
      have C2 := Lib.hid c2
      clear m2 c2
      go_wp2_with fail
      go_ret2
      exact ⟨by rw [HF.out]; rfl, MV.out.trans M2.out, by rw [HF.out]; exact C2.out⟩
    · obtain ⟨v, hv⟩ : ∃ v, bitsAt S.data.toList b q = v := ⟨_, rfl⟩
      have HL : Hid (b + q ≤ S.size) := Nat.not_lt.1 hl
      have HV := Lib.hid hv
      clear hl hv
      by_cases hvm : v < m
      · have HF : Hid (drawF S.data.toList m a = (some v, b + q)) := by
          show _ = _
          rw [← hd.out, drawF_hit (v := v) (by rw [HQ.out, ← HZ.out]; exact HL.out) (by rw [HQ.out]; exact HV.out) hvm, HQ.out]
        go_wp2_with fail
        refine (take_ok CU.out HO.out q (by omega) HL.out v HV.out).mono ?_
        rintro e w2 ⟨rfl, m2, c2⟩
        have M2 := Lib.hid m2
        have C2 := Lib.hid c2
        clear m2 c2
        go_wp2_with fail
        go_ret2
        exact ⟨by rw [HF.out]; rfl, MV.out.trans M2.out, by rw [HF.out]; exact C2.out⟩
      · have HQ1 : Hid (1 ≤ q) := by
          show 1 ≤ q
          rcases Nat.eq_zero_or_pos q with h0 | h0
          · have h2 := HV.out
            rw [h0, bitsAt_zero] at h2
            have := H1.out
            omega
          · exact h0
        have HF : Hid (drawF S.data.toList m (b + q) = drawF S.data.toList m a) := by
          show _ = _
          rw [← hd.out, drawF_miss (a := b) (v := v) (by rw [HQ.out, ← HZ.out]; exact HL.out) (by rw [HQ.out]; exact HV.out) (by omega) (by rw [HQ.out]; exact HQ1.out), HQ.out]
        go_wp2_with fail
        refine (take_ok CU.out HO.out q (by omega) HL.out v HV.out).mono ?_
        rintro e w2 ⟨rfl, m2, c2⟩
        have M2 := Lib.hid m2
        have C2 := Lib.hid c2
        clear m2 c2
        go_wp2_with fail
        go_roundg (S.size - (b + q))
        case rel => exact ⟨b + q, rfl, HL.out, HF, MV.out.trans M2.out, C2.out⟩
        case measure => have h1 := HQ1.out; have h2 := HL.out; have h3 := HG.out; omega
end Go.Proofs.YtefeglkbikcjeaaDoor

/- The contracts of below.Draw and below.Cost. -/
namespace Go.Proofs.YtefeglkbikcjeaaDoor
open Go Go.RowKit

theorem width_q (w : World) (m : Nat) (hm : m < Bs) (q : Nat) (hq : wid m = q) :
    Calls Tryd.prog 89 #[.int .u64 (m : Int)] w fun e w' => e = .returned (.int .i64 (q : Int)) ∧ Ext w w' :=
  (width_calls w m hm).mono fun _ _ ⟨h1, h2⟩ => ⟨by rw [h1, hq], by subst h2; exact Ext.refl _⟩
theorem nof_n (w : World) (n : Nat) (hn : n < Bs) : Calls Tryd.prog 38 #[.int .u64 (n : Int)] w (RetN w n) := of_calls hn

/-- what is drawn, by names -/
def DrawIs (l : List UInt8) (m a x : Nat) (y : Bool) (a' : Nat) : Prop := valD (drawF l m a).1 = x ∧ (drawF l m a).1.isSome = y ∧ (drawF l m a).2 = a'
theorem DrawIs.le {l : List UInt8} {m a x a' : Nat} {y : Bool} (h : DrawIs l m a x y a') (ha : a ≤ l.length) : a ≤ a' ∧ a' ≤ l.length := by
  rw [← h.2.2]; exact drawF_le a ha
theorem DrawIs.lt {l : List UInt8} {m a x a' : Nat} {y : Bool} (h : DrawIs l m a x y a') (hm : 1 ≤ m) : x < m := by
  obtain ⟨h1, -, -⟩ := h
  cases h2 : (drawF l m a).1 with
  | none => rw [h2] at h1; rw [← h1]; exact hm
  | some v => rw [h2] at h1; rw [← h1]; exact drawF_lt a h2
theorem drawIs (l : List UInt8) (m a : Nat) : ∃ x y a', DrawIs l m a x y a' := ⟨_, _, _, rfl, rfl, rfl⟩
theorem DrawIs.zero {l : List UInt8} {m a x a' : Nat} (h : DrawIs l m a x false a') : x = 0 := by
  obtain ⟨h1, h2, -⟩ := h
  cases h3 : (drawF l m a).1 with
  | none => rw [h3] at h1; exact h1.symm
  | some v => rw [h3] at h2; cases h2
/-- what a draw leaves: the number, the cursor -/
def RetD (S : ByteArray) (s x : Nat) (y : Bool) (a : Nat) (w : World) (e : Ending) (w' : World) : Prop :=
  e = .returned (.tuple #[.int .u64 (x : Int), .bool y]) ∧ Mv s w w' ∧ Cur S s a (!y) w'
theorem RetDraw.d {S : ByteArray} {s m a x a' : Nat} {y : Bool} {w w' : World} {e : Ending} (h : RetDraw S s m a w e w') (hd : DrawIs S.data.toList m a x y a') : RetD S s x y a' w e w' := by
  obtain ⟨h1, h2, h3⟩ := h
  obtain ⟨d1, d2, d3⟩ := hd
  subst d1 d2 d3
  exact ⟨h1, h2, h3⟩

set_option maxHeartbeats 1000000 in
set_option maxRecDepth 100000 in
theorem bdraw_ok {S : ByteArray} {s a x a' : Nat} {y : Bool} {w : World} (h : Cur S s a false w) (ho : okS S.data.toList = true) (ha : a ≤ S.size) (m : Nat) (hm : m < Bs) (h1 : 1 ≤ m) (hd : DrawIs S.data.toList m a x y a') :
    Calls Tryd.prog 54 #[.pointer (some ⟨s, 0, none⟩), .int .u64 (m : Int)] w (RetD S s x y a' w) := by
  have t1 : ((m : Int) == 0) = false := by rw [beq_eq_false_iff_ne]; omega
  have HM := Lib.hid hm
  have H1 := Lib.hid h1
  have HO := Lib.hid ho
  have HC := Lib.hid h
  have HA := Lib.hid ha
  have HD := Lib.hid hd
  clear hm h1 ho h ha hd
  go_enter Tryd.func54, Tryd.ntmps54
  go_wp2_with fail
  refine (first_calls HC.out HO.out HA.out m HM.out H1.out).mono ?_
  intro e w1 hr
  obtain ⟨rfl, m1, c1⟩ := hr.d HD.out
  have M1 := Lib.hid m1
  have C1 := Lib.hid c1
  clear m1 c1 hr
  go_wp2_with fail
  go_ret2
  exact ⟨rfl, M1.out, C1.out⟩

set_option maxHeartbeats 1000000 in
set_option maxRecDepth 100000 in
theorem bdraw_over {S : ByteArray} {s a : Nat} {w : World} (h : Cur S s a true w) (m : Nat) (hm : m < Bs) :
    Calls Tryd.prog 54 #[.pointer (some ⟨s, 0, none⟩), .int .u64 (m : Int)] w fun e w' => e = .returned (.tuple #[.int .u64 0, .bool false]) ∧ Ext w w' := by
  have HC := Lib.hid h
  have HW := Lib.hid (wid_le hm)
  have HM := Lib.hid hm
  by_cases h0 : m = 0
  · subst h0
    clear hm h
    go_enter Tryd.func54, Tryd.ntmps54
    go_wp2_with fail
    go_ret2
    exact ⟨rfl, Ext.refl _⟩
  have t1 : ((m : Int) == 0) = false := by rw [beq_eq_false_iff_ne]; omega
  clear hm h0 h
  go_enter Tryd.func54, Tryd.ntmps54
  go_wp2_with fail
  refine Calls.mono (R := fun e w' => e = .returned (.tuple #[.int .u64 0, .bool false]) ∧ Ext w w') ?_ ?_
  · clear t1
    go_enter Tryd.func88, Tryd.ntmps88
    go_wp2_with fail
    refine (width_q _ m HM.out _ rfl).mono ?_
    rintro e w1 ⟨rfl, x1⟩
    have X1 := Lib.hid x1
    have HC1 := Lib.hid (HC.out.ext x1)
    obtain ⟨q, hq⟩ : ∃ q, wid m = q := ⟨_, rfl⟩
    have HQ : Hid (0 ≤ (q : Int) ∧ (q : Int) ≤ 64) := by have := HW.out; rw [hq] at this; exact ⟨by omega, by omega⟩
    rw [hq]
    clear x1 hq
    go_wp2_with fail
    refine wp_loop_rounds 1 ?_
    rw [rounds_succ]
    go_wp2_with fail
    refine (take_over HC1.out (q : Int) HQ.out).mono ?_
    rintro e w2 ⟨rfl, x2⟩
    have X2 := Lib.hid x2
    clear x2
    go_wp2_with fail
    go_ret2
    exact ⟨rfl, X1.out.trans X2.out⟩
  rintro e w1 ⟨rfl, x1⟩
  go_wp2_with fail
  go_ret2
  exact ⟨rfl, x1⟩

set_option maxHeartbeats 1000000 in
set_option maxRecDepth 100000 in
theorem bdraw_nil (w : World) (m : Nat) (hm : m < Bs) :
    Calls Tryd.prog 54 #[.pointer none, .int .u64 (m : Int)] w fun e w' => e = .returned (.tuple #[.int .u64 0, .bool false]) ∧ Ext w w' := by
  have HM := Lib.hid hm
  by_cases h0 : m = 0
  · subst h0
    clear hm
    go_enter Tryd.func54, Tryd.ntmps54
    go_wp2_with fail
    go_ret2
    exact ⟨rfl, Ext.refl _⟩
  have t1 : ((m : Int) == 0) = false := by rw [beq_eq_false_iff_ne]; omega
  clear hm h0
  go_enter Tryd.func54, Tryd.ntmps54
  go_wp2_with fail
  refine Calls.mono (R := fun e w' => e = .returned (.tuple #[.int .u64 0, .bool false]) ∧ Ext w w') ?_ ?_
  · clear t1
    go_enter Tryd.func88, Tryd.ntmps88
    go_wp2_with fail
    refine (width_q _ m HM.out _ rfl).mono ?_
    rintro e w1 ⟨rfl, x1⟩
    have X1 := Lib.hid x1
    obtain ⟨q, hq⟩ : ∃ q, wid m = q := ⟨_, rfl⟩
    rw [hq]
    clear x1 hq
    go_wp2_with fail
    refine wp_loop_rounds 1 ?_
    rw [rounds_succ]
    go_wp2_with fail
    refine (take_nil _ (q : Int)).mono ?_
    rintro e w2 ⟨rfl, x2⟩
    have X2 := Lib.hid x2
    clear x2
    go_wp2_with fail
    go_ret2
    exact ⟨rfl, X1.out.trans X2.out⟩
  rintro e w1 ⟨rfl, x1⟩
  go_wp2_with fail
  go_ret2
  exact ⟨rfl, x1⟩

/-- how many bits are expected to be read -/
noncomputable def costQ (m : Nat) : Rat := mkRat ((wid m * 2 ^ wid m : Nat) : Int) m
theorem shl_bs {q : Nat} (h : q ≤ 64) : q * 2 ^ q < Bs ^ 2 := by
  have h1 : (2 : Nat) ^ q ≤ Bs := by rw [Bs_eq]; exact Nat.pow_le_pow_right (by decide) h
  have h2 : (q : Nat) < Bs := by rw [Bs_def]; omega
  rw [Nat.pow_two]
  calc q * 2 ^ q ≤ q * Bs := Nat.mul_le_mul_left _ h1
    _ < Bs * Bs := Nat.mul_lt_mul_of_pos_right h2 Bs_pos
theorem costQ_len {m : Nat} (hm : m < Bs) : LenR 2 (costQ m) := by
  refine LenR.mk (by decide) ?_ ?_
  · rw [Int.natAbs_natCast]; exact shl_bs (wid_le hm)
  · rw [Nat.pow_two]; exact Nat.lt_of_lt_of_le hm (Nat.le_mul_of_pos_right _ Bs_pos)

set_option maxHeartbeats 4000000 in
set_option maxRecDepth 100000 in
theorem bcost_is {w : World} (m : Nat) (hm : m < Bs) (h1 : 1 ≤ m) :
    Calls Tryd.prog 59 #[.int .u64 (m : Int)] w (RetR0 w (costQ m)) := by
  obtain ⟨q, hq⟩ : ∃ q, wid m = q := ⟨_, rfl⟩
  have h6 := wid_le hm
  rw [hq] at h6
  have HE : Hid (mkRat (sgI false (q * 2 ^ ((q : Int)).toNat)) m = costQ m) := by show _ = _; unfold costQ sgI; rw [hq, Int.toNat_natCast]; rfl
  have t1 : ((m : Int) == 0) = false := by rw [beq_eq_false_iff_ne]; omega
  have HM := Lib.hid hm
  have HQ := Lib.hid hq
  have HQ6 := Lib.hid h6
  have HB : Hid (q < Bs) := by show q < Bs; rw [Bs_def]; omega
  have HR : Hid (0 ≤ (q : Int) ∧ (q : Int) ≤ 65536) := ⟨by omega, by omega⟩
  have H1 : Hid (m ≠ 0) := by show m ≠ 0; omega
  have h6i : (q : Int) ≤ 64 := by omega
  clear hm hq h6 h1
  go_enter Tryd.func59, Tryd.ntmps59
  go_wp2_with fail
  obtain ⟨v1, hv1⟩ : ∃ W, W = (w.alloc (.cells #[.bool false, .slice none 0 0, .slice none 0 0] 64)) := ⟨_, rfl⟩
  have y1 : Ext w v1 := by rw [hv1]; exact ((Ext.refl _).alloc _)
  have b0_0 : Hid (At (w.heap.size) 0 (.bool false) v1) := by rw [hv1]; exact At.ext (At.n0 (by rfl)) (Ext.refl _)
  have b0_1 : Hid (At (w.heap.size) 1 (.slice none 0 0) v1) := by rw [hv1]; exact At.ext (At.n0 (by rfl)) (Ext.refl _)
  have b0_2 : Hid (At (w.heap.size) 2 (.slice none 0 0) v1) := by rw [hv1]; exact At.ext (At.n0 (by rfl)) (Ext.refl _)
  have k0 : Hid (Bx 3 (w.heap.size) v1) := by rw [hv1]; exact Bx.gr (Bx.n0 3 ⟨rfl, by decide⟩ (by decide) noI_s3) (Ext.gr (Ext.refl _))
  have u0 : Hid (w.heap.size < v1.heap.size) := b0_0.out.2
  have e1_ : Ext w v1 := y1
  rw [← hv1]
  clear hv1
  refine (width_q _ m HM.out q HQ.out).mono ?_
  rintro e w2 ⟨rfl, x2⟩
  have e2_ : Ext w w2 := Ext.trans e1_ x2
  go_wp2_with fail
  refine (nof_n _ q HB.out).mono ?_
  rintro e w3 ⟨sv2, rfl, o2, x3⟩
  have e3_ : Ext w w3 := Ext.trans e2_ x3
  obtain ⟨sp2, sl2, sc2, rfl⟩ := o2.slice'
  go_wp2_with fail
  refine (nshl_n (Limbs.inN (k := 1) o2.limbs (by rw [Nat.pow_one]; exact HB.out)) (q : Int) (by decide) HR.out).mono ?_
  rintro e w4 ⟨sv3, rfl, o3, x4⟩
  have e4_ : Ext w w4 := Ext.trans e3_ x4
  obtain ⟨sp3, sl3, sc3, rfl⟩ := o3.slice'
  go_wp2_with fail
  refine (nof_n _ m HM.out).mono ?_
  rintro e w5 ⟨sv4, rfl, o4, x5⟩
  have e5_ : Ext w w5 := Ext.trans e4_ x5
  obtain ⟨sp4, sl4, sc4, rfl⟩ := o4.slice'
  go_wp2_with fail
  refine (rmake_is (q := (costQ m)) (inI_mk (Limbs.inN (k := 2) (o3.limbs.ext x5) (by rw [Int.toNat_natCast]; exact shl_bs HQ6.out)) false) (Limbs.inN (k := 1) o4.limbs (by rw [Nat.pow_one]; exact HM.out)) H1.out (by decide) (by decide) HE.out).mono ?_
  rintro e w6 ⟨sb5, sv5, su5, sm5, sd5, rfl, e5, o5, x6⟩
  have e6_ : Ext w w6 := Ext.trans e5_ x6
  obtain ⟨sp5, sl5, sc5, tp5, tl5, tc5, rfl, rfl⟩ := e5.slice
  have g0_0 := (b0_0.out.ext (x2.trans (x3.trans (x4.trans (x5.trans x6))))).1
  have g0_1 := (b0_1.out.ext (x2.trans (x3.trans (x4.trans (x5.trans x6))))).1
  have g0_2 := (b0_2.out.ext (x2.trans (x3.trans (x4.trans (x5.trans x6))))).1
  have z0_0 := (k0.out.gr (x2.gr.trans (x3.gr.trans (x4.gr.trans (x5.gr.trans x6.gr))))).free 0
  have z0_1 := (k0.out.gr (x2.gr.trans (x3.gr.trans (x4.gr.trans (x5.gr.trans x6.gr))))).free 1
  have z0_2 := (k0.out.gr (x2.gr.trans (x3.gr.trans (x4.gr.trans (x5.gr.trans x6.gr))))).free 2
  have f0 : w.heap.size < w6.heap.size := (b0_0.out.ext (x2.trans (x3.trans (x4.trans (x5.trans x6))))).2
  go_wp2_with fail
  obtain ⟨v7, hv7⟩ : ∃ W, W = (((w6.setCell ⟨w.heap.size, 0, none⟩ (.bool sb5)).setCell ⟨w.heap.size, 1, none⟩ (.slice sp5 sl5 sc5)).setCell ⟨w.heap.size, 2, none⟩ (.slice tp5 tl5 tc5)) := ⟨_, rfl⟩
  have sv7 : v7 = setRow (w.heap.size) 0 [.bool sb5, .slice sp5 sl5 sc5, .slice tp5 tl5 tc5] w6 := hv7
  have uv7 := setRow_bx' (o := 0) (cs := [.bool sb5, .slice sp5 sl5 sc5, .slice tp5 tl5 tc5]) (k0.out.gr (x2.gr.trans (x3.gr.trans (x4.gr.trans (x5.gr.trans x6.gr))))) (by simp) noI_s3
  have y7 : Gr w6 v7 := by rw [sv7]; exact setRow_gr' (o := 0) (cs := [.bool sb5, .slice sp5 sl5 sc5, .slice tp5 tl5 tc5]) (k0.out.gr (x2.gr.trans (x3.gr.trans (x4.gr.trans (x5.gr.trans x6.gr))))) (by simp) noI_s3
  have t7 : Hid (∀ t o u, t ≠ (w.heap.size) → At t o u w6 → At t o u v7) := fun t o u h k => by rw [sv7]; exact k.setRow h _ _
  have e7_ : Ext w v7 := by rw [sv7]; exact setRow_below _ _ (by omega) _ _ e6_
  have b0_0 : Hid (At (w.heap.size) 0 (.bool sb5) v7) := by rw [sv7]; exact uv7.2.1 0 _ rfl
  have b0_1 : Hid (At (w.heap.size) 1 (.slice sp5 sl5 sc5) v7) := by rw [sv7]; exact uv7.2.1 1 _ rfl
  have b0_2 : Hid (At (w.heap.size) 2 (.slice tp5 tl5 tc5) v7) := by rw [sv7]; exact uv7.2.1 2 _ rfl
  have k0 : Hid (Bx 3 (w.heap.size) v7) := by rw [sv7]; exact uv7.1
  rw [← hv7]
  clear hv7 sv7 uv7
  have c0 := b0_0.out.1
  have c1 := b0_1.out.1
  have c2 := b0_2.out.1
  refine bodyPost_ret (v := .tuple #[.agg #[.bool sb5, .slice sp5 sl5 sc5, .slice tp5 tl5 tc5], .int .i64 0]) (by simp [results, Tryd.results59, go_sem, c0, c1, c2]) rfl ?_
  exact ⟨_, _, _, _, _, rfl, (e5.gr y7), ((o5.gr y7).mono e5_.size), e7_⟩

end Go.Proofs.YtefeglkbikcjeaaDoor

/- Slices of numbers: views, rows of the call's own; append, make, literals. -/
namespace Go.Proofs.YtefeglkbikcjeaaDoor
open Go Go.RowKit

/-- a number as a value -/
def zv (x : Int) : Value := .int .i64 x
/-- v reads as the numbers L -/
def Ints (w : World) (v : Value) (L : List Int) : Prop := Sl 1 w v L.length (L.map zv)
theorem Ints.ext {w w' : World} {v : Value} {L : List Int} (h : Ints w v L) (k : Ext w w') : Ints w' v L := Sl.ext h k
theorem Ints.nil (w : World) : Ints w (.slice none 0 0) [] :=
  ⟨rfl, none, 0, rfl, Nat.le_refl _, Nat.zero_le _, fun _ => ⟨rfl, rfl⟩, fun p hp _ => by cases hp⟩
/-- the shape of a slice -/
theorem Ints.open {w : World} {v : Value} {L : List Int} (h : Ints w v L) :
    ∃ a cap, v = .slice a L.length cap ∧ L.length ≤ cap ∧ cap ≤ maxLen ∧
      ∀ i, i < L.length → ∃ b o, a = some ⟨b, o, none⟩ ∧ b < w.heap.size ∧ ∀ j, j < L.length → w.cell? ⟨b, o + j, none⟩ = some (.int .i64 (L.getD j 0)) := by
  obtain ⟨h1, a, cap, h2, h3, h4, h5, h6⟩ := h
  refine ⟨a, cap, h2, h3, h4, fun i hi => ?_⟩
  cases a with
  | none => have := h5 rfl; omega
  | some p =>
    obtain ⟨q1, q2, q3⟩ := h6 p rfl (by omega)
    obtain ⟨b, o, sp⟩ := p
    subst q1
    refine ⟨b, o, rfl, q2, fun j hj => ?_⟩
    rw [q3 j (by simpa using hj)]
    simp [zv, List.getD, hj]
theorem Ints.slice {w : World} {v : Value} {L : List Int} (h : Ints w v L) : ∃ a cap, v = .slice a L.length cap := by
  obtain ⟨a, cap, h1, -⟩ := h.open; exact ⟨a, cap, h1⟩
theorem Ints.len_le {w : World} {a : Option Addr} {n cap : Nat} {L : List Int} (h : Ints w (.slice a n cap) L) : n = L.length := by
  obtain ⟨_, _, h1, -⟩ := h.open
  injection h1
/-- the first ones -/
theorem Ints.take {w : World} {a : Option Addr} {L : List Int} {m cap : Nat} (h : Ints w (.slice a m cap) L) {n : Nat} (hn : n ≤ L.length) : Ints w (.slice a n cap) (L.take n) := by
  obtain ⟨h1, a', cap', h2, h3, h4, h5, h6⟩ := h
  cases h2
  have hl : (L.take n).length = n := by simp; omega
  refine ⟨by simp, a, cap, by rw [hl], by omega, h4, fun e => ?_, fun p hp h0 => ?_⟩
  · have := h5 e; omega
  · obtain ⟨q1, q2, q3⟩ := h6 p hp (by omega)
    refine ⟨q1, q2, fun j hj => ?_⟩
    have hj' : j < L.length := by simp at hj; omega
    rw [q3 j (by simpa using hj')]
    simp
/-- those from a place on -/
theorem Ints.drop {w : World} {b o : Nat} {L : List Int} {m cap : Nat} (h : Ints w (.slice (some ⟨b, o, none⟩) m cap) L) {n : Nat} (hn : n ≤ L.length) : Ints w (.slice (some ⟨b, o + n, none⟩) (m - n) (cap - n)) (L.drop n) := by
  obtain ⟨h1, a', cap', h2, h3, h4, h5, h6⟩ := h
  cases h2
  refine ⟨by simp, some ⟨b, o + n, none⟩, cap - n, by simp, by simp; omega, by omega, fun e => (by cases e), fun p hp h0 => ?_⟩
  obtain rfl := Option.some.inj hp
  obtain ⟨q1, q2, q3⟩ := h6 _ rfl (by simp at h0; omega)
  refine ⟨rfl, q2, fun j hj => ?_⟩
  have hj' : n + j < L.length := by simp at hj; omega
  show w.cell? ⟨b, o + n + j, none⟩ = _
  have := q3 (n + j) (by simpa using hj')
  rw [Nat.add_assoc, this]
  simp

/-- v reads as L, in a row of the type t of the call's own, from block B on -/
def OwnI (t : TypeId) (B : Nat) (w : World) (v : Value) (L : List Int) : Prop := Own B t 1 w v L.length (L.map zv)
theorem OwnI.ints {t : TypeId} {B : Nat} {w : World} {v : Value} {L : List Int} (h : OwnI t B w v L) : Ints w v L := Own.sl h
theorem OwnI.ext {t : TypeId} {B : Nat} {w w' : World} {v : Value} {L : List Int} (h : OwnI t B w v L) (k : Ext w w') : OwnI t B w' v L := Own.ext h k
theorem OwnI.mono {t : TypeId} {B B' : Nat} {w : World} {v : Value} {L : List Int} (h : OwnI t B w v L) (k : B' ≤ B) : OwnI t B' w v L := Own.mono h k
theorem OwnI.gr {t : TypeId} {B : Nat} {w w' : World} {v : Value} {L : List Int} (h : OwnI t B w v L) (ht : t ∈ notBox) (k : Gr w w') : OwnI t B w' v L := Own.gr h ht k
theorem OwnI.nil (t : TypeId) (B : Nat) (w : World) : OwnI t B w (.slice none 0 0) [] := .inl (World.ownsRow_nil ..)
theorem zv_oneCell (L : List Int) : ∀ u ∈ L.map zv, u.oneCell' = true := by
  intro u hu
  obtain ⟨_, _, rfl⟩ := List.mem_map.1 hu
  rfl
theorem info_i64 : (Tryd.prog.info? 2).map (fun i => (i.zero, i.size, i.bytes)) = some (some (.int .i64 0), 1, 8) := by kernel_rfl
theorem info_int : (Tryd.prog.info? 3).map (fun i => (i.zero, i.size, i.bytes)) = some (some (.int .i64 0), 1, 8) := by kernel_rfl
theorem ints_lit {t : TypeId} (w : World) (L : List Int) (C : Array Value) (hC : C.toList = L.map zv) (n : Nat) (hn : n = L.length) (hl : L.length ≤ 100000) :
    Ints (w.alloc (.cells C t)) (.slice (some ⟨w.heap.size, 0, none⟩) n n) L := by
  subst hn
  refine ⟨by simp, _, _, rfl, Nat.le_refl _, by unfold maxLen; omega, fun e => (by cases e), fun p hp _ => ?_⟩
  obtain rfl := Option.some.inj hp
  refine ⟨rfl, by simp, fun j hj => ?_⟩
  have hs : C.size = L.length := by rw [← Array.length_toList, hC]; simp
  have hj' : j < C.size := by rw [hs]; simpa using hj
  rw [cell_of_row _ w.heap.size _ C t (0, 0) (heap_alloc_new w _)]
  rw [Nat.zero_add, Array.getElem?_eq_getElem hj']
  congr 1
  have : C.toList[j]'(by simpa using hj') = (L.map zv)[j] := by simp only [hC]
  simpa using this
theorem own_litI {t : TypeId} (w : World) (L : List Int) (C : Array Value) (hC : C.toList = L.map zv) (n : Nat) (hn : n = L.length) (hl : L.length ≤ 100000) :
    OwnI t w.heap.size (w.alloc (.cells C t)) (.slice (some ⟨w.heap.size, 0, none⟩) n n) L := by
  subst hn
  have hs : C.size = L.length := by rw [← Array.length_toList, hC]; simp
  exact .inl ⟨by simp, .inr ⟨w.heap.size, L.length, C, rfl, Nat.le_refl _, heap_alloc_new w _, Nat.le_refl _, by unfold maxLen; omega, by rw [hs]; simp, by rw [hC]; exact List.take_of_length_le (by simp)⟩⟩

/-- 'append' of numbers to a row of the call's own -/
theorem append_ints {w : World} {ops : Array Oper} {rest : List Oper} {o : Oper} {a : Act} {Q : Exit → Act → World → Prop} (hgd : o.guard = none) (s x : Operand) (t e : TypeId)
    (ht : Tryd.prog.underlying t = some (.slice e)) (hinfo : (Tryd.prog.info? e).map (fun i => (i.zero, i.size, i.bytes)) = some (some (.int .i64 0), 1, 8)) (ho : o.op = .call { callee := .builtin .append, args := #[s, x], argTypes := #[t, t] })
    (base : Nat) (v : Value) (n : Nat) (C : List Value) (hs : a.eval s = v) (hown : w.ownsRow base e 1 v n C) (hbase : base ≤ w.heap.size)
    (u : Value) (A : List Int) (hx : a.eval x = u) (hA : Ints w u A) (hlen : n + A.length ≤ 100000)
    (h : ∀ v' w', w'.ownsRow base e 1 v' (n + A.length) (C ++ A.map zv) → w.grownBy w' v.ownBlock → wpList Tryd.prog ops Q rest (a.put o.dst v') w') : wpList Tryd.prog ops Q (o :: rest) a w :=
  wpList_append_sl hgd s x t ho base e (.int .i64 0) 1 8 ht hinfo rfl (by decide) v n C hs hown u A.length (A.map zv) hx hA (zv_oneCell A) (by unfold maxLen; omega) (by omega) hbase h
/-- 'make' of numbers: so many 0s -/
theorem make_ints {w : World} {ops : Array Oper} {rest : List Oper} {o : Oper} {a : Act} {Q : Exit → Act → World → Prop} (hgd : o.guard = none) (l c : Operand) (t e : TypeId)
    (ht : Tryd.prog.underlying t = some (.slice e)) (hinfo : (Tryd.prog.info? e).map (fun i => (i.zero, i.size, i.bytes)) = some (some (.int .i64 0), 1, 8)) (hop : o.op = Op.makeSlice t l c) (n : Nat) (C : Int) (hC : C = (n : Int)) (hl : a.eval l = .int .i64 C) (hc : a.eval c = .int .i64 C) (hn : n ≤ 100000)
    (h : ∀ w', w'.ownsRow w.heap.size e 1 (.slice (some ⟨w.heap.size, 0, none⟩) n n) n ((List.replicate n 0).map zv) → w.grownBy w' none →
      wpList Tryd.prog ops Q rest (a.put o.dst (.slice (some ⟨w.heap.size, 0, none⟩) n n)) w') : wpList Tryd.prog ops Q (o :: rest) a w := by
  obtain ⟨i, hi, hz, hsize, hby⟩ := info_parts hinfo
  refine wpList_make_full w hgd l c t hop w.heap.size e i (.int .i64 0) 1 ht hi hz hsize .i64 .i64 C C n hl hc hC hC (by rw [hby]; omega) (by unfold maxLen; omega) (Nat.le_refl _) (fun w' h1 h2 => h w' ?_ h2)
  rw [show (Value.int IntKind.i64 0).cells = #[Value.int IntKind.i64 0] from rfl, Nat.mul_one, toList_madeCells_one] at h1
  simpa [zv] using h1

/-- a row of the call's own, while it grows -/
structure RowMem (t : TypeId) (B : Nat) (L : List Int) (v : Value) (w wr : World) : Prop where
  own : wr.ownsRow B t 1 v L.length (L.map zv)
  ext : Ext w wr
  lo : w.heap.size ≤ B
theorem RowMem.grow {t : TypeId} {B : Nat} {L A : List Int} {v v' : Value} {w wr w1 w' : World} (h : RowMem t B L v w wr) (k : Ext wr w1) (h1 : w'.ownsRow B t 1 v' (L.length + A.length) (L.map zv ++ A.map zv)) (hg : w1.grownBy w' v.ownBlock) :
    RowMem t B (L ++ A) v' w w' :=
  ⟨by rw [List.length_append, List.map_append]; exact h1, (h.ext.trans k).grown hg (fun b hb => Nat.le_trans h.lo (h.own.lt b hb).1), h.lo⟩
theorem RowMem.ownI {t : TypeId} {B : Nat} {L : List Int} {v : Value} {w wr : World} (h : RowMem t B L v w wr) : OwnI t B wr v L := .inl h.own
/-- a cell ahead of the row stays, as it grows -/
theorem At.grown {s o : Nat} {u : Value} {w w' : World} {row : Option Nat} (h : At s o u w) (hg : w.grownBy w' row) (hr : ∀ k, row = some k → s < k) : At s o u w' :=
  ⟨by rw [← h.1]; exact World.cell?_of_block (w := w) (hg.block s h.2 (fun e => Nat.lt_irrefl s (hr s e.symm))), Nat.lt_of_lt_of_le h.2 hg.size⟩
theorem Bx.grown {n s : Nat} {w w' : World} {row : Option Nat} (h : Bx n s w) (hg : w.grownBy w' row) (hr : ∀ k, row = some k → s < k) : Bx n s w' :=
  h.of_eq (hg.block s h.lt (fun e => Nat.lt_irrefl s (hr s e.symm)))
theorem row_sliceI {w : World} {B : Nat} {e : TypeId} {s : Nat} {v : Value} {n : Nat} {xs : List Value} (h : w.ownsRow B e s v n xs) : ∃ a c, v = .slice a n c := by
  rcases h.2 with ⟨rfl, h0⟩ | ⟨g, cap, cur, rfl, -⟩
  · exact ⟨_, _, by rw [h0]⟩
  · exact ⟨_, _, rfl⟩
end Go.Proofs.YtefeglkbikcjeaaDoor

/- Weights, their sums, and the places that numbers pick: plain facts. -/
namespace Go.Proofs.YtefeglkbikcjeaaDoor

theorem getD_lt {W : List Int} {k : Nat} (h : k < W.length) : W.getD k 0 = W[k] := by simp [List.getD, h]
theorem getD_ge {W : List Int} {k : Nat} (h : W.length ≤ k) : W.getD k 0 = 0 := by simp [List.getD, h]
theorem getD_app {W V : List Int} {k : Nat} (h : W.length ≤ k) : (W ++ V).getD k 0 = V.getD (k - W.length) 0 := by simp [List.getD, List.getElem?_append_right h]
/-- what the first k weights add up to -/
def psum : List Int → Nat → Int
  | _, 0 => 0
  | [], _ + 1 => 0
  | x :: W, k + 1 => x + psum W k
theorem psum_zero (W : List Int) : psum W 0 = 0 := by cases W <;> rfl
theorem psum_nil (k : Nat) : psum [] k = 0 := by cases k <;> rfl
theorem psum_succ : ∀ (W : List Int) (k : Nat), psum W (k + 1) = psum W k + W.getD k 0
  | [], k => by simp [psum_nil]
  | x :: W, 0 => by simp [psum, psum_zero]
  | x :: W, k + 1 => by simp only [psum]; rw [psum_succ W k]; simp [Int.add_assoc]
theorem psum_app_left : ∀ (W V : List Int) (k : Nat), k ≤ W.length → psum (W ++ V) k = psum W k
  | W, V, 0, _ => by rw [psum_zero, psum_zero]
  | [], V, k + 1, h => by simp at h
  | x :: W, V, k + 1, h => by simp only [List.cons_append, psum]; rw [psum_app_left W V k (by simpa using h)]
theorem psum_app : ∀ (W V : List Int) (k : Nat), psum (W ++ V) (W.length + k) = psum W W.length + psum V k
  | [], V, k => by simp [psum_nil]
  | x :: W, V, k => by
    simp only [List.cons_append, List.length_cons]
    rw [show W.length + 1 + k = (W.length + k) + 1 by omega]
    simp only [psum]; rw [psum_app W V k, Int.add_assoc]
theorem psum_take (W : List Int) {k j : Nat} (h : j ≤ k) : psum (W.take k) j = psum W j := by
  rcases Nat.lt_or_ge k W.length with hk | hk
  · have := psum_app_left (W.take k) (W.drop k) j (by simp; omega)
    rw [List.take_append_drop] at this; exact this.symm
  · rw [List.take_of_length_le hk]
theorem psum_end (W : List Int) {k : Nat} (h : W.length ≤ k) : psum W k = psum W W.length := by
  obtain ⟨d, rfl⟩ := Nat.exists_eq_add_of_le h
  have := psum_app W [] d
  rw [List.append_nil, psum_nil, Int.add_zero] at this; exact this

/-- each weight may be -/
def okW (W : List Int) : Prop := ∀ x ∈ W, 0 ≤ x ∧ x ≤ 1048576
instance (W : List Int) : Decidable (okW W) := by unfold okW; infer_instance
theorem okW.get {W : List Int} (h : okW W) (k : Nat) : 0 ≤ W.getD k 0 ∧ W.getD k 0 ≤ 1048576 := by
  rcases Nat.lt_or_ge k W.length with hk | hk
  · rw [getD_lt hk]; exact h _ (List.getElem_mem hk)
  · rw [getD_ge hk]; decide
theorem psum_step {W : List Int} (h : okW W) (k : Nat) : psum W k ≤ psum W (k + 1) ∧ psum W (k + 1) ≤ psum W k + 1048576 := by
  have := h.get k
  rw [psum_succ]; omega
theorem psum_mono {W : List Int} (h : okW W) {i j : Nat} (hij : i ≤ j) : psum W i ≤ psum W j := by
  induction j with
  | zero => rw [show i = 0 by omega]; exact Int.le_refl _
  | succ j ih =>
    rcases Nat.lt_or_ge j i with g | g
    · rw [show i = j + 1 by omega]; exact Int.le_refl _
    · have := ih g; have := (psum_step h j).1; omega
theorem psum_nonneg {W : List Int} (h : okW W) (k : Nat) : 0 ≤ psum W k := by have := psum_mono h (Nat.zero_le k); rwa [psum_zero] at this
theorem psum_le {W : List Int} (h : okW W) : ∀ k : Nat, psum W k ≤ k * 1048576
  | 0 => by rw [psum_zero]; omega
  | k + 1 => by have := psum_le h k; have := (psum_step h k).2; omega
theorem psum_top {W : List Int} (h : okW W) (k : Nat) : psum W k ≤ psum W W.length := by
  rcases Nat.le_total k W.length with g | g
  · exact psum_mono h g
  · rw [psum_end W g]; exact Int.le_refl _

/-- what is wrong of weights -/
def errW (W : List Int) : Nat := if W.length = 0 then 4 else if 64 < W.length then 5 else if ¬ okW W then 1 else if psum W W.length = 0 then 7 else 0
theorem errW_ok {W : List Int} (h : errW W = 0) : 1 ≤ W.length ∧ W.length ≤ 64 ∧ okW W ∧ 1 ≤ psum W W.length := by
  unfold errW at h
  split at h
  · cases h
  · split at h
    · cases h
    · split at h
      · cases h
      · rename_i h3
        split at h
        · cases h
        · have h3 := Decidable.not_not.1 h3
          have := psum_nonneg h3 W.length
          exact ⟨by omega, by omega, h3, by omega⟩
theorem errW_of {W : List Int} (h1 : 1 ≤ W.length) (h2 : W.length ≤ 64) (h3 : okW W) (h4 : psum W W.length ≠ 0) : errW W = 0 := by
  unfold errW
  rw [if_neg (by omega), if_neg (by omega), if_neg (by simpa using h3), if_neg h4]
theorem errW_sum {W : List Int} (h1 : 1 ≤ W.length) (h2 : W.length ≤ 64) (h3 : okW W) (h4 : psum W W.length = 0) : errW W = 7 := by
  unfold errW
  rw [if_neg (by omega), if_neg (by omega), if_neg (by simpa using h3), if_pos h4]
theorem errW_bad {W : List Int} (h1 : 1 ≤ W.length) (h2 : W.length ≤ 64) {i : Nat} (_hi : i < W.length) (h : W.getD i 0 < 0 ∨ 1048576 < W.getD i 0) : errW W = 1 := by
  unfold errW
  rw [if_neg (by omega), if_neg (by omega), if_pos]
  intro h3
  have := h3.get i; omega

/-- the place that a number picks -/
structure IsPick (W : List Int) (r : Int) (i : Nat) : Prop where
  lt : i < W.length
  lo : psum W i ≤ r
  hi : r < psum W (i + 1)
theorem IsPick.uniq {W : List Int} {r : Int} {i j : Nat} (hW : okW W) (h : IsPick W r i) (k : IsPick W r j) : i = j := by
  rcases Nat.lt_trichotomy i j with g | g | g
  · have := psum_mono hW (show i + 1 ≤ j from g); have := h.hi; have := k.lo; omega
  · exact g
  · have := psum_mono hW (show j + 1 ≤ i from g); have := k.hi; have := h.lo; omega
theorem IsPick.mono {W : List Int} {r r' : Int} {i j : Nat} (hW : okW W) (hr : r ≤ r') (h : IsPick W r i) (k : IsPick W r' j) : i ≤ j := by
  rcases Nat.lt_or_ge j i with g | g
  · have := psum_mono hW (show j + 1 ≤ i from g); have := k.hi; have := h.lo; omega
  · exact g

theorem pick_exists {W : List Int} {r : Int} (h0 : 0 ≤ r) (h1 : r < psum W W.length) : ∃ i, IsPick W r i := by
  have key : ∀ k, k ≤ W.length → r < psum W k → ∃ i, IsPick W r i := by
    intro k
    induction k with
    | zero => intro _ h; rw [psum_zero] at h; omega
    | succ k ih =>
      intro hk h
      rcases Int.lt_or_le r (psum W k) with g | g
      · exact ih (by omega) g
      · exact ⟨k, hk, g, h⟩
  exact key _ (Nat.le_refl _) h1

/-- how often a place was hit by the numbers below r -/
def hitsW (W : List Int) (r : Int) (i : Nat) : Int := max 0 (min (W.getD i 0) (r - psum W i))
theorem hitsW_zero {W : List Int} (h : okW W) (i : Nat) : hitsW W 0 i = 0 := by
  unfold hitsW; have := psum_nonneg h i; have := h.get i; omega
theorem hitsW_end {W : List Int} (h : okW W) {i : Nat} (hi : i < W.length) : hitsW W (psum W W.length) i = W.getD i 0 := by
  unfold hitsW
  have h1 := h.get i
  have h2 := psum_succ W i
  have h3 := psum_mono h (show i + 1 ≤ W.length from hi)
  omega
theorem hitsW_same {W : List Int} (h : okW W) {r : Int} {i : Nat} (hp : IsPick W r i) : hitsW W (r + 1) i = hitsW W r i + 1 := by
  unfold hitsW
  have h1 := hp.lo; have h2 := hp.hi; have h3 := psum_succ W i; have := h.get i
  omega
theorem hitsW_other {W : List Int} (h : okW W) {r : Int} {i j : Nat} (hp : IsPick W r i) (hj : j ≠ i) : hitsW W (r + 1) j = hitsW W r j := by
  unfold hitsW
  have h1 := hp.lo; have h2 := hp.hi; have h3 := psum_succ W j; have h4 := h.get j
  rcases Nat.lt_or_gt_of_ne hj with g | g
  · have := psum_mono h (show j + 1 ≤ i from g); omega
  · have := psum_mono h (show i + 1 ≤ j from g); omega

/-- all weights so many times as great -/
theorem psum_times (W : List Int) (b : Int) : ∀ k, psum (W.map (· * b)) k = psum W k * b
  | 0 => by simp [psum_zero]
  | k + 1 => by
    rw [psum_succ, psum_succ, psum_times W b k, Int.add_mul]
    congr 1
    rcases Nat.lt_or_ge k W.length with hk | hk
    · simp [List.getD, hk]
    · simp [List.getD, hk]

/-- a weight parted into two -/
def partW (W : List Int) (k : Nat) (p : Int) : List Int := W.take k ++ [p, W.getD k 0 - p] ++ W.drop (k + 1)
theorem partW_length {W : List Int} {k : Nat} (p : Int) (h : k < W.length) : (partW W k p).length = W.length + 1 := by
  simp [partW]; omega
theorem partW_lo (W : List Int) {k : Nat} (p : Int) (h : k < W.length) {i : Nat} (hi : i ≤ k) : psum (partW W k p) i = psum W i := by
  unfold partW
  rw [List.append_assoc, psum_app_left _ _ _ (by simp; omega), psum_take W hi]
theorem partW_mid (W : List Int) {k : Nat} (p : Int) (h : k < W.length) : psum (partW W k p) (k + 1) = psum W k + p := by
  rw [psum_succ, partW_lo W p h (Nat.le_refl _)]
  have : (partW W k p).getD k 0 = p := by
    unfold partW
    rw [List.append_assoc, getD_app (by simp; omega)]
    simp [Nat.min_eq_left (Nat.le_of_lt h)]
  rw [this]
theorem getD_drop (W : List Int) (k i : Nat) : (W.drop k).getD i 0 = W.getD (k + i) 0 := by simp [List.getD]
theorem partW_hi (W : List Int) {k : Nat} (p : Int) (h : k < W.length) : ∀ i : Nat, psum (partW W k p) (k + 2 + i) = psum W (k + 1 + i)
  | 0 => by
    rw [Nat.add_zero, Nat.add_zero, psum_succ, partW_mid W p h, psum_succ]
    have : (partW W k p).getD (k + 1) 0 = W.getD k 0 - p := by
      unfold partW
      rw [List.append_assoc, getD_app (by simp; omega)]
      simp [Nat.min_eq_left (Nat.le_of_lt h)]
    rw [this]; omega
  | i + 1 => by
    rw [← Nat.add_assoc, psum_succ, partW_hi W p h i, ← Nat.add_assoc, psum_succ]
    congr 1
    unfold partW
    rw [List.append_assoc, getD_app (by simp; omega)]
    rw [show k + 2 + i - (W.take k).length = i + 2 by simp; omega]
    show (W.drop (k + 1)).getD i 0 = _
    rw [getD_drop]
theorem partW_okW {W : List Int} (hW : okW W) {k : Nat} {p : Int} (_h : k < W.length) (h0 : 0 ≤ p) (h1 : p ≤ W.getD k 0) : okW (partW W k p) := by
  have hk := hW.get k
  intro x hx
  unfold partW at hx
  rw [List.append_assoc, List.mem_append, List.mem_append] at hx
  rcases hx with hx | hx | hx
  · exact hW x (List.mem_of_mem_take hx)
  · have hx : x = p ∨ x = W.getD k 0 - p := by simpa using hx
    rcases hx with rfl | rfl <;> omega
  · exact hW x (List.mem_of_mem_drop hx)
theorem partW_sum {W : List Int} {k : Nat} (p : Int) (h : k < W.length) : psum (partW W k p) (partW W k p).length = psum W W.length := by
  rw [partW_length p h]
  have := partW_hi W p h (W.length - (k + 1))
  rw [show k + 2 + (W.length - (k + 1)) = W.length + 1 by omega, show k + 1 + (W.length - (k + 1)) = W.length by omega] at this
  exact this
theorem partW_pick {W : List Int} (hW : okW W) {k : Nat} {p r : Int} (h : k < W.length) (h0 : 0 ≤ p) (h1 : p ≤ W.getD k 0) {i j : Nat} (hi : IsPick W r i) (hj : IsPick (partW W k p) r j) :
    (i = k → j = k ∨ j = k + 1) ∧ (i < k → j = i) ∧ (k < i → j = i + 1) := by
  have hX := partW_okW hW h h0 h1
  refine ⟨fun e => ?_, fun e => ?_, fun e => ?_⟩
  · subst e
    rcases Int.lt_or_le r (psum W i + p) with g | g
    · exact .inl (hj.uniq hX ⟨by rw [partW_length p h]; omega, by rw [partW_lo W p h (Nat.le_refl _)]; exact hi.lo, by rw [partW_mid W p h]; exact g⟩)
    · exact .inr (hj.uniq hX ⟨by rw [partW_length p h]; omega, by rw [partW_mid W p h]; exact g, by have := partW_hi W p h 0; rw [Nat.add_zero, Nat.add_zero] at this; rw [this]; exact hi.hi⟩)
  · exact hj.uniq hX ⟨by rw [partW_length p h]; omega, by rw [partW_lo W p h (Nat.le_of_lt e)]; exact hi.lo, by rw [partW_lo W p h e]; exact hi.hi⟩
  · obtain ⟨d, rfl⟩ := Nat.exists_eq_add_of_lt e
    refine hj.uniq hX ⟨by rw [partW_length p h]; have := hi.lt; omega, ?_, ?_⟩
    · have := partW_hi W p h d
      rw [show k + d + 1 + 1 = k + 2 + d by omega, this, show k + 1 + d = k + d + 1 by omega]; exact hi.lo
    · have := partW_hi W p h (d + 1)
      rw [show k + d + 1 + 1 + 1 = k + 2 + (d + 1) by omega, this, show k + 1 + (d + 1) = k + d + 1 + 1 by omega]; exact hi.hi
end Go.Proofs.YtefeglkbikcjeaaDoor

/- The contracts of package freq: New, Len, Sum. -/
namespace Go.Proofs.YtefeglkbikcjeaaDoor
open Go Go.RowKit

/-- the weights, added up -/
def ups (W : List Int) (n : Nat) : List Int := (List.range n).map fun i => psum W (i + 1)
theorem ups_length (W : List Int) (n : Nat) : (ups W n).length = n := by simp [ups]
theorem ups_get (W : List Int) {n i : Nat} (h : i < n) : (ups W n).getD i 0 = psum W (i + 1) := by simp [ups, List.getD, h]
theorem ups_succ (W : List Int) (n : Nat) : ups W (n + 1) = ups W n ++ [psum W (n + 1)] := by simp [ups, List.range_succ]

/-- the table of the weights W in block s -/
structure Tab (W : List Int) (s : Nat) (p : Option Addr) (cap : Nat) (w : World) : Prop where
  c : At s 0 (.slice p W.length cap) w
  bx : Bx 1 s w
  up : OwnI 2 0 w (.slice p W.length cap) (ups W W.length)
theorem Tab.ext {W : List Int} {s : Nat} {p : Option Addr} {cap : Nat} {w w' : World} (h : Tab W s p cap w) (x : Ext w w') : Tab W s p cap w' := ⟨h.c.ext x, h.bx.gr x.gr, h.up.ext x⟩
theorem Tab.cell {W : List Int} {s : Nat} {p : Option Addr} {cap : Nat} {w : World} (h : Tab W s p cap w) {i : Nat} (hi : i < W.length) : ∃ b o, p = some ⟨b, o, none⟩ ∧ b < w.heap.size ∧ w.cell? ⟨b, o + i, none⟩ = some (.int .i64 (psum W (i + 1))) := by
  obtain ⟨a, cap', h1, -, -, h4⟩ := h.up.ints.open
  injection h1 with e1 e2 e3
  subst e1
  obtain ⟨b, o, q1, q2, q3⟩ := h4 i (by rw [ups_length]; exact hi)
  refine ⟨b, o, q1, q2, ?_⟩
  rw [q3 i (by rw [ups_length]; exact hi), ups_get W hi]
/-- New hands a table out -/
def RetTab (W : List Int) (w : World) (e : Ending) (w' : World) : Prop := ∃ s p cap, e = .returned (.tuple #[.pointer (some ⟨s, 0, none⟩), .int .i64 0]) ∧ w.heap.size ≤ s ∧ Tab W s p cap w' ∧ Ext w w'
/-- New refuses -/
def RetNoTab (k : Nat) (w : World) (e : Ending) (w' : World) : Prop := e = .returned (.tuple #[.pointer none, .int .i64 (k : Int)]) ∧ Ext w w'
/-- what New tells -/
def RetNew (W : List Int) (w : World) (e : Ending) (w' : World) : Prop := (errW W = 0 → RetTab W w e w') ∧ (errW W ≠ 0 → RetNoTab (errW W) w e w')
theorem RetNew.no {W : List Int} {w w' : World} {k : Nat} (hk : errW W = k) (h0 : k ≠ 0) (x : Ext w w') : RetNew W w (.returned (.tuple #[.pointer none, .int .i64 (k : Int)])) w' :=
  ⟨fun h => absurd (hk.symm.trans h) h0, fun _ => ⟨by rw [hk], x⟩⟩

/-- in the midst of New's loop -/
structure NewMem (W : List Int) (w : World) (k : Nat) (v : Value) (wr : World) : Prop where
  c : At w.heap.size 0 v wr
  bx : Bx 1 w.heap.size wr
  row : RowMem 2 (w.heap.size + 1) (ups W k) v w wr
theorem NewMem.shape {W : List Int} {w : World} {k : Nat} {v : Value} {wr : World} (h : NewMem W w k v wr) : ∃ p cap, v = .slice p k cap := by
  obtain ⟨a, c, h1⟩ := row_sliceI h.row.own
  exact ⟨a, c, by rw [h1, ups_length]⟩
theorem NewMem.tab {W : List Int} {w : World} {p : Option Addr} {cap : Nat} {wr : World} (h : NewMem W w W.length (.slice p W.length cap) wr) : Tab W w.heap.size p cap wr := ⟨h.c, h.bx, h.row.ownI.mono (Nat.zero_le _)⟩
theorem NewMem.next {W : List Int} {w : World} {k : Nat} {v v' : Value} {wr w1 w' : World} (h : NewMem W w k v wr) (x : Ext wr w1) {C : List Value}
    (h1 : w'.ownsRow (w.heap.size + 1) 2 1 v' (k + 1) ((ups W k).map zv ++ C)) (hC : C = [zv (psum W (k + 1))]) (hg : w1.grownBy w' v.ownBlock) :
    NewMem W w (k + 1) v' (w'.setCell ⟨w.heap.size, 0, none⟩ v') := by
  have hr := h.row.grow (A := [psum W (k + 1)]) x (by rw [ups_length]; subst hC; exact h1) hg
  have hlt : ∀ b, v.ownBlock = some b → w.heap.size < b := fun b hb => (h.row.own.lt b hb).1
  have hc : At w.heap.size 0 v w' := (h.c.ext x).grown hg hlt
  have hb : Bx 1 w.heap.size w' := (h.bx.gr x.gr).grown hg hlt
  obtain ⟨pa, pc, rfl⟩ := row_sliceI hr.own
  have hs := setRow_bx' (o := 0) (cs := [Value.slice pa (ups W k ++ [psum W (k + 1)]).length pc]) hb (by simp) noI_1
  refine ⟨hs.2.1 0 _ rfl, hs.1, ?_, ?_, hr.lo⟩
  · rw [ups_succ]
    exact ownsRow_setCell_below hr.own (a := ⟨w.heap.size, 0, none⟩) (Nat.lt_succ_self _) _
  · exact hr.ext.setCell (Nat.le_refl _) _

set_option maxHeartbeats 2000000 in
set_option maxRecDepth 100000 in
theorem fnew_calls {w : World} {v : Value} {W : List Int} (hW : Ints w v W) :
    Calls Tryd.prog 25 #[v] w (RetNew W w) := by
  obtain ⟨a, cap, rfl, h1, h2, h3⟩ := hW.open
  unfold maxLen at h2
  have H3 := Lib.hid h3
  clear h3 hW
  by_cases c1 : W.length = 0
  · have HE : Hid (errW W = 4) := by show _ = _; unfold errW; rw [if_pos c1]
    rw [c1] at h1 ⊢
    clear c1
    go_enter Tryd.func25, Tryd.ntmps25
    go_wp2_with fail
    go_ret2
    exact RetNew.no HE.out (by decide) (Ext.refl _)
  by_cases c2 : 64 < W.length
  · have HE : Hid (errW W = 5) := by show _ = _; unfold errW; rw [if_neg c1, if_pos c2]
    have t1 : ((W.length : Int) == 0) = false := by rw [beq_eq_false_iff_ne]; omega
    have t2 : (65 : Int) ≤ W.length := by omega
    clear c1 c2
    go_enter Tryd.func25, Tryd.ntmps25
    go_wp2_with fail
    go_ret2
    exact RetNew.no HE.out (by decide) (Ext.refl _)
  have t1 : ((W.length : Int) == 0) = false := by rw [beq_eq_false_iff_ne]; omega
  have t2 : (W.length : Int) ≤ 64 := by omega
  have HL1 : Hid (1 ≤ W.length) := by show 1 ≤ _; omega
  have HL2 : Hid (W.length ≤ 64) := by show _ ≤ 64; omega
  clear c1 c2
  go_enter Tryd.func25, Tryd.ntmps25
  go_wp2_with fail
  go_loopw [5, 20] (fun v5 v20 wr => ∃ (k : Nat) (u : Value), v20 = .int .i64 (k : Int) ∧ k ≤ W.length ∧ v5 = .int .i64 (psum W k) ∧ Hid (okW (W.take k)) ∧ NewMem W w k u wr) (fun _ v20 _ => W.length - (intOf v20).toNat)
  case atStart =>
    refine ⟨0, .slice none 0 0, rfl, Nat.zero_le _, by rw [psum_zero], fun x hx => by simp at hx, ⟨At.n0 (by rfl), Bx.n0 1 ⟨rfl, by decide⟩ (by decide) noI_1, World.ownsRow_nil .., (Ext.refl _).alloc _, by omega⟩⟩
  case round =>
    obtain ⟨k, u, rfl, hk, rfl, hok, hM⟩ := hrel
    have HM := Lib.hid hM
    have HK := Lib.hid hk
    clear hM
    by_cases hkn : k < W.length
    · obtain ⟨b, o, rfl, hb, hc⟩ := H3.out k hkn
      obtain ⟨x, hx⟩ : ∃ x, W.getD k 0 = x := ⟨_, rfl⟩
      have hcx := hc k hkn
      have hcell : wr.cell? ⟨b, o + k, none⟩ = some (.int .i64 x) := by rw [Below.cell HM.out.row.ext (p := ⟨b, o + k, none⟩) hb, hcx, hx]
      have HX := Lib.hid hx
      have HLT := Lib.hid hkn
      clear hc hcx hx
      by_cases hx1 : x < 0
      · have HE : Hid (errW W = 1) := errW_bad HL1.out HL2.out HLT.out (.inl (by rw [HX.out]; exact hx1))
        go_wp2_with fail
        go_ret2
        exact RetNew.no HE.out (by decide) HM.out.row.ext
      by_cases hx2 : 1048576 < x
      · have HE : Hid (errW W = 1) := errW_bad HL1.out HL2.out HLT.out (.inr (by rw [HX.out]; exact hx2))
        go_wp2_with fail
        go_ret2
        exact RetNew.no HE.out (by decide) HM.out.row.ext
      have HOK : Hid (okW (W.take (k + 1))) := by
        show okW _
        rw [List.take_add_one]
        intro z hz
        rcases List.mem_append.1 hz with hz | hz
        · exact hok.out z hz
        · have e := HX.out
          rw [getD_lt HLT.out] at e
          simp [HLT.out] at hz
          omega
      obtain ⟨y, hy⟩ : ∃ y, psum W (k + 1) = y := ⟨_, rfl⟩
      have hs := psum_succ W k
      rw [HX.out, hy] at hs
      have hp0 : 0 ≤ psum W k := by rw [← psum_take W (Nat.le_refl k)]; exact psum_nonneg hok.out k
      have hp1 : psum W k ≤ 67108864 := by
        have h := psum_le hok.out k
        rw [psum_take W (Nat.le_refl k)] at h
        omega
      have hw1 : IntKind.i64.wrap (psum W k + x) = y := by rw [IntWalk.i64_in _ (by omega)]; omega
      obtain ⟨c, hc⟩ : ∃ c, psum W k = c := ⟨_, rfl⟩
      obtain ⟨p, cap', rfl⟩ := HM.out.shape
      have hcs := HM.out.c.1
      have hbx := HM.out.bx.free 0
      have hsz := HM.out.c.2
      have HY := Lib.hid hy
      have HLN : Hid (k + [y].length ≤ 100000) := by show _ ≤ 100000; simp; omega
      have HS2 : Hid (w.heap.size + 1 ≤ (wr.alloc (.cells #[.int .i64 y] 2)).heap.size) := by show _ ≤ _; simp; omega
      have HEX := Lib.hid ((Ext.refl wr).alloc (.cells #[.int .i64 y] 2))
      have HRW := Lib.hid (ownsRow_ext' HM.out.row.own HEX.out)
      have HRW2 : Hid ((wr.alloc (.cells #[.int .i64 y] 2)).ownsRow (w.heap.size + 1) 2 1 (.slice p k cap') k ((ups W k).map zv)) := by have h := HRW.out; rw [ups_length] at h; exact h
      clear hs hp0 hp1 hy hok HRW
      rw [hc] at hw1 ⊢
      clear hc
      go_wp2_with (at_builtin; refine append_ints rfl _ _ 53 2 Tryd.underlying53 info_i64 rfl (w.heap.size + 1) _ k _ rfl HRW2.out HS2.out _ [y] rfl (ints_lit wr [y] _ rfl 1 rfl (by simp)) HLN.out ?_; intro v' w' hown' hgrow; obtain ⟨va, vc, rfl⟩ := row_sliceI hown'; have HN := Lib.hid (HM.out.next HEX.out hown' (by rw [HY.out]; rfl) hgrow); have hc2 := ((HM.out.c.ext HEX.out).grown hgrow (fun b hb => (HM.out.row.own.lt b hb).1)).1; have hf2 := ((HM.out.bx.gr HEX.out.gr).grown hgrow (fun b hb => (HM.out.row.own.lt b hb).1)).free 0; clear hown' hgrow)
      exact ⟨⟨k + 1, _, by go_num, HLT.out, by rw [HY.out], HOK, HN.out⟩, by simp [intOf]; have := HLT.out; omega⟩
    · obtain rfl : k = W.length := by omega
      by_cases hz : psum W W.length = 0
      · have HE : Hid (errW W = 7) := errW_sum HL1.out HL2.out (by have h := hok.out; rwa [List.take_length] at h) hz
        rw [hz]
        go_wp2_with fail
        go_ret2
        exact RetNew.no HE.out (by decide) HM.out.row.ext
      · have HE : Hid (errW W = 0) := errW_of HL1.out HL2.out (by have h := hok.out; rwa [List.take_length] at h) hz
        have t3 : (psum W W.length == 0) = false := by rw [beq_eq_false_iff_ne]; exact hz
        obtain ⟨p, cap', rfl⟩ := HM.out.shape
        clear hz
        go_wp2_with fail
        go_ret2
        exact ⟨fun _ => ⟨_, _, _, rfl, Nat.le_refl _, HM.out.tab, HM.out.row.ext⟩, fun h => absurd HE.out h⟩
end Go.Proofs.YtefeglkbikcjeaaDoor

/- The contracts of package freq: Len, Sum, Pick, with sort.Search. -/
namespace Go.Proofs.YtefeglkbikcjeaaDoor
open Go Go.RowKit

set_option maxHeartbeats 1000000 in
set_option maxRecDepth 100000 in
theorem flen_calls {W : List Int} {s : Nat} {p : Option Addr} {cap : Nat} {w : World} (h : Tab W s p cap w) :
    Calls Tryd.prog 34 #[.pointer (some ⟨s, 0, none⟩)] w fun e w' => e = .returned (.int .i64 (W.length : Int)) ∧ w = w' := by
  have c0 := h.c.1
  go_enter Tryd.func34, Tryd.ntmps34
  go_wp2_with fail
  go_ret
  exact ⟨rfl, rfl⟩

set_option maxHeartbeats 1000000 in
set_option maxRecDepth 100000 in
theorem fsum_calls {W : List Int} {s : Nat} {p : Option Addr} {cap : Nat} {w : World} (h : Tab W s p cap w) (h1 : 1 ≤ W.length) (h2 : W.length ≤ 64) (n : Int) (hn : psum W W.length = n) :
    Calls Tryd.prog 26 #[.pointer (some ⟨s, 0, none⟩)] w fun e w' => e = .returned (.int .i64 n) ∧ w = w' := by
  have c0 := h.c.1
  obtain ⟨k, hk⟩ : ∃ k, W.length = k := ⟨_, rfl⟩
  rw [hk] at h1 h2 c0
  obtain ⟨b, o, rfl, hb, hc⟩ := h.cell (i := k - 1) (by omega)
  have hc2 : w.cell? ⟨b, o + (k - 1), none⟩ = some (.int .i64 n) := by rw [hc, show k - 1 + 1 = k by omega, ← hk, hn]
  have H := Lib.hid h
  have HK := Lib.hid hk
  have h3 : (1 : Int) ≤ k := by omega
  have h4 : (k : Int) ≤ 64 := by omega
  have h5 : ((k : Int) == 0) = false := by rw [beq_eq_false_iff_ne]; omega
  clear h hc hk hn
  go_enter Tryd.func26, Tryd.ntmps26
  go_wp2_with fail
  refine (flen_calls H.out).mono ?_
  rintro e w1 ⟨rfl, rfl⟩
  rw [HK.out]
  go_wp2_with fail
  go_ret
  exact ⟨rfl, rfl⟩

set_option maxHeartbeats 1000000 in
set_option maxRecDepth 100000 in
/-- the first place at which the closure says yes -/
theorem search_calls {w : World} {x y : Value} (n r : Nat) (hn : n ≤ 1000) (hr : r ≤ n)
    (hf : ∀ (V : World) (i : Nat), Ext w V → i < n → Calls Tryd.prog 51 #[.int .i64 (i : Int), x, y] V fun e w' => e = .returned (.bool (decide (r ≤ i))) ∧ Ext V w') :
    Calls Tryd.prog 50 #[.int .i64 (n : Int), .func (.func 51) #[] #[x, y]] w fun e w' => e = .returned (.int .i64 (r : Int)) ∧ Ext w w' := by
  have HF := Lib.hid hf
  have HN := Lib.hid hn
  have HR := Lib.hid hr
  clear hf hn hr
  go_enter Tryd.func50, Tryd.ntmps50
  go_wp2_with fail
  go_loopw [5, 6] (fun v5 v6 wr => ∃ i j : Nat, v5 = .int .i64 (i : Int) ∧ v6 = .int .i64 (j : Int) ∧ i ≤ r ∧ r ≤ j ∧ j ≤ n ∧ Ext w wr) (fun v5 v6 _ => (intOf v6).toNat - (intOf v5).toNat)
  case atStart => exact ⟨0, n, rfl, rfl, Nat.zero_le _, HR.out, Nat.le_refl _, Ext.refl _⟩
  case round =>
    obtain ⟨i, j, rfl, rfl, hi, hj, hjn, hx⟩ := hrel
    have HX := Lib.hid hx
    have HI := Lib.hid hi
    have HJ := Lib.hid hj
    have HJN := Lib.hid hjn
    have hj2 : (j : Int) ≤ 1000 := by have := HN.out; omega
    clear hx hi hj hjn
    by_cases hij : i < j
    · obtain ⟨h, hh⟩ : ∃ h : Nat, h = (i + j) / 2 := ⟨_, rfl⟩
      have h1 : i ≤ h := by omega
      have h2 : h < j := by omega
      have h3 : ((i : Int) + j) / 2 = (h : Int) := by omega
      have HH := Lib.hid h1
      have HH2 := Lib.hid h2
      have hh3 : (h : Int) ≤ 1000 := by omega
      clear hh h1
      by_cases hhr : r ≤ h
      · have hd : decide (r ≤ h) = true := by simpa using hhr
        have HHR := Lib.hid hhr
        clear hhr
        go_wp2_with fail
        refine (HF.out _ h HX.out (Nat.lt_of_lt_of_le HH2.out HJN.out)).mono ?_
        rintro e w2 ⟨rfl, x2⟩
        have X2 := Lib.hid x2
        clear x2
        go_wp2_with fail
        exact ⟨⟨i, h, rfl, rfl, HI.out, HHR.out, Nat.le_trans (Nat.le_of_lt HH2.out) HJN.out, HX.out.trans X2.out⟩, by simp [intOf]; have := HH.out; have := HH2.out; omega⟩
      · have hd : decide (r ≤ h) = false := by simpa using hhr
        have HHR : Hid (h + 1 ≤ r) := by show _ ≤ _; omega
        clear hhr
        go_wp2_with fail
        refine (HF.out _ h HX.out (Nat.lt_of_lt_of_le HH2.out HJN.out)).mono ?_
        rintro e w2 ⟨rfl, x2⟩
        have X2 := Lib.hid x2
        clear x2
        go_wp2_with fail
        exact ⟨⟨h + 1, j, by go_num, rfl, HHR.out, HJ.out, HJN.out, HX.out.trans X2.out⟩, by simp [intOf]; have := HH.out; have := HH2.out; omega⟩
    · have HE : Hid (i = r) := by show i = r; have := HI.out; have := HJ.out; omega
      go_wp2_with fail
      go_ret
      exact ⟨ret_eq (int_eq (by rw [HE.out])), HX.out⟩

set_option maxHeartbeats 1000000 in
set_option maxRecDepth 100000 in
theorem pick1_calls {W : List Int} {s b2 b3 : Nat} {p : Option Addr} {cap : Nat} {V : World} (h : Tab W s p cap V) (h2 : V.cell? ⟨b2, 0, none⟩ = some (.pointer (some ⟨s, 0, none⟩))) (r : Int) (h3 : V.cell? ⟨b3, 0, none⟩ = some (.int .i64 r)) (i : Nat) (hi : i < W.length) (_hl : W.length ≤ 64) (d : Bool) (hd : decide (r < psum W (i + 1)) = d) :
    Calls Tryd.prog 51 #[.int .i64 (i : Int), .pointer (some ⟨b2, 0, none⟩), .pointer (some ⟨b3, 0, none⟩)] V fun e w' => e = .returned (.bool d) ∧ Ext V w' := by
  have c0 := h.c.1
  obtain ⟨b, o, rfl, hb, hc⟩ := h.cell hi
  obtain ⟨y, hy⟩ : ∃ y, psum W (i + 1) = y := ⟨_, rfl⟩
  obtain ⟨n, hn⟩ : ∃ n, W.length = n := ⟨_, rfl⟩
  rw [hy] at hc hd
  rw [hn] at c0 hi _hl
  have HD := Lib.hid hd
  clear h hy hn hd
  go_enter Tryd.func51, Tryd.ntmps51
  go_wp2_with fail
  go_quiet (fail)
  go_wp2_with fail
  go_ret
  exact ⟨by rw [← HD.out]; rfl, (Ext.refl _).drewN _⟩

theorem pick_cell2 (w : World) (s : Nat) (r : Int) (k : Nat) : At w.heap.size 0 (.pointer (some ⟨s, 0, none⟩)) (((w.alloc (.cells #[.pointer (some ⟨s, 0, none⟩)] 56)).alloc (.cells #[.int .i64 r] 2)).drewN k) :=
  (At.n0 (w := w) (C := #[.pointer (some ⟨s, 0, none⟩)]) (by rfl)).ext (((Ext.refl _).alloc _).drewN k)
theorem pick_cell3 (w : World) (s : Nat) (r : Int) (k : Nat) : At (w.heap.size + 1) 0 (.int .i64 r) (((w.alloc (.cells #[.pointer (some ⟨s, 0, none⟩)] 56)).alloc (.cells #[.int .i64 r] 2)).drewN k) :=
  (At.n1 (w := w) (C := #[.int .i64 r]) (by rfl)).ext ((Ext.refl _).drewN k)
theorem fsum_quiet {W : List Int} {s : Nat} {p : Option Addr} {cap : Nat} {w : World} (h : Tab W s p cap w) (h1 : 1 ≤ W.length) (h2 : W.length ≤ 64) (n : Int) (hn : psum W W.length = n) (k : Nat) :
    Calls Tryd.prog 26 #[.pointer (some ⟨s, 0, none⟩)] (w.drewN k) fun e w' => e = .returned (.int .i64 n) ∧ w' = w.drewN k :=
  (fsum_calls (h.ext ((Ext.refl _).drewN k)) h1 h2 n hn).mono fun _ _ ⟨e1, e2⟩ => ⟨e1, e2.symm⟩

set_option maxHeartbeats 1000000 in
set_option maxRecDepth 100000 in
theorem fpick_ok {W : List Int} {s : Nat} {p : Option Addr} {cap : Nat} {w : World} (h : Tab W s p cap w) (hW : errW W = 0) (r : Int) (i : Nat) (hp : IsPick W r i) :
    Calls Tryd.prog 28 #[.pointer (some ⟨s, 0, none⟩), .int .i64 r] w fun e w' => e = .returned (.tuple #[.int .i64 (i : Int), .int .i64 0]) ∧ Ext w w' := by
  obtain ⟨k1, k2, k3, k4⟩ := errW_ok hW
  obtain ⟨S, hS⟩ : ∃ S, psum W W.length = S := ⟨_, rfl⟩
  have r0 : 0 ≤ r := Int.le_trans (psum_nonneg k3 i) hp.lo
  have r1 : r < S := by rw [← hS]; exact Int.lt_of_lt_of_le hp.hi (psum_mono k3 hp.lt)
  have hmono : ∀ j, j < W.length → decide (r < psum W (j + 1)) = decide (i ≤ j) := by
    intro j hj
    rw [Bool.eq_iff_iff, decide_eq_true_eq, decide_eq_true_eq]
    constructor
    · intro h1
      rcases Nat.lt_or_ge j i with g | g
      · have := psum_mono k3 (show j + 1 ≤ i from g); have := hp.lo; omega
      · exact g
    · intro h1
      exact Int.lt_of_lt_of_le hp.hi (psum_mono k3 (Nat.succ_le_succ h1))
  have HMO := Lib.hid hmono
  have HLT : Hid (i ≤ W.length) := Nat.le_of_lt hp.lt
  have H := Lib.hid h
  have HS := Lib.hid hS
  have K1 := Lib.hid k1
  have K2 := Lib.hid k2
  have K3 := Lib.hid k3
  obtain ⟨n, hn⟩ : ∃ n, W.length = n := ⟨_, rfl⟩
  have HN := Lib.hid hn
  have c0 := h.c.1
  rw [hn] at c0
  have h5 : ((n : Int) == 0) = false := by rw [beq_eq_false_iff_ne]; omega
  have h6 : (n : Int) ≤ 64 := by omega
  have hs := h.c.2
  have HN64 : Hid (n ≤ 1000) := by show n ≤ 1000; omega
  have HLT2 : Hid (i ≤ n) := by have := HLT.out; show i ≤ n; omega
  have HE1 := Lib.hid (((Ext.refl w).alloc (.cells #[.pointer (some ⟨s, 0, none⟩)] 56)).alloc (.cells #[.int .i64 r] 2))
  have H1 := Lib.hid (h.ext HE1.out)
  clear h hp hW k1 k2 k3 k4 hS hn hmono
  go_enter Tryd.func28, Tryd.ntmps28
  go_wp2_with fail
  refine (flen_calls H1.out).mono ?_
  rintro e w1 ⟨rfl, rfl⟩
  rw [HN.out]
  go_wp2_with fail
  go_quiet ((go_at_call 26; exact Calls.quiet_of_same (fsum_quiet H1.out K1.out K2.out S HS.out _)))
  go_wp2_with fail
  have HE2 := Lib.hid (HE1.out.drewN nq)
  have HB2 := Lib.hid (pick_cell2 w s r nq)
  have HB3 := Lib.hid (pick_cell3 w s r nq)
  refine (search_calls n i HN64.out HLT2.out (fun V j hV hj => pick1_calls (H1.out.ext (((Ext.refl _).drewN nq).trans hV)) (HB2.out.ext hV).1 r (HB3.out.ext hV).1 j (by rw [HN.out]; exact hj) K2.out _ (HMO.out j (by rw [HN.out]; exact hj)))).mono ?_
  rintro e w2 ⟨rfl, x2⟩
  have X2 := Lib.hid x2
  clear x2
  go_wp2_with fail
  go_ret2
  exact ⟨rfl, HE2.out.trans X2.out⟩

set_option maxHeartbeats 1000000 in
set_option maxRecDepth 100000 in
theorem fpick_bad {W : List Int} {s : Nat} {p : Option Addr} {cap : Nat} {w : World} (h : Tab W s p cap w) (hW : errW W = 0) (r : Int) (hp : r < 0 ∨ psum W W.length ≤ r) :
    Calls Tryd.prog 28 #[.pointer (some ⟨s, 0, none⟩), .int .i64 r] w fun e w' => e = .returned (.tuple #[.int .i64 0, .int .i64 1]) ∧ Ext w w' := by
  obtain ⟨k1, k2, k3, k4⟩ := errW_ok hW
  obtain ⟨S, hS⟩ : ∃ S, psum W W.length = S := ⟨_, rfl⟩
  rw [hS] at hp
  have H := Lib.hid h
  have HS := Lib.hid hS
  have K1 := Lib.hid k1
  have K2 := Lib.hid k2
  obtain ⟨n, hn⟩ : ∃ n, W.length = n := ⟨_, rfl⟩
  have HN := Lib.hid hn
  have c0 := h.c.1
  rw [hn] at c0
  have h5 : ((n : Int) == 0) = false := by rw [beq_eq_false_iff_ne]; omega
  have h6 : (n : Int) ≤ 64 := by omega
  have HE1 := Lib.hid (((Ext.refl w).alloc (.cells #[.pointer (some ⟨s, 0, none⟩)] 56)).alloc (.cells #[.int .i64 r] 2))
  have H1 := Lib.hid (h.ext HE1.out)
  clear h hW k1 k2 k3 k4 hS hn
  by_cases hr0 : r < 0
  · clear hp
    go_enter Tryd.func28, Tryd.ntmps28
    go_wp2_with fail
    refine (flen_calls H1.out).mono ?_
    rintro e w1 ⟨rfl, rfl⟩
    rw [HN.out]
    go_wp2_with fail
    go_ret2
    exact ⟨rfl, HE1.out⟩
  · have hp2 : S ≤ r := by omega
    clear hp
    go_enter Tryd.func28, Tryd.ntmps28
    go_wp2_with fail
    refine (flen_calls H1.out).mono ?_
    rintro e w1 ⟨rfl, rfl⟩
    rw [HN.out]
    go_wp2_with fail
    go_quiet ((go_at_call 26; exact Calls.quiet_of_same (fsum_quiet H1.out K1.out K2.out S HS.out _)))
    go_wp2_with fail
    go_ret2
    exact ⟨rfl, HE1.out.drewN _⟩
end Go.Proofs.YtefeglkbikcjeaaDoor

/- The contracts of package freq: Draw. -/
namespace Go.Proofs.YtefeglkbikcjeaaDoor
open Go Go.RowKit

theorem Tab.mv {W : List Int} {s t : Nat} {p : Option Addr} {cap : Nat} {w w' : World} (h : Tab W s p cap w) (m : Mv t w w') (hne : s ≠ t) (g : Gr w w') : Tab W s p cap w' :=
  ⟨m.at hne h.c, h.bx.gr g, h.up.gr (by decide) g⟩
theorem Cur.mvgr {S S' : ByteArray} {s a a' : Nat} {ov ov' : Bool} {w w' : World} (h : Cur S s a ov w) (m : Mv s w w') (h' : Cur S' s a' ov' w') : Gr w w' := m.gr h.bx h'.bx
theorem Cur.other {S : ByteArray} {s t a : Nat} {ov : Bool} {w w' : World} (h : Cur S s a ov w) (m : Mv t w w') (hne : s ≠ t) (g : Gr w w') : Cur S s a ov w' := ⟨m.at hne h.c0, m.at hne h.c1, m.at hne h.c2, h.bx.gr g⟩
theorem psum_nat {W : List Int} (h : errW W = 0) : ∃ M : Nat, psum W W.length = (M : Int) ∧ 1 ≤ M ∧ M ≤ 67108864 := by
  obtain ⟨k1, k2, k3, k4⟩ := errW_ok h
  have := psum_le k3 W.length
  exact ⟨(psum W W.length).toNat, by omega, by omega, by omega⟩

set_option maxHeartbeats 1000000 in
set_option maxRecDepth 100000 in
theorem fdraw_yes {W : List Int} {s t a x a' i M : Nat} {p : Option Addr} {cap : Nat} {S : ByteArray} {w : World} (h : Tab W s p cap w) (hW : errW W = 0) (hc : Cur S t a false w) (hne : s ≠ t) (ho : okS S.data.toList = true) (ha : a ≤ S.size) (hM : psum W W.length = (M : Int)) (hd : DrawIs S.data.toList M a x true a') (hp : IsPick W x i) :
    Calls Tryd.prog 31 #[.pointer (some ⟨s, 0, none⟩), .pointer (some ⟨t, 0, none⟩)] w fun e w' => e = .returned (.tuple #[.int .i64 (i : Int), .bool true]) ∧ Mv t w w' ∧ Cur S t a' false w' := by
  obtain ⟨k1, k2, k3, k4⟩ := errW_ok hW
  have k5 := psum_le k3 W.length
  have m1 : 1 ≤ M := by omega
  have m2 : (M : Int) ≤ 67108864 := by omega
  have hx := hd.lt m1
  have x2 : (x : Int) ≤ 67108864 := by omega
  obtain ⟨n, hn⟩ : ∃ n, W.length = n := ⟨_, rfl⟩
  have h5 : ((n : Int) == 0) = false := by rw [beq_eq_false_iff_ne]; omega
  have h6 : (n : Int) ≤ 64 := by omega
  have HN := Lib.hid hn
  have H := Lib.hid h
  have HW := Lib.hid hW
  have HC := Lib.hid hc
  have HNE := Lib.hid hne
  have HO := Lib.hid ho
  have HA := Lib.hid ha
  have HM := Lib.hid hM
  have HD := Lib.hid hd
  have HP := Lib.hid hp
  have K1 := Lib.hid k1
  have K2 := Lib.hid k2
  have M1 := Lib.hid m1
  have MB : Hid (M < Bs) := by show M < Bs; rw [Bs_def]; omega
  clear h hW hc hne ho ha hM hd hp k1 k2 k3 k4 k5 m1 hx hn
  go_enter Tryd.func31, Tryd.ntmps31
  go_wp2_with fail
  refine (flen_calls H.out).mono ?_
  rintro e w1 ⟨rfl, rfl⟩
  rw [HN.out]
  go_wp2_with fail
  refine (fsum_calls H.out K1.out K2.out _ HM.out).mono ?_
  rintro e w1 ⟨rfl, rfl⟩
  go_wp2_with fail
  refine (bdraw_ok HC.out HO.out HA.out M MB.out M1.out HD.out).mono ?_
  rintro e w1 ⟨rfl, m1, c1⟩
  have MV := Lib.hid m1
  have C1 := Lib.hid c1
  have H1 := Lib.hid (H.out.mv m1 HNE.out (HC.out.mvgr m1 c1))
  clear m1 c1
  go_wp2_with fail
  refine (fpick_ok H1.out HW.out _ i HP.out).mono ?_
  rintro e w2 ⟨rfl, x2⟩
  have X2 := Lib.hid x2
  clear x2
  go_wp2_with fail
  go_ret2
  exact ⟨rfl, MV.out.trans (X2.out.mv (Nat.le_of_lt C1.out.lt)), C1.out.ext X2.out⟩

set_option maxHeartbeats 1000000 in
set_option maxRecDepth 100000 in
theorem fdraw_no {W : List Int} {s t a x a' M : Nat} {p : Option Addr} {cap : Nat} {S : ByteArray} {w : World} (h : Tab W s p cap w) (hW : errW W = 0) (hc : Cur S t a false w) (ho : okS S.data.toList = true) (ha : a ≤ S.size) (hM : psum W W.length = (M : Int)) (hd : DrawIs S.data.toList M a x false a') :
    Calls Tryd.prog 31 #[.pointer (some ⟨s, 0, none⟩), .pointer (some ⟨t, 0, none⟩)] w fun e w' => e = .returned (.tuple #[.int .i64 0, .bool false]) ∧ Mv t w w' ∧ Cur S t a' true w' := by
  obtain ⟨k1, k2, k3, k4⟩ := errW_ok hW
  have k5 := psum_le k3 W.length
  have m1 : 1 ≤ M := by omega
  have m2 : (M : Int) ≤ 67108864 := by omega
  obtain ⟨n, hn⟩ : ∃ n, W.length = n := ⟨_, rfl⟩
  have h5 : ((n : Int) == 0) = false := by rw [beq_eq_false_iff_ne]; omega
  have h6 : (n : Int) ≤ 64 := by omega
  have HN := Lib.hid hn
  have H := Lib.hid h
  have HC := Lib.hid hc
  have HO := Lib.hid ho
  have HA := Lib.hid ha
  have HM := Lib.hid hM
  have HD := Lib.hid hd
  have K1 := Lib.hid k1
  have K2 := Lib.hid k2
  have M1 := Lib.hid m1
  have MB : Hid (M < Bs) := by show M < Bs; rw [Bs_def]; omega
  clear h hW hc ho ha hM hd k1 k2 k3 k4 k5 m1 hn
  go_enter Tryd.func31, Tryd.ntmps31
  go_wp2_with fail
  refine (flen_calls H.out).mono ?_
  rintro e w1 ⟨rfl, rfl⟩
  rw [HN.out]
  go_wp2_with fail
  refine (fsum_calls H.out K1.out K2.out _ HM.out).mono ?_
  rintro e w1 ⟨rfl, rfl⟩
  go_wp2_with fail
  refine (bdraw_ok HC.out HO.out HA.out M MB.out M1.out HD.out).mono ?_
  rintro e w1 ⟨rfl, m1, c1⟩
  have MV := Lib.hid m1
  have C1 := Lib.hid c1
  clear m1 c1
  go_wp2_with fail
  go_ret2
  exact ⟨rfl, MV.out, C1.out⟩

set_option maxHeartbeats 1000000 in
set_option maxRecDepth 100000 in
theorem fdraw_over {W : List Int} {s t a : Nat} {p : Option Addr} {cap : Nat} {S : ByteArray} {w : World} (h : Tab W s p cap w) (hW : errW W = 0) (hc : Cur S t a true w) :
    Calls Tryd.prog 31 #[.pointer (some ⟨s, 0, none⟩), .pointer (some ⟨t, 0, none⟩)] w fun e w' => e = .returned (.tuple #[.int .i64 0, .bool false]) ∧ Ext w w' := by
  obtain ⟨M, hM, m1, m2⟩ := psum_nat hW
  obtain ⟨k1, k2, k3, k4⟩ := errW_ok hW
  obtain ⟨n, hn⟩ : ∃ n, W.length = n := ⟨_, rfl⟩
  have h5 : ((n : Int) == 0) = false := by rw [beq_eq_false_iff_ne]; omega
  have h6 : (n : Int) ≤ 64 := by omega
  have h7 : (M : Int) ≤ 67108864 := by omega
  have HN := Lib.hid hn
  have H := Lib.hid h
  have HC := Lib.hid hc
  have HM := Lib.hid hM
  have K1 := Lib.hid k1
  have K2 := Lib.hid k2
  have MB : Hid (M < Bs) := by show M < Bs; rw [Bs_def]; omega
  clear h hW hc hM k1 k2 k3 k4 m1 m2 hn
  go_enter Tryd.func31, Tryd.ntmps31
  go_wp2_with fail
  refine (flen_calls H.out).mono ?_
  rintro e w1 ⟨rfl, rfl⟩
  rw [HN.out]
  go_wp2_with fail
  refine (fsum_calls H.out K1.out K2.out _ HM.out).mono ?_
  rintro e w1 ⟨rfl, rfl⟩
  go_wp2_with fail
  refine (bdraw_over HC.out M MB.out).mono ?_
  rintro e w1 ⟨rfl, x1⟩
  go_wp2_with fail
  go_ret2
  exact ⟨rfl, x1⟩
end Go.Proofs.YtefeglkbikcjeaaDoor

/- The contracts of freq.Share and freq.Cost. -/
namespace Go.Proofs.YtefeglkbikcjeaaDoor
open Go Go.RowKit

theorem flen_ext {W : List Int} {s : Nat} {p : Option Addr} {cap : Nat} {w : World} (h : Tab W s p cap w) (n : Nat) (hn : W.length = n) :
    Calls Tryd.prog 34 #[.pointer (some ⟨s, 0, none⟩)] w fun e w' => e = .returned (.int .i64 (n : Int)) ∧ Ext w w' :=
  (flen_calls h).mono fun _ _ ⟨e1, e2⟩ => ⟨by rw [e1, hn], by subst e2; exact Ext.refl _⟩
theorem fsum_ext {W : List Int} {s : Nat} {p : Option Addr} {cap : Nat} {w : World} (h : Tab W s p cap w) (h1 : 1 ≤ W.length) (h2 : W.length ≤ 64) (n : Int) (hn : psum W W.length = n) :
    Calls Tryd.prog 26 #[.pointer (some ⟨s, 0, none⟩)] w fun e w' => e = .returned (.int .i64 n) ∧ Ext w w' :=
  (fsum_calls h h1 h2 n hn).mono fun _ _ ⟨e1, e2⟩ => ⟨e1, by subst e2; exact Ext.refl _⟩
/-- a place's share -/
noncomputable def shareQ (W : List Int) (i : Nat) : Rat := Rat.divInt (W.getD i 0) (psum W W.length)
theorem shareQ_len {W : List Int} (h : errW W = 0) (i : Nat) : LenR 1 (shareQ W i) := by
  obtain ⟨M, hM, m1, m2⟩ := psum_nat h
  have h3 := (errW_ok h).2.2.1.get i
  exact lenR_over (n := W.getD i 0) (d := psum W W.length) (by omega) (by omega) (by omega) (by omega) rfl

set_option maxHeartbeats 4000000 in
set_option maxRecDepth 100000 in
theorem fshare_is {W : List Int} {s : Nat} {p : Option Addr} {cap : Nat} {w : World} (h : Tab W s p cap w) (hW : errW W = 0) (i : Nat) (hi : i < W.length) :
    Calls Tryd.prog 29 #[.pointer (some ⟨s, 0, none⟩), .int .i64 (i : Int)] w (RetR0 w (shareQ W i)) := by
  obtain ⟨M, hM, m1, m2⟩ := psum_nat hW
  obtain ⟨k1, k2, k3, k4⟩ := errW_ok hW
  obtain ⟨n, hn⟩ : ∃ n, W.length = n := ⟨_, rfl⟩
  have h5 : ((n : Int) == 0) = false := by rw [beq_eq_false_iff_ne]; omega
  have h6 : (n : Int) ≤ 64 := by omega
  have h7 : (M : Int) ≤ 67108864 := by omega
  obtain ⟨x, hx⟩ : ∃ x, W.getD i 0 = x := ⟨_, rfl⟩
  have hx1 := k3.get i
  rw [hx] at hx1
  have XR : Hid ((-9223372036854775808 : Int) ≤ x ∧ x ≤ 9223372036854775807) := ⟨by omega, by omega⟩
  have HQ : Hid (Rat.divInt x (M : Int) = shareQ W i) := by show _ = _; unfold shareQ; rw [hx, hM]
  have hin : i < n := by omega
  have hs := psum_succ W i
  rw [hx] at hs
  obtain ⟨y, hy⟩ : ∃ y, psum W (i + 1) = y := ⟨_, rfl⟩
  obtain ⟨b, o, hp, hb, hc⟩ := h.cell hi
  rw [hy] at hc
  have HCI : Hid (At b (o + i) (.int .i64 y) w) := ⟨hc, hb⟩
  have HN := Lib.hid hn
  have H := Lib.hid h
  have HM := Lib.hid hM
  have HW := Lib.hid hW
  have K1 := Lib.hid k1
  have K2 := Lib.hid k2
  have M1 := Lib.hid m1
  have MB : Hid (M < Bs) := by show M < Bs; rw [Bs_def]; omega
  have M0 : Hid ((M : Int) ≠ 0) := by show (M : Int) ≠ 0; omega
  have MR : Hid ((-9223372036854775808 : Int) ≤ M ∧ (M : Int) ≤ 9223372036854775807) := ⟨by omega, by omega⟩
  by_cases hi0 : i = 0
  case pos =>
    subst hi0
    have hyx : x = y := by rw [← hy, hs, psum_zero]; omega
    subst hyx
    have HCI : Hid (At b o (.int .i64 x) w) := HCI.out
    clear hc hb hs hy hx hx1 h hM hn k1 k2 k3 k4 m1 m2 hi hW
    subst hp
    go_enter Tryd.func29, Tryd.ntmps29
    go_wp2_with fail
    obtain ⟨v1, hv1⟩ : ∃ W, W = (w.alloc (.cells #[.bool false, .slice none 0 0, .slice none 0 0] 64)) := ⟨_, rfl⟩
    have y1 : Ext w v1 := by rw [hv1]; exact ((Ext.refl _).alloc _)
    have b0_0 : Hid (At (w.heap.size) 0 (.bool false) v1) := by rw [hv1]; exact At.ext (At.n0 (by rfl)) (Ext.refl _)
    have b0_1 : Hid (At (w.heap.size) 1 (.slice none 0 0) v1) := by rw [hv1]; exact At.ext (At.n0 (by rfl)) (Ext.refl _)
    have b0_2 : Hid (At (w.heap.size) 2 (.slice none 0 0) v1) := by rw [hv1]; exact At.ext (At.n0 (by rfl)) (Ext.refl _)
    have k0 : Hid (Bx 3 (w.heap.size) v1) := by rw [hv1]; exact Bx.gr (Bx.n0 3 ⟨rfl, by decide⟩ (by decide) noI_s3) (Ext.gr (Ext.refl _))
    have u0 : Hid (w.heap.size < v1.heap.size) := b0_0.out.2
    have e1_ : Ext w v1 := y1
    rw [← hv1]
    clear hv1
    refine (flen_ext (H.out.ext y1) _ HN.out).mono ?_
    rintro e w2 ⟨rfl, x2⟩
    have e2_ : Ext w w2 := Ext.trans e1_ x2
    go_wp2_with fail
    refine (flen_ext (H.out.ext (y1.trans x2)) _ HN.out).mono ?_
    rintro e w3 ⟨rfl, x3⟩
    have e3_ : Ext w w3 := Ext.trans e2_ x3
    have ca := (H.out.c.ext e3_).1
    rw [HN.out] at ca
    have cb := (HCI.out.ext e3_).1
    go_wp2_with fail
    refine (fsum_ext (H.out.ext (y1.trans (x2.trans x3))) K1.out K2.out _ HM.out).mono ?_
    rintro e w4 ⟨rfl, x4⟩
    have e4_ : Ext w w4 := Ext.trans e3_ x4
    go_wp2_with fail
    refine (over_is (q := (shareQ W 0)) _ x (M : Int) XR.out.1 XR.out.2 MR.out.1 MR.out.2 M0.out HQ.out).mono ?_
    rintro e w5 ⟨sb4, sv4, su4, sm4, sd4, rfl, e4, o4, x5⟩
    have e5_ : Ext w w5 := Ext.trans e4_ x5
    obtain ⟨sp4, sl4, sc4, tp4, tl4, tc4, rfl, rfl⟩ := e4.slice
    have g0_0 := (b0_0.out.ext (x2.trans (x3.trans (x4.trans x5)))).1
    have g0_1 := (b0_1.out.ext (x2.trans (x3.trans (x4.trans x5)))).1
    have g0_2 := (b0_2.out.ext (x2.trans (x3.trans (x4.trans x5)))).1
    have z0_0 := (k0.out.gr (x2.gr.trans (x3.gr.trans (x4.gr.trans x5.gr)))).free 0
    have z0_1 := (k0.out.gr (x2.gr.trans (x3.gr.trans (x4.gr.trans x5.gr)))).free 1
    have z0_2 := (k0.out.gr (x2.gr.trans (x3.gr.trans (x4.gr.trans x5.gr)))).free 2
    have f0 : w.heap.size < w5.heap.size := (b0_0.out.ext (x2.trans (x3.trans (x4.trans x5)))).2
    go_wp2_with fail
    obtain ⟨v6, hv6⟩ : ∃ W, W = (((w5.setCell ⟨w.heap.size, 0, none⟩ (.bool sb4)).setCell ⟨w.heap.size, 1, none⟩ (.slice sp4 sl4 sc4)).setCell ⟨w.heap.size, 2, none⟩ (.slice tp4 tl4 tc4)) := ⟨_, rfl⟩
    have sv6 : v6 = setRow (w.heap.size) 0 [.bool sb4, .slice sp4 sl4 sc4, .slice tp4 tl4 tc4] w5 := hv6
    have uv6 := setRow_bx' (o := 0) (cs := [.bool sb4, .slice sp4 sl4 sc4, .slice tp4 tl4 tc4]) (k0.out.gr (x2.gr.trans (x3.gr.trans (x4.gr.trans x5.gr)))) (by simp) noI_s3
    have y6 : Gr w5 v6 := by rw [sv6]; exact setRow_gr' (o := 0) (cs := [.bool sb4, .slice sp4 sl4 sc4, .slice tp4 tl4 tc4]) (k0.out.gr (x2.gr.trans (x3.gr.trans (x4.gr.trans x5.gr)))) (by simp) noI_s3
    have t6 : Hid (∀ t o u, t ≠ (w.heap.size) → At t o u w5 → At t o u v6) := fun t o u h k => by rw [sv6]; exact k.setRow h _ _
    have e6_ : Ext w v6 := by rw [sv6]; exact setRow_below _ _ (by omega) _ _ e5_
    have b0_0 : Hid (At (w.heap.size) 0 (.bool sb4) v6) := by rw [sv6]; exact uv6.2.1 0 _ rfl
    have b0_1 : Hid (At (w.heap.size) 1 (.slice sp4 sl4 sc4) v6) := by rw [sv6]; exact uv6.2.1 1 _ rfl
    have b0_2 : Hid (At (w.heap.size) 2 (.slice tp4 tl4 tc4) v6) := by rw [sv6]; exact uv6.2.1 2 _ rfl
    have k0 : Hid (Bx 3 (w.heap.size) v6) := by rw [sv6]; exact uv6.1
    rw [← hv6]
    clear hv6 sv6 uv6
    have c0 := b0_0.out.1
    have c1 := b0_1.out.1
    have c2 := b0_2.out.1
    refine bodyPost_ret (v := .tuple #[.agg #[.bool sb4, .slice sp4 sl4 sc4, .slice tp4 tl4 tc4], .int .i64 0]) (by simp [results, Tryd.results29, go_sem, c0, c1, c2]) rfl ?_
    exact ⟨_, _, _, _, _, rfl, (e4.gr y6), ((o4.gr y6).mono e4_.size), e6_⟩
  obtain ⟨b', o', hp', hb', hc'⟩ := h.cell (i := i - 1) (by omega)
  rw [hp] at hp'
  injection hp' with hp'
  injection hp' with e1 e2
  subst e1
  subst e2
  rw [show i - 1 + 1 = i by omega] at hc'
  obtain ⟨z, hz⟩ : ∃ z, psum W i = z := ⟨_, rfl⟩
  rw [hz] at hc'
  rw [hy, hz] at hs
  have HCJ : Hid (At b (o + (i - 1)) (.int .i64 z) w) := ⟨hc', hb⟩
  have hw1 : IntKind.i64.wrap (y - z) = x := by rw [IntWalk.i64_in _ (by omega)]; omega
  have hi1 : (1 : Int) ≤ i := by omega
  clear hc hb hc' hb' hs hy hz hx hx1 h hM hn k1 k2 k3 k4 m1 m2 hi hi0 hW
  subst hp
  case neg =>
    go_enter Tryd.func29, Tryd.ntmps29
    go_wp2_with fail
    obtain ⟨v1, hv1⟩ : ∃ W, W = (w.alloc (.cells #[.bool false, .slice none 0 0, .slice none 0 0] 64)) := ⟨_, rfl⟩
    have y1 : Ext w v1 := by rw [hv1]; exact ((Ext.refl _).alloc _)
    have b0_0 : Hid (At (w.heap.size) 0 (.bool false) v1) := by rw [hv1]; exact At.ext (At.n0 (by rfl)) (Ext.refl _)
    have b0_1 : Hid (At (w.heap.size) 1 (.slice none 0 0) v1) := by rw [hv1]; exact At.ext (At.n0 (by rfl)) (Ext.refl _)
    have b0_2 : Hid (At (w.heap.size) 2 (.slice none 0 0) v1) := by rw [hv1]; exact At.ext (At.n0 (by rfl)) (Ext.refl _)
    have k0 : Hid (Bx 3 (w.heap.size) v1) := by rw [hv1]; exact Bx.gr (Bx.n0 3 ⟨rfl, by decide⟩ (by decide) noI_s3) (Ext.gr (Ext.refl _))
    have u0 : Hid (w.heap.size < v1.heap.size) := b0_0.out.2
    have e1_ : Ext w v1 := y1
    rw [← hv1]
    clear hv1
    refine (flen_ext (H.out.ext y1) _ HN.out).mono ?_
    rintro e w2 ⟨rfl, x2⟩
    have e2_ : Ext w w2 := Ext.trans e1_ x2
    go_wp2_with fail
    refine (flen_ext (H.out.ext (y1.trans x2)) _ HN.out).mono ?_
    rintro e w3 ⟨rfl, x3⟩
    have e3_ : Ext w w3 := Ext.trans e2_ x3
    have ca := (H.out.c.ext e3_).1
    rw [HN.out] at ca
    have cb := (HCI.out.ext e3_).1
    have cc := (HCJ.out.ext e3_).1
    go_wp2_with fail
    refine (fsum_ext (H.out.ext (y1.trans (x2.trans x3))) K1.out K2.out _ HM.out).mono ?_
    rintro e w4 ⟨rfl, x4⟩
    have e4_ : Ext w w4 := Ext.trans e3_ x4
    go_wp2_with fail
    refine (over_is (q := (shareQ W i)) _ x (M : Int) XR.out.1 XR.out.2 MR.out.1 MR.out.2 M0.out HQ.out).mono ?_
    rintro e w5 ⟨sb4, sv4, su4, sm4, sd4, rfl, e4, o4, x5⟩
    have e5_ : Ext w w5 := Ext.trans e4_ x5
    obtain ⟨sp4, sl4, sc4, tp4, tl4, tc4, rfl, rfl⟩ := e4.slice
    have g0_0 := (b0_0.out.ext (x2.trans (x3.trans (x4.trans x5)))).1
    have g0_1 := (b0_1.out.ext (x2.trans (x3.trans (x4.trans x5)))).1
    have g0_2 := (b0_2.out.ext (x2.trans (x3.trans (x4.trans x5)))).1
    have z0_0 := (k0.out.gr (x2.gr.trans (x3.gr.trans (x4.gr.trans x5.gr)))).free 0
    have z0_1 := (k0.out.gr (x2.gr.trans (x3.gr.trans (x4.gr.trans x5.gr)))).free 1
    have z0_2 := (k0.out.gr (x2.gr.trans (x3.gr.trans (x4.gr.trans x5.gr)))).free 2
    have f0 : w.heap.size < w5.heap.size := (b0_0.out.ext (x2.trans (x3.trans (x4.trans x5)))).2
    go_wp2_with fail
    obtain ⟨v6, hv6⟩ : ∃ W, W = (((w5.setCell ⟨w.heap.size, 0, none⟩ (.bool sb4)).setCell ⟨w.heap.size, 1, none⟩ (.slice sp4 sl4 sc4)).setCell ⟨w.heap.size, 2, none⟩ (.slice tp4 tl4 tc4)) := ⟨_, rfl⟩
    have sv6 : v6 = setRow (w.heap.size) 0 [.bool sb4, .slice sp4 sl4 sc4, .slice tp4 tl4 tc4] w5 := hv6
    have uv6 := setRow_bx' (o := 0) (cs := [.bool sb4, .slice sp4 sl4 sc4, .slice tp4 tl4 tc4]) (k0.out.gr (x2.gr.trans (x3.gr.trans (x4.gr.trans x5.gr)))) (by simp) noI_s3
    have y6 : Gr w5 v6 := by rw [sv6]; exact setRow_gr' (o := 0) (cs := [.bool sb4, .slice sp4 sl4 sc4, .slice tp4 tl4 tc4]) (k0.out.gr (x2.gr.trans (x3.gr.trans (x4.gr.trans x5.gr)))) (by simp) noI_s3
    have t6 : Hid (∀ t o u, t ≠ (w.heap.size) → At t o u w5 → At t o u v6) := fun t o u h k => by rw [sv6]; exact k.setRow h _ _
    have e6_ : Ext w v6 := by rw [sv6]; exact setRow_below _ _ (by omega) _ _ e5_
    have b0_0 : Hid (At (w.heap.size) 0 (.bool sb4) v6) := by rw [sv6]; exact uv6.2.1 0 _ rfl
    have b0_1 : Hid (At (w.heap.size) 1 (.slice sp4 sl4 sc4) v6) := by rw [sv6]; exact uv6.2.1 1 _ rfl
    have b0_2 : Hid (At (w.heap.size) 2 (.slice tp4 tl4 tc4) v6) := by rw [sv6]; exact uv6.2.1 2 _ rfl
    have k0 : Hid (Bx 3 (w.heap.size) v6) := by rw [sv6]; exact uv6.1
    rw [← hv6]
    clear hv6 sv6 uv6
    have c0 := b0_0.out.1
    have c1 := b0_1.out.1
    have c2 := b0_2.out.1
    refine bodyPost_ret (v := .tuple #[.agg #[.bool sb4, .slice sp4 sl4 sc4, .slice tp4 tl4 tc4], .int .i64 0]) (by simp [results, Tryd.results29, go_sem, c0, c1, c2]) rfl ?_
    exact ⟨_, _, _, _, _, rfl, (e4.gr y6), ((o4.gr y6).mono e4_.size), e6_⟩

set_option maxHeartbeats 4000000 in
set_option maxRecDepth 100000 in
theorem fcost_is {W : List Int} {s : Nat} {p : Option Addr} {cap : Nat} {w : World} (h : Tab W s p cap w) (hW : errW W = 0) (M : Nat) (hM : psum W W.length = (M : Int)) :
    Calls Tryd.prog 36 #[.pointer (some ⟨s, 0, none⟩)] w (RetR w (costQ M)) := by
  obtain ⟨M', hM', m1, m2⟩ := psum_nat hW
  have e : M = M' := by omega
  subst e
  clear hM'
  obtain ⟨k1, k2, k3, k4⟩ := errW_ok hW
  obtain ⟨n, hn⟩ : ∃ n, W.length = n := ⟨_, rfl⟩
  have h5 : ((n : Int) == 0) = false := by rw [beq_eq_false_iff_ne]; omega
  have h6 : (n : Int) ≤ 64 := by omega
  have h7 : (M : Int) ≤ 67108864 := by omega
  have HN := Lib.hid hn
  have H := Lib.hid h
  have HM := Lib.hid hM
  have HW := Lib.hid hW
  have K1 := Lib.hid k1
  have K2 := Lib.hid k2
  have M1 := Lib.hid m1
  have MB : Hid (M < Bs) := by show M < Bs; rw [Bs_def]; omega
  have M0 : Hid ((M : Int) ≠ 0) := by show (M : Int) ≠ 0; omega
  have MR : Hid ((-9223372036854775808 : Int) ≤ M ∧ (M : Int) ≤ 9223372036854775807) := ⟨by omega, by omega⟩
  clear h hM hn k1 k2 k3 k4 m1 m2 hW
  go_enter Tryd.func36, Tryd.ntmps36
  go_wp2_with fail
  obtain ⟨v1, hv1⟩ : ∃ W, W = (w.alloc (.cells #[.bool false, .slice none 0 0, .slice none 0 0] 64)) := ⟨_, rfl⟩
  have y1 : Ext w v1 := by rw [hv1]; exact ((Ext.refl _).alloc _)
  have b0_0 : Hid (At (w.heap.size) 0 (.bool false) v1) := by rw [hv1]; exact At.ext (At.n0 (by rfl)) (Ext.refl _)
  have b0_1 : Hid (At (w.heap.size) 1 (.slice none 0 0) v1) := by rw [hv1]; exact At.ext (At.n0 (by rfl)) (Ext.refl _)
  have b0_2 : Hid (At (w.heap.size) 2 (.slice none 0 0) v1) := by rw [hv1]; exact At.ext (At.n0 (by rfl)) (Ext.refl _)
  have k0 : Hid (Bx 3 (w.heap.size) v1) := by rw [hv1]; exact Bx.gr (Bx.n0 3 ⟨rfl, by decide⟩ (by decide) noI_s3) (Ext.gr (Ext.refl _))
  have u0 : Hid (w.heap.size < v1.heap.size) := b0_0.out.2
  have e1_ : Ext w v1 := y1
  rw [← hv1]
  clear hv1
  refine (flen_ext (H.out.ext y1) _ HN.out).mono ?_
  rintro e w2 ⟨rfl, x2⟩
  have e2_ : Ext w w2 := Ext.trans e1_ x2
  have ca := (H.out.c.ext e2_).1
  rw [HN.out] at ca
  go_wp2_with fail
  refine (fsum_ext (H.out.ext (y1.trans x2)) K1.out K2.out _ HM.out).mono ?_
  rintro e w3 ⟨rfl, x3⟩
  have e3_ : Ext w w3 := Ext.trans e2_ x3
  go_wp2_with fail
  refine (bcost_is M MB.out M1.out).mono ?_
  rintro e w4 ⟨sb3, sv3, su3, sm3, sd3, rfl, e3, o3, x4⟩
  have e4_ : Ext w w4 := Ext.trans e3_ x4
  obtain ⟨sp3, sl3, sc3, tp3, tl3, tc3, rfl, rfl⟩ := e3.slice
  have g0_0 := (b0_0.out.ext (x2.trans (x3.trans x4))).1
  have g0_1 := (b0_1.out.ext (x2.trans (x3.trans x4))).1
  have g0_2 := (b0_2.out.ext (x2.trans (x3.trans x4))).1
  have z0_0 := (k0.out.gr (x2.gr.trans (x3.gr.trans x4.gr))).free 0
  have z0_1 := (k0.out.gr (x2.gr.trans (x3.gr.trans x4.gr))).free 1
  have z0_2 := (k0.out.gr (x2.gr.trans (x3.gr.trans x4.gr))).free 2
  have f0 : w.heap.size < w4.heap.size := (b0_0.out.ext (x2.trans (x3.trans x4))).2
  go_wp2_with fail
  obtain ⟨v5, hv5⟩ : ∃ W, W = (((w4.setCell ⟨w.heap.size, 0, none⟩ (.bool sb3)).setCell ⟨w.heap.size, 1, none⟩ (.slice sp3 sl3 sc3)).setCell ⟨w.heap.size, 2, none⟩ (.slice tp3 tl3 tc3)) := ⟨_, rfl⟩
  have sv5 : v5 = setRow (w.heap.size) 0 [.bool sb3, .slice sp3 sl3 sc3, .slice tp3 tl3 tc3] w4 := hv5
  have uv5 := setRow_bx' (o := 0) (cs := [.bool sb3, .slice sp3 sl3 sc3, .slice tp3 tl3 tc3]) (k0.out.gr (x2.gr.trans (x3.gr.trans x4.gr))) (by simp) noI_s3
  have y5 : Gr w4 v5 := by rw [sv5]; exact setRow_gr' (o := 0) (cs := [.bool sb3, .slice sp3 sl3 sc3, .slice tp3 tl3 tc3]) (k0.out.gr (x2.gr.trans (x3.gr.trans x4.gr))) (by simp) noI_s3
  have t5 : Hid (∀ t o u, t ≠ (w.heap.size) → At t o u w4 → At t o u v5) := fun t o u h k => by rw [sv5]; exact k.setRow h _ _
  have e5_ : Ext w v5 := by rw [sv5]; exact setRow_below _ _ (by omega) _ _ e4_
  have zz5 : v5.heap.size = w4.heap.size := by rw [sv5, setRow_size]
  have b0_0 : Hid (At (w.heap.size) 0 (.bool sb3) v5) := by rw [sv5]; exact uv5.2.1 0 _ rfl
  have b0_1 : Hid (At (w.heap.size) 1 (.slice sp3 sl3 sc3) v5) := by rw [sv5]; exact uv5.2.1 1 _ rfl
  have b0_2 : Hid (At (w.heap.size) 2 (.slice tp3 tl3 tc3) v5) := by rw [sv5]; exact uv5.2.1 2 _ rfl
  have k0 : Hid (Bx 3 (w.heap.size) v5) := by rw [sv5]; exact uv5.1
  rw [← hv5]
  clear hv5 sv5 uv5
  obtain ⟨v6, hv6⟩ : ∃ W, W = (v5.alloc (.cells #[.bool sb3, .slice sp3 sl3 sc3, .slice tp3 tl3 tc3] 64)) := ⟨_, rfl⟩
  have y6 : Ext v5 v6 := by rw [hv6]; exact ((Ext.refl _).alloc _)
  have b1_0 : Hid (At (w4.heap.size) 0 (.bool sb3) v6) := by rw [← zz5, hv6]; exact At.ext (At.n0 (by rfl)) (Ext.refl _)
  have b1_1 : Hid (At (w4.heap.size) 1 (.slice sp3 sl3 sc3) v6) := by rw [← zz5, hv6]; exact At.ext (At.n0 (by rfl)) (Ext.refl _)
  have b1_2 : Hid (At (w4.heap.size) 2 (.slice tp3 tl3 tc3) v6) := by rw [← zz5, hv6]; exact At.ext (At.n0 (by rfl)) (Ext.refl _)
  have k1 : Hid (Bx 3 (w4.heap.size) v6) := by rw [← zz5, hv6]; exact Bx.gr (Bx.n0 3 ⟨rfl, by decide⟩ (by decide) noI_s3) (Ext.gr (Ext.refl _))
  have u1 : Hid (w4.heap.size < v6.heap.size) := b1_0.out.2
  have e6_ : Ext w v6 := Ext.trans e5_ y6
  rw [← hv6]
  clear hv6
  have c0 := (b0_0.out.ext y6).1
  have c1 := (b0_1.out.ext y6).1
  have c2 := (b0_2.out.ext y6).1
  refine bodyPost_ret (v := .agg #[.bool sb3, .slice sp3 sl3 sc3, .slice tp3 tl3 tc3]) (by simp [results, Tryd.results36, go_sem, c0, c1, c2]) rfl ?_
  exact ⟨_, _, _, _, _, rfl, (e3.gr (y5.trans y6.gr)), ((o3.gr (y5.trans y6.gr)).mono e3_.size), e6_⟩

end Go.Proofs.YtefeglkbikcjeaaDoor

/- Small contracts for the laws of chapter 10: what the walks that a program prints go by. -/
namespace Go.Proofs.YtefeglkbikcjeaaDoor
open Go Go.RowKit

/-- a row of the call's own that stays -/
def OwnZ (t : TypeId) (B : Nat) (w : World) (v : Value) (L : List Int) : Prop := OwnI t B w v L ∧ t ∈ notBox
theorem OwnZ.ext {t : TypeId} {B : Nat} {w w' : World} {v : Value} {L : List Int} (h : OwnZ t B w v L) (k : Ext w w') : OwnZ t B w' v L := ⟨h.1.ext k, h.2⟩
theorem OwnZ.gr {t : TypeId} {B : Nat} {w w' : World} {v : Value} {L : List Int} (h : OwnZ t B w v L) (k : Gr w w') : OwnZ t B w' v L := ⟨h.1.gr h.2 k, h.2⟩
theorem OwnZ.ints {t : TypeId} {B : Nat} {w : World} {v : Value} {L : List Int} (h : OwnZ t B w v L) : Ints w v L := h.1.ints
theorem OwnZ.mono {t : TypeId} {B B' : Nat} {w : World} {v : Value} {L : List Int} (h : OwnZ t B w v L) (k : B' ≤ B) : OwnZ t B' w v L := ⟨h.1.mono k, h.2⟩
theorem litz_n0 {t : TypeId} {B : Nat} {w : World} (L : List Int) (C : Array Value) (hC : C.toList = L.map zv) (n : Nat) (hn : n = L.length) (hl : L.length ≤ 100000) (hB : B ≤ w.heap.size) (ht : t ∈ notBox := by decide) :
    OwnZ t B (w.alloc (.cells C t)) (.slice (some ⟨w.heap.size, 0, none⟩) n n) L := ⟨(own_litI w L C hC n hn hl).mono hB, ht⟩
theorem litz_n1 {t : TypeId} {B : Nat} {w : World} {o1 : Obj} (L : List Int) (C : Array Value) (hC : C.toList = L.map zv) (n : Nat) (hn : n = L.length) (hl : L.length ≤ 100000) (hB : B ≤ w.heap.size) (ht : t ∈ notBox := by decide) :
    OwnZ t B ((w.alloc o1).alloc (.cells C t)) (.slice (some ⟨w.heap.size + 1, 0, none⟩) n n) L := by
  have := litz_n0 (w := w.alloc o1) (B := B) L C hC n hn hl (by simp; omega) ht; simpa using this
theorem litz_n2 {t : TypeId} {B : Nat} {w : World} {o1 o2 : Obj} (L : List Int) (C : Array Value) (hC : C.toList = L.map zv) (n : Nat) (hn : n = L.length) (hl : L.length ≤ 100000) (hB : B ≤ w.heap.size) (ht : t ∈ notBox := by decide) :
    OwnZ t B (((w.alloc o1).alloc o2).alloc (.cells C t)) (.slice (some ⟨w.heap.size + 1 + 1, 0, none⟩) n n) L := by
  have := litz_n1 (w := w.alloc o1) (B := B) (o1 := o2) L C hC n hn hl (by simp; omega) ht; simpa using this

theorem fnew_ok {w : World} {v : Value} {W : List Int} (hW : Ints w v W) (h : errW W = 0) :
    Calls Tryd.prog 25 #[v] w (RetTab W w) := (fnew_calls hW).mono fun _ _ k => k.1 h
theorem fnew_no {w : World} {v : Value} {W : List Int} (hW : Ints w v W) (n : Nat) (h : errW W = n) (h0 : n ≠ 0) :
    Calls Tryd.prog 25 #[v] w (RetNoTab n w) := (fnew_calls hW).mono fun _ _ k => h ▸ k.2 (h.symm ▸ h0)

theorem drawIs_hit {l : List UInt8} {m a v a' : Nat} (h : a + wid m ≤ l.length) (hv : bitsAt l a (wid m) = v) (hm : v < m) (ha : a' = a + wid m) : DrawIs l m a v true a' := by
  unfold DrawIs; rw [drawF_hit h hv hm]; exact ⟨rfl, rfl, ha.symm⟩
theorem drawIs_short {l : List UInt8} {m a : Nat} (h : l.length < a + wid m) : DrawIs l m a 0 false a := by
  unfold DrawIs; rw [drawF_short h]; exact ⟨rfl, rfl, rfl⟩
theorem drawIs_miss {l : List UInt8} {m a x a' : Nat} {y : Bool} (h : a + wid m ≤ l.length) (hm : m ≤ bitsAt l a (wid m)) (h0 : 1 ≤ wid m) (k : DrawIs l m (a + wid m) x y a') : DrawIs l m a x y a' := by
  unfold DrawIs; rw [drawF_miss h rfl hm h0]; exact k

set_option maxHeartbeats 1000000 in
set_option maxRecDepth 100000 in
theorem picked_yes {W : List Int} {s : Nat} {p : Option Addr} {cap : Nat} {w : World} (h : Tab W s p cap w) (hW : errW W = 0) (r : Int) (i : Nat) (hp : IsPick W r i) (k : Int) (hk : (i : Int) = k) :
    Calls Tryd.prog 27 #[.pointer (some ⟨s, 0, none⟩), .int .i64 r, .int .i64 k] w fun e w' => e = .returned (.bool true) ∧ Ext w w' := by
  subst hk
  have H := Lib.hid h
  have HW := Lib.hid hW
  have HP := Lib.hid hp
  clear h hW hp
  go_enter Tryd.func27, Tryd.ntmps27
  go_wp2_with fail
  refine (fpick_ok H.out HW.out r i HP.out).mono ?_
  rintro e w1 ⟨rfl, x1⟩
  have X1 := Lib.hid x1
  clear x1
  go_wp2_with fail
  go_ret
  exact ⟨rfl, X1.out⟩

set_option maxHeartbeats 1000000 in
set_option maxRecDepth 100000 in
theorem drawn_yes {W : List Int} {v : Value} {w : World} (h : Ints w v W) (hW : errW W = 0) (S : ByteArray) (hS : S.size ≤ maxLen) (ho : okS S.data.toList = true) (M x i a : Nat) (hM : psum W W.length = (M : Int)) (hd : DrawIs S.data.toList M 0 x true a) (hp : IsPick W x i) (k b : Int) (hk : (i : Int) = k) (hb : (a : Int) = b) :
    Calls Tryd.prog 49 #[v, .string S, .int .i64 k, .bool true, .int .i64 b] w fun e w' => e = .returned (.bool true) ∧ Ext w w' := by
  subst hk hb
  have H := Lib.hid h
  have HW := Lib.hid hW
  have HP := Lib.hid hp
  have HS := Lib.hid hS
  have HO := Lib.hid ho
  have HM := Lib.hid hM
  have HD := Lib.hid hd
  clear h hW hp hS ho hM hd
  go_enter Tryd.func49, Tryd.ntmps49
  go_wp2_with fail
  refine (fnew_ok H.out HW.out).mono ?_
  rintro e w1 ⟨s, p, cap, rfl, hs, ht, x1⟩
  have T1 := Lib.hid ht
  have X1 := Lib.hid x1
  clear ht x1 hs
  go_wp2_with fail
  refine (cnew_ok S _ HS.out HO.out).mono ?_
  rintro e w2 ⟨t, rfl, hl, hc, x2⟩
  have C2 := Lib.hid hc
  have T2 := Lib.hid (T1.out.ext x2)
  have NE : Hid (s ≠ t) := by show s ≠ t; have := T1.out.c.2; omega
  have E2 := Lib.hid (X1.out.trans x2)
  have LT : Hid (w.heap.size ≤ t) := Nat.le_trans X1.out.size hl
  clear hc x2 hl
  go_wp2_with fail
  refine (fdraw_yes T2.out HW.out C2.out NE.out HO.out (Nat.zero_le _) HM.out HD.out HP.out).mono ?_
  rintro e w3 ⟨rfl, mv, c3⟩
  have C3 := Lib.hid c3
  have E3 := Lib.hid (mv.ext E2.out LT.out)
  clear mv c3
  go_wp2_with fail
  refine (cat_calls C3.out).mono ?_
  rintro e w4 ⟨rfl, x4⟩
  have X4 := Lib.hid x4
  clear x4
  go_wp2_with fail
  go_ret
  exact ⟨rfl, E3.out.trans X4.out⟩

set_option maxHeartbeats 1000000 in
set_option maxRecDepth 100000 in
theorem drawn_no {W : List Int} {v : Value} {w : World} (h : Ints w v W) (hW : errW W = 0) (S : ByteArray) (hS : S.size ≤ maxLen) (ho : okS S.data.toList = true) (M x a : Nat) (hM : psum W W.length = (M : Int)) (hd : DrawIs S.data.toList M 0 x false a) (b : Int) (hb : (a : Int) = b) :
    Calls Tryd.prog 49 #[v, .string S, .int .i64 0, .bool false, .int .i64 b] w fun e w' => e = .returned (.bool true) ∧ Ext w w' := by
  subst hb
  have H := Lib.hid h
  have HW := Lib.hid hW
  have HS := Lib.hid hS
  have HO := Lib.hid ho
  have HM := Lib.hid hM
  have HD := Lib.hid hd
  clear h hW hS ho hM hd
  go_enter Tryd.func49, Tryd.ntmps49
  go_wp2_with fail
  refine (fnew_ok H.out HW.out).mono ?_
  rintro e w1 ⟨s, p, cap, rfl, hs, ht, x1⟩
  have T1 := Lib.hid ht
  have X1 := Lib.hid x1
  clear ht x1 hs
  go_wp2_with fail
  refine (cnew_ok S _ HS.out HO.out).mono ?_
  rintro e w2 ⟨t, rfl, hl, hc, x2⟩
  have C2 := Lib.hid hc
  have T2 := Lib.hid (T1.out.ext x2)
  have E2 := Lib.hid (X1.out.trans x2)
  have LT : Hid (w.heap.size ≤ t) := Nat.le_trans X1.out.size hl
  clear hc x2 hl
  go_wp2_with fail
  refine (fdraw_no T2.out HW.out C2.out HO.out (Nat.zero_le _) HM.out HD.out).mono ?_
  rintro e w3 ⟨rfl, mv, c3⟩
  have C3 := Lib.hid c3
  have E3 := Lib.hid (mv.ext E2.out LT.out)
  clear mv c3
  go_wp2_with fail
  refine (cat_calls C3.out).mono ?_
  rintro e w4 ⟨rfl, x4⟩
  have X4 := Lib.hid x4
  clear x4
  go_wp2_with fail
  go_ret
  exact ⟨rfl, E3.out.trans X4.out⟩
end Go.Proofs.YtefeglkbikcjeaaDoor

/- awake of chapter 10 answers true. -/
namespace Go.Proofs.YtefeglkbikcjeaaDoor
open Go Go.RowKit

set_option maxHeartbeats 8000000 in
set_option maxRecDepth 100000 in
theorem awake10_calls (w : World) : Calls Tryd.prog 24 #[] w fun e w' => e = .returned (.bool true) ∧ Ext w w' := by
  have HERR : Hid (errW [1, 0, 3] = 0) := by show _ = _; decide +kernel
  go_enter Tryd.func24, Tryd.ntmps24
  go_wp2_with fail
  obtain ⟨v1, hv1⟩ : ∃ W, W = (w.alloc (.cells #[.int .i64 1, .int .i64 0, .int .i64 3] 2)) := ⟨_, rfl⟩
  have y1 : Ext w v1 := by rw [hv1]; exact ((Ext.refl _).alloc _)
  have r0 : Hid (OwnZ 2 w.heap.size v1 (.slice (some ⟨w.heap.size, 0, none⟩) 3 3) [1, 0, 3]) := by rw [hv1]; exact OwnZ.ext (litz_n0 [1, 0, 3] _ rfl 3 rfl (by decide) (Nat.le_refl _)) (Ext.refl _)
  have e1_ : Ext w v1 := y1
  rw [← hv1]
  clear hv1
  refine (fnew_ok r0.out.ints HERR.out).mono ?_
  rintro e w2 ⟨ts1, tp1, tc1, rfl, tl1, tt1, x2⟩
  have e2_ : Ext w w2 := Ext.trans e1_ x2
  have b1_0 : Hid (At (ts1) 0 (.slice tp1 ([1, 0, 3] : List Int).length tc1) w2) := tt1.c
  have k1 := Lib.hid tt1.bx
  have up1 : Hid (OwnZ 2 0 w2 _ (ups ([1, 0, 3]) ([1, 0, 3] : List Int).length)) := ⟨tt1.up, by decide⟩
  have l1 := Lib.hid tl1
  have u1 := Lib.hid tt1.bx.lt
  clear tl1 tt1
  go_wp2_with fail
  refine (fpick_bad ⟨b1_0.out, k1.out, up1.out.1⟩ HERR.out _ (.inr (by decide))).mono ?_
  rintro e w3 ⟨rfl, x3⟩
  have e3_ : Ext w w3 := Ext.trans e2_ x3
  go_wp2_with fail
  refine (fshare_is ⟨(b1_0.out.ext x3), (k1.out.gr x3.gr), (up1.out.ext x3).1⟩ HERR.out 0 (by decide)).mono ?_
  rintro e w4 ⟨sb3, sv3, su3, sm3, sd3, rfl, e3, o3, x4⟩
  have e4_ : Ext w w4 := Ext.trans e3_ x4
  obtain ⟨sp3, sl3, sc3, tp3, tl3, tc3, rfl, rfl⟩ := e3.slice
  go_wp2_with fail
  obtain ⟨v5, hv5⟩ : ∃ W, W = (w4.alloc (.cells #[.bool sb3, .slice sp3 sl3 sc3, .slice tp3 tl3 tc3] 64)) := ⟨_, rfl⟩
  have y5 : Ext w4 v5 := by rw [hv5]; exact ((Ext.refl _).alloc _)
  have b2_0 : Hid (At (w4.heap.size) 0 (.bool sb3) v5) := by rw [hv5]; exact At.ext (At.n0 (by rfl)) (Ext.refl _)
  have b2_1 : Hid (At (w4.heap.size) 1 (.slice sp3 sl3 sc3) v5) := by rw [hv5]; exact At.ext (At.n0 (by rfl)) (Ext.refl _)
  have b2_2 : Hid (At (w4.heap.size) 2 (.slice tp3 tl3 tc3) v5) := by rw [hv5]; exact At.ext (At.n0 (by rfl)) (Ext.refl _)
  have k2 : Hid (Bx 3 (w4.heap.size) v5) := by rw [hv5]; exact Bx.gr (Bx.n0 3 ⟨rfl, by decide⟩ (by decide) noI_s3) (Ext.gr (Ext.refl _))
  have u2 : Hid (w4.heap.size < v5.heap.size) := b2_0.out.2
  have e5_ : Ext w v5 := Ext.trans e4_ y5
  rw [← hv5]
  clear hv5
  refine (fshare_is ⟨(b1_0.out.ext (x3.trans (x4.trans y5))), (k1.out.gr (x3.gr.trans (x4.gr.trans y5.gr))), (up1.out.ext (x3.trans (x4.trans y5))).1⟩ HERR.out 1 (by decide)).mono ?_
  rintro e w6 ⟨sb4, sv4, su4, sm4, sd4, rfl, e4, o4, x6⟩
  have e6_ : Ext w w6 := Ext.trans e5_ x6
  obtain ⟨sp4, sl4, sc4, tp4, tl4, tc4, rfl, rfl⟩ := e4.slice
  go_wp2_with fail
  obtain ⟨v7, hv7⟩ : ∃ W, W = (w6.alloc (.cells #[.bool sb4, .slice sp4 sl4 sc4, .slice tp4 tl4 tc4] 64)) := ⟨_, rfl⟩
  have y7 : Ext w6 v7 := by rw [hv7]; exact ((Ext.refl _).alloc _)
  have b3_0 : Hid (At (w6.heap.size) 0 (.bool sb4) v7) := by rw [hv7]; exact At.ext (At.n0 (by rfl)) (Ext.refl _)
  have b3_1 : Hid (At (w6.heap.size) 1 (.slice sp4 sl4 sc4) v7) := by rw [hv7]; exact At.ext (At.n0 (by rfl)) (Ext.refl _)
  have b3_2 : Hid (At (w6.heap.size) 2 (.slice tp4 tl4 tc4) v7) := by rw [hv7]; exact At.ext (At.n0 (by rfl)) (Ext.refl _)
  have k3 : Hid (Bx 3 (w6.heap.size) v7) := by rw [hv7]; exact Bx.gr (Bx.n0 3 ⟨rfl, by decide⟩ (by decide) noI_s3) (Ext.gr (Ext.refl _))
  have u3 : Hid (w6.heap.size < v7.heap.size) := b3_0.out.2
  have e7_ : Ext w v7 := Ext.trans e6_ y7
  rw [← hv7]
  clear hv7
  refine (fshare_is ⟨(b1_0.out.ext (x3.trans (x4.trans (y5.trans (x6.trans y7))))), (k1.out.gr (x3.gr.trans (x4.gr.trans (y5.gr.trans (x6.gr.trans y7.gr))))), (up1.out.ext (x3.trans (x4.trans (y5.trans (x6.trans y7))))).1⟩ HERR.out 2 (by decide)).mono ?_
  rintro e w8 ⟨sb5, sv5, su5, sm5, sd5, rfl, e5, o5, x8⟩
  have e8_ : Ext w w8 := Ext.trans e7_ x8
  obtain ⟨sp5, sl5, sc5, tp5, tl5, tc5, rfl, rfl⟩ := e5.slice
  go_wp2_with fail
  obtain ⟨v9, hv9⟩ : ∃ W, W = (w8.alloc (.cells #[.bool sb5, .slice sp5 sl5 sc5, .slice tp5 tl5 tc5] 64)) := ⟨_, rfl⟩
  have y9 : Ext w8 v9 := by rw [hv9]; exact ((Ext.refl _).alloc _)
  have b4_0 : Hid (At (w8.heap.size) 0 (.bool sb5) v9) := by rw [hv9]; exact At.ext (At.n0 (by rfl)) (Ext.refl _)
  have b4_1 : Hid (At (w8.heap.size) 1 (.slice sp5 sl5 sc5) v9) := by rw [hv9]; exact At.ext (At.n0 (by rfl)) (Ext.refl _)
  have b4_2 : Hid (At (w8.heap.size) 2 (.slice tp5 tl5 tc5) v9) := by rw [hv9]; exact At.ext (At.n0 (by rfl)) (Ext.refl _)
  have k4 : Hid (Bx 3 (w8.heap.size) v9) := by rw [hv9]; exact Bx.gr (Bx.n0 3 ⟨rfl, by decide⟩ (by decide) noI_s3) (Ext.gr (Ext.refl _))
  have u4 : Hid (w8.heap.size < v9.heap.size) := b4_0.out.2
  have e9_ : Ext w v9 := Ext.trans e8_ y9
  rw [← hv9]
  clear hv9
  refine (fsum_ext ⟨(b1_0.out.ext (x3.trans (x4.trans (y5.trans (x6.trans (y7.trans (x8.trans y9))))))), (k1.out.gr (x3.gr.trans (x4.gr.trans (y5.gr.trans (x6.gr.trans (y7.gr.trans (x8.gr.trans y9.gr))))))), (up1.out.ext (x3.trans (x4.trans (y5.trans (x6.trans (y7.trans (x8.trans y9))))))).1⟩ (errW_ok HERR.out).1 (errW_ok HERR.out).2.1 _ rfl).mono ?_
  rintro e w10 ⟨rfl, x10⟩
  have e10_ : Ext w w10 := Ext.trans e9_ x10
  go_wp2_with fail
  refine (picked_yes ⟨(b1_0.out.ext (x3.trans (x4.trans (y5.trans (x6.trans (y7.trans (x8.trans (y9.trans x10)))))))), (k1.out.gr (x3.gr.trans (x4.gr.trans (y5.gr.trans (x6.gr.trans (y7.gr.trans (x8.gr.trans (y9.gr.trans x10.gr)))))))), (up1.out.ext (x3.trans (x4.trans (y5.trans (x6.trans (y7.trans (x8.trans (y9.trans x10)))))))).1⟩ HERR.out _ 0 (⟨by decide, by decide, by decide⟩ : IsPick [1, 0, 3] 0 0) _ rfl).mono ?_
  rintro e w11 ⟨rfl, x11⟩
  have e11_ : Ext w w11 := Ext.trans e10_ x11
  go_wp2_with fail
  refine (picked_yes ⟨(b1_0.out.ext (x3.trans (x4.trans (y5.trans (x6.trans (y7.trans (x8.trans (y9.trans (x10.trans x11))))))))), (k1.out.gr (x3.gr.trans (x4.gr.trans (y5.gr.trans (x6.gr.trans (y7.gr.trans (x8.gr.trans (y9.gr.trans (x10.gr.trans x11.gr))))))))), (up1.out.ext (x3.trans (x4.trans (y5.trans (x6.trans (y7.trans (x8.trans (y9.trans (x10.trans x11))))))))).1⟩ HERR.out _ 2 (⟨by decide, by decide, by decide⟩ : IsPick [1, 0, 3] 1 2) _ rfl).mono ?_
  rintro e w12 ⟨rfl, x12⟩
  have e12_ : Ext w w12 := Ext.trans e11_ x12
  go_wp2_with fail
  refine (picked_yes ⟨(b1_0.out.ext (x3.trans (x4.trans (y5.trans (x6.trans (y7.trans (x8.trans (y9.trans (x10.trans (x11.trans x12)))))))))), (k1.out.gr (x3.gr.trans (x4.gr.trans (y5.gr.trans (x6.gr.trans (y7.gr.trans (x8.gr.trans (y9.gr.trans (x10.gr.trans (x11.gr.trans x12.gr)))))))))), (up1.out.ext (x3.trans (x4.trans (y5.trans (x6.trans (y7.trans (x8.trans (y9.trans (x10.trans (x11.trans x12)))))))))).1⟩ HERR.out _ 2 (⟨by decide, by decide, by decide⟩ : IsPick [1, 0, 3] 3 2) _ rfl).mono ?_
  rintro e w13 ⟨rfl, x13⟩
  have e13_ : Ext w w13 := Ext.trans e12_ x13
  have g2_0 := (b2_0.out.ext (x6.trans (y7.trans (x8.trans (y9.trans (x10.trans (x11.trans (x12.trans x13)))))))).1
  have g2_1 := (b2_1.out.ext (x6.trans (y7.trans (x8.trans (y9.trans (x10.trans (x11.trans (x12.trans x13)))))))).1
  have g2_2 := (b2_2.out.ext (x6.trans (y7.trans (x8.trans (y9.trans (x10.trans (x11.trans (x12.trans x13)))))))).1
  have f2 : w4.heap.size < w13.heap.size := (b2_0.out.ext (x6.trans (y7.trans (x8.trans (y9.trans (x10.trans (x11.trans (x12.trans x13)))))))).2
  go_wp2_with fail
  refine (rshow_is ((e3.ext (y5.trans (x6.trans (y7.trans (x8.trans (y9.trans (x10.trans (x11.trans (x12.trans x13))))))))).inR (k := 1) (shareQ_len HERR.out _)) (by decide) ⟨#[49, 47, 52]⟩ (showR_of (by decide +kernel) (by decide +kernel))).mono ?_
  rintro e w14 ⟨rfl, x14⟩
  have e14_ : Ext w w14 := Ext.trans e13_ x14
  clear g2_0 g2_1 g2_2 f2
  have g3_0 := (b3_0.out.ext (x8.trans (y9.trans (x10.trans (x11.trans (x12.trans (x13.trans x14))))))).1
  have g3_1 := (b3_1.out.ext (x8.trans (y9.trans (x10.trans (x11.trans (x12.trans (x13.trans x14))))))).1
  have g3_2 := (b3_2.out.ext (x8.trans (y9.trans (x10.trans (x11.trans (x12.trans (x13.trans x14))))))).1
  have f3 : w6.heap.size < w14.heap.size := (b3_0.out.ext (x8.trans (y9.trans (x10.trans (x11.trans (x12.trans (x13.trans x14))))))).2
  go_wp2_with fail
  refine (rshow_is ((e4.ext (y7.trans (x8.trans (y9.trans (x10.trans (x11.trans (x12.trans (x13.trans x14)))))))).inR (k := 1) (shareQ_len HERR.out _)) (by decide) ⟨#[48]⟩ (showR_of (by decide +kernel) (by decide +kernel))).mono ?_
  rintro e w15 ⟨rfl, x15⟩
  have e15_ : Ext w w15 := Ext.trans e14_ x15
  clear g3_0 g3_1 g3_2 f3
  have g4_0 := (b4_0.out.ext (x10.trans (x11.trans (x12.trans (x13.trans (x14.trans x15)))))).1
  have g4_1 := (b4_1.out.ext (x10.trans (x11.trans (x12.trans (x13.trans (x14.trans x15)))))).1
  have g4_2 := (b4_2.out.ext (x10.trans (x11.trans (x12.trans (x13.trans (x14.trans x15)))))).1
  have f4 : w8.heap.size < w15.heap.size := (b4_0.out.ext (x10.trans (x11.trans (x12.trans (x13.trans (x14.trans x15)))))).2
  go_wp2_with fail
  refine (rshow_is ((e5.ext (y9.trans (x10.trans (x11.trans (x12.trans (x13.trans (x14.trans x15))))))).inR (k := 1) (shareQ_len HERR.out _)) (by decide) ⟨#[51, 47, 52]⟩ (showR_of (by decide +kernel) (by decide +kernel))).mono ?_
  rintro e w16 ⟨rfl, x16⟩
  have e16_ : Ext w w16 := Ext.trans e15_ x16
  clear g4_0 g4_1 g4_2 f4
  go_wp2_with fail
  refine (fcost_is ⟨(b1_0.out.ext (x3.trans (x4.trans (y5.trans (x6.trans (y7.trans (x8.trans (y9.trans (x10.trans (x11.trans (x12.trans (x13.trans (x14.trans (x15.trans x16)))))))))))))), (k1.out.gr (x3.gr.trans (x4.gr.trans (y5.gr.trans (x6.gr.trans (y7.gr.trans (x8.gr.trans (y9.gr.trans (x10.gr.trans (x11.gr.trans (x12.gr.trans (x13.gr.trans (x14.gr.trans (x15.gr.trans x16.gr)))))))))))))), (up1.out.ext (x3.trans (x4.trans (y5.trans (x6.trans (y7.trans (x8.trans (y9.trans (x10.trans (x11.trans (x12.trans (x13.trans (x14.trans (x15.trans x16)))))))))))))).1⟩ HERR.out 4 rfl).mono ?_
  rintro e w17 ⟨sb13, sv13, su13, sm13, sd13, rfl, e13, o13, x17⟩
  have e17_ : Ext w w17 := Ext.trans e16_ x17
  obtain ⟨sp13, sl13, sc13, tp13, tl13, tc13, rfl, rfl⟩ := e13.slice
  go_wp2_with fail
  refine (rshow_is (e13.inR (k := 2) (costQ_len (by rw [Bs_def]; decide))) (by decide) ⟨#[50]⟩ (showR_of (by decide +kernel) (by decide +kernel))).mono ?_
  rintro e w18 ⟨rfl, x18⟩
  have e18_ : Ext w w18 := Ext.trans e17_ x18
  go_wp2_with fail
  refine (drawn_yes (r0.out.ext (x2.trans (x3.trans (x4.trans (y5.trans (x6.trans (y7.trans (x8.trans (y9.trans (x10.trans (x11.trans (x12.trans (x13.trans (x14.trans (x15.trans (x16.trans (x17.trans x18))))))))))))))))).ints HERR.out ⟨#[48, 48]⟩ (by decide) (by decide +kernel) 4 0 0 2 rfl (drawIs_hit (by decide +kernel) (by decide +kernel) (by decide) (by decide +kernel)) (⟨by decide, by decide, by decide⟩ : IsPick [1, 0, 3] 0 0) _ _ rfl rfl).mono ?_
  rintro e w19 ⟨rfl, x19⟩
  have e19_ : Ext w w19 := Ext.trans e18_ x19
  go_wp2_with fail
  refine (drawn_yes (r0.out.ext (x2.trans (x3.trans (x4.trans (y5.trans (x6.trans (y7.trans (x8.trans (y9.trans (x10.trans (x11.trans (x12.trans (x13.trans (x14.trans (x15.trans (x16.trans (x17.trans (x18.trans x19)))))))))))))))))).ints HERR.out ⟨#[48, 49]⟩ (by decide) (by decide +kernel) 4 1 2 2 rfl (drawIs_hit (by decide +kernel) (by decide +kernel) (by decide) (by decide +kernel)) (⟨by decide, by decide, by decide⟩ : IsPick [1, 0, 3] 1 2) _ _ rfl rfl).mono ?_
  rintro e w20 ⟨rfl, x20⟩
  have e20_ : Ext w w20 := Ext.trans e19_ x20
  go_wp2_with fail
  refine (drawn_no (r0.out.ext (x2.trans (x3.trans (x4.trans (y5.trans (x6.trans (y7.trans (x8.trans (y9.trans (x10.trans (x11.trans (x12.trans (x13.trans (x14.trans (x15.trans (x16.trans (x17.trans (x18.trans (x19.trans x20))))))))))))))))))).ints HERR.out ⟨#[49]⟩ (by decide) (by decide +kernel) 4 0 0 rfl (drawIs_short (by decide +kernel)) _ rfl).mono ?_
  rintro e w21 ⟨rfl, x21⟩
  have e21_ : Ext w w21 := Ext.trans e20_ x21
  go_wp2_with fail
  go_ret
  exact ⟨rfl, e21_⟩

end Go.Proofs.YtefeglkbikcjeaaDoor
