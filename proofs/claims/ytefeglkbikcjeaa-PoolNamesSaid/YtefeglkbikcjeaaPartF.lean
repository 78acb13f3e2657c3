/- Facts and contracts, joined: RatTxt, RatSum, Rat6. -/
import Derived.Test.YtefeglkbikcjeaaPartE

/- The contracts of rat.Show and rat.Read. -/
namespace Go.Proofs.Ytefeglkbikcjeaa
open Go Go.RowKit

theorem extract_take' (s : ByteArray) (k : Nat) : (s.extract 0 k).data.toList = s.data.toList.take k := by rw [ByteArray.data_extract]; simp
/-- a fraction's text -/
noncomputable def showR (q : Rat) : List UInt8 := showI q.num ++ (if q.den = 1 then [] else 47 :: showL q.den)
theorem showL_lenB {n k : Nat} (h : n < Bs ^ k) (hk : 1 ≤ k) : (showL n).length ≤ 20 * k := by
  have := LenI.show (z := (n : Int)) (k := k) (by unfold LenI; simpa using h) hk
  simpa using this
theorem dig_inj {a b : Nat} : dig a = dig b ↔ a = b := ⟨fun h => by rw [← val_dig a, h, val_dig], fun h => by rw [h]⟩
/-- why a text is no fraction's -/
noncomputable def errQ (l : List UInt8) : Nat :=
  if Lib.indexByte l 47 = -1 then errI l else
  if errI (l.take (Lib.indexByte l 47).toNat) ≠ 0 then errI (l.take (Lib.indexByte l 47).toNat) else
  if errR (l.drop ((Lib.indexByte l 47).toNat + 1)) ≠ 0 then errR (l.drop ((Lib.indexByte l 47).toNat + 1)) else
  if readN (l.drop ((Lib.indexByte l 47).toNat + 1)) ≠ 1 ∧ readN (l.drop ((Lib.indexByte l 47).toNat + 1)) ≠ 0 ∧ Nat.gcd (readI (l.take (Lib.indexByte l 47).toNat)).natAbs (readN (l.drop ((Lib.indexByte l 47).toNat + 1))) = 1 then 0 else 3
/-- the fraction of a text -/
noncomputable def readQ (l : List UInt8) : Rat :=
  if errQ l ≠ 0 then 0 else if Lib.indexByte l 47 = -1 then ((readI l : Int) : Rat) else mkRat (readI (l.take (Lib.indexByte l 47).toNat)) (readN (l.drop ((Lib.indexByte l 47).toNat + 1)))

theorem indexByte_range (l : List UInt8) (c : UInt8) : Lib.indexByte l c = -1 ∨ ∃ i : Nat, Lib.indexByte l c = i ∧ i < l.length := by
  have h1 := Lib.indexByte_ge l c
  by_cases h : Lib.indexByte l c = -1
  · exact .inl h
  · obtain ⟨i, hi⟩ := Int.eq_ofNat_of_zero_le (show 0 ≤ Lib.indexByte l c by omega)
    refine .inr ⟨i, hi, ?_⟩
    have := (Lib.indexByte_some hi).1
    exact (List.getElem?_eq_some_iff.1 this).1
end Go.Proofs.Ytefeglkbikcjeaa

/- Slices of fractions; the contracts of tombolalaw06.Long and rat.Sum. -/
namespace Go.Proofs.Ytefeglkbikcjeaa
open Go Go.RowKit

/-- v is a slice of fractions, of which each is R -/
def Sl3 {α : Type} (R : Bool → Value → Value → α → World → Prop) (w : World) (v : Value) (Ls : List α) : Prop :=
  ∃ p c, v = .slice p Ls.length c ∧ Ls.length ≤ c ∧ c ≤ maxLen ∧ ∀ i, i < Ls.length → ∃ bl off, p = some ⟨bl, off, none⟩ ∧ bl < w.heap.size ∧
    ∀ j a, Ls[j]? = some a → ∃ b x y, w.cell? ⟨bl, off + j * 3, none⟩ = some (.bool b) ∧ w.cell? ⟨bl, off + j * 3 + 1, none⟩ = some x ∧ w.cell? ⟨bl, off + j * 3 + 2, none⟩ = some y ∧ R b x y a w
theorem sl3_1 {α : Type} {R : Bool → Value → Value → α → World → Prop} {w : World} {s : Nat} {b : Bool} {x y : Value} {a : α} (h0 : At s 0 (.bool b) w) (h1 : At s 1 x w) (h2 : At s 2 y w) (hr : R b x y a w) :
    Sl3 R w (.slice (some ⟨s, 0, none⟩) 1 1) [a] := by
  refine ⟨_, 1, rfl, Nat.le_refl _, by simp [maxLen], fun i _ => ⟨s, 0, rfl, h0.2, fun j c hj => ?_⟩⟩
  cases j with
  | zero => simp at hj; subst hj; exact ⟨b, x, y, h0.1, h1.1, h2.1, hr⟩
  | succ j => simp at hj
theorem sl3_3 {α : Type} {R : Bool → Value → Value → α → World → Prop} {w : World} {s : Nat} {b1 b2 b3 : Bool} {x1 y1 x2 y2 x3 y3 : Value} {a1 a2 a3 : α} (h0 : At s 0 (.bool b1) w) (h1 : At s 1 x1 w) (h2 : At s 2 y1 w) (hr1 : R b1 x1 y1 a1 w)
    (h3 : At s 3 (.bool b2) w) (h4 : At s 4 x2 w) (h5 : At s 5 y2 w) (hr2 : R b2 x2 y2 a2 w) (h6 : At s 6 (.bool b3) w) (h7 : At s 7 x3 w) (h8 : At s 8 y3 w) (hr3 : R b3 x3 y3 a3 w) :
    Sl3 R w (.slice (some ⟨s, 0, none⟩) 3 3) [a1, a2, a3] := by
  refine ⟨_, 3, rfl, Nat.le_refl _, by simp [maxLen], fun i _ => ⟨s, 0, rfl, h0.2, fun j c hj => ?_⟩⟩
  match j, hj with
  | 0, hj => simp at hj; subst hj; exact ⟨b1, x1, y1, h0.1, h1.1, h2.1, hr1⟩
  | 1, hj => simp at hj; subst hj; exact ⟨b2, x2, y2, h3.1, h4.1, h5.1, hr2⟩
  | 2, hj => simp at hj; subst hj; exact ⟨b3, x3, y3, h6.1, h7.1, h8.1, hr3⟩
  | j + 3, hj => simp at hj
/-- raw limbs -/
def RawT (b : Bool) (x y : Value) (a : Bool × List Nat × List Nat) (w : World) : Prop := b = a.1 ∧ Limbs w x a.2.1 ∧ Limbs w y a.2.2
def FraT (K : Nat) (b : Bool) (x y : Value) (q : Rat) (w : World) : Prop := InR w b x y K q
/-- is there more in fractions than a statement goes over? -/
def longR (Ls : List (Bool × List Nat × List Nat)) : Bool := Ls.any fun a => decide (6 < a.2.1.length) || decide (6 < a.2.2.length)
theorem longR_get {Ls : List (Bool × List Nat × List Nat)} (h : longR Ls = false) {a : Bool × List Nat × List Nat} (ha : a ∈ Ls) : a.2.1.length ≤ 6 ∧ a.2.2.length ≤ 6 := by
  have := List.any_eq_false.1 h a ha
  simp only [Bool.or_eq_true, decide_eq_true_eq] at this
  omega

noncomputable def sumR (qs : List Rat) : Rat := qs.foldl (· + ·) 0
theorem sumR_take {qs : List Rat} {i : Nat} {q : Rat} (h : qs[i]? = some q) : sumR (qs.take (i + 1)) = sumR (qs.take i) + q := by
  unfold sumR; rw [List.take_add_one, h, List.foldl_append]; rfl
theorem foldl_len {K : Nat} : ∀ (l : List Rat) (n : Nat) (s : Rat), LenR n s → (∀ q ∈ l, LenR K q) → LenR (n + l.length * (K + 1)) (l.foldl (· + ·) s)
  | [], n, s, h, _ => by simpa using h
  | q :: l, n, s, h, hl => by
    have h1 := foldl_len l (n + K + 1) (s + q) (h.add (hl q (by simp))) (fun x hx => hl x (by simp [hx]))
    refine h1.mono ?_
    simp [Nat.add_mul]; omega
theorem sumR_len {qs : List Rat} {K : Nat} (h : ∀ q ∈ qs, LenR K q) : LenR (qs.length * (K + 1) + 1) (sumR qs) := by
  have := foldl_len qs 1 0 lenR_zero h
  rw [Nat.add_comm]; exact this

/-- the round's cells -/
def Row3 (s : Nat) (b : Bool) (x y : Value) (W : World) : Prop := At s 0 (.bool b) W ∧ At s 1 x W ∧ At s 2 y W
theorem Row3.ext {s : Nat} {b : Bool} {x y : Value} {W W' : World} (h : Row3 s b x y W) (e : Ext W W') : Row3 s b x y W' := ⟨h.1.ext e, h.2.1.ext e, h.2.2.ext e⟩

end Go.Proofs.Ytefeglkbikcjeaa

/- The contract of rat.Pow; small facts for the laws. -/
namespace Go.Proofs.Ytefeglkbikcjeaa
open Go Go.RowKit

theorem pow_mk {a : Rat} {n : Nat} {c : Bool} (hc : (decide (a.num < 0) && decide (n % 2 = 1)) = c) : mkRat (sgI c (a.num.natAbs ^ n)) (a.den ^ n) = a ^ n := by
  have e : sgI c (a.num.natAbs ^ n) = (a ^ n).num := by
    rw [Rat.num_pow]
    unfold sgI
    rcases Int.lt_or_le a.num 0 with h | h
    · obtain ⟨x, hx⟩ : ∃ x : Nat, a.num = -(x : Int) := ⟨a.num.natAbs, by omega⟩
      have hx2 : a.num.natAbs = x := by omega
      have e2 : (-(x : Int)) ^ 2 = (x : Int) ^ 2 := by simp [Int.pow_succ, Int.neg_mul_neg]
      rcases Nat.mod_two_eq_zero_or_one n with hp | hp
      · have : c = false := by rw [← hc, hp]; simp
        subst this
        rw [hx2, hx]
        simp only [Bool.false_eq_true, if_false]
        obtain ⟨m, rfl⟩ : ∃ m, n = 2 * m := ⟨n / 2, by omega⟩
        rw [Int.natCast_pow, Int.pow_mul, Int.pow_mul, e2]
      · have : c = true := by rw [← hc, hp]; simp [h]
        subst this
        rw [hx2, hx]
        simp only [if_true]
        obtain ⟨m, rfl⟩ : ∃ m, n = 2 * m + 1 := ⟨n / 2, by omega⟩
        rw [Int.natCast_pow, Int.pow_succ, Int.pow_succ, Int.pow_mul, Int.pow_mul, e2, Int.mul_neg]
    · have : c = false := by rw [← hc]; simp [Int.not_lt.2 h]
      subst this
      simp only [Bool.false_eq_true, if_false]
      rw [Int.natCast_pow, Int.natAbs_of_nonneg h]
  rw [e, ← Rat.den_pow, Rat.mkRat_self]

theorem Sl3.gr {K : Nat} {w w' : World} {v : Value} {qs : List Rat} (h : Sl3 (FraT K) w v qs) (g : Gr w w') {s : Nat} (hv : ∀ p n c, v = .slice p n c → ∀ bl off, p = some ⟨bl, off, none⟩ → bl = s) (hs : w'.heap[s]? = w.heap[s]?) : Sl3 (FraT K) w' v qs := by
  obtain ⟨p, c, rfl, h1, h2, h3⟩ := h
  refine ⟨p, c, rfl, h1, h2, fun i hi => ?_⟩
  obtain ⟨bl, off, rfl, hbl, hc⟩ := h3 i hi
  obtain rfl := hv _ _ _ rfl bl off rfl
  refine ⟨bl, off, rfl, Nat.lt_of_lt_of_le hbl g.size, fun j a hj => ?_⟩
  obtain ⟨b, x, y, c0, c1, c2, hr⟩ := hc j a hj
  exact ⟨b, x, y, by rw [← c0]; exact World.cell?_of_block (w := w) hs, by rw [← c1]; exact World.cell?_of_block (w := w) hs, by rw [← c2]; exact World.cell?_of_block (w := w) hs, InR.gr hr g⟩
/-- three fractions in a new block -/
def Sg.fra3 (K : Nat) (q1 q2 q3 : Rat) : Sg := ⟨fun v w => ∃ s, v = .slice (some ⟨s, 0, none⟩) 3 3 ∧ (∃ C t, w.heap[s]? = some (.cells C t (0, 0)) ∧ C.size = 9) ∧ Sl3 (FraT K) w (.slice (some ⟨s, 0, none⟩) 3 3) [q1, q2, q3], fun v w w' ⟨s, h, ⟨C, t, h1, h2⟩, h3⟩ g => by
  have e : w'.heap[s]? = w.heap[s]? := by
    rcases g.blk s (Array.getElem?_eq_some_iff.1 h1).1 with e | ⟨n, ⟨cur, t', k1, ⟨k2, k3⟩, -⟩, -⟩
    · exact e
    · rw [h1] at k1
      injection k1 with k1
      injection k1 with k1
      subst k1
      omega
  refine ⟨s, h, ⟨C, t, by rw [e]; exact h1, h2⟩, h3.gr g (s := s) (fun p n c hv bl off hp => ?_) e⟩
  injection hv with hv
  rw [hp] at hv
  injection hv with hv
  injection hv with hv
  exact hv.symm⟩
theorem ncmp_n {w : World} {v u : Value} {k l m n : Nat} (h : InN w v k m) (g : InN w u l n) (hk : k ≤ 65535) (hl : l ≤ 65535) (s : Int) (hs : cmpN m n = s) : Calls Try.prog 70 #[v, u] w fun e w' => e = .returned (.int .i64 s) ∧ Ext w w' := by
  obtain ⟨A, h1, rfl, h3⟩ := h
  obtain ⟨B, g1, rfl, g3⟩ := g
  refine (cmp_int h1 g1 (lmax_17 (by omega)) (lmax_17 (by omega)) s hs).mono ?_
  rintro e w' ⟨e1, rfl⟩
  exact ⟨e1, Ext.refl _⟩
/-- a literal natural -/
theorem inI_mk {w : World} {v : Value} {k n : Nat} (h : InN w v k n) (b : Bool) : InI w b v k (sgI b n) := by
  obtain ⟨A, h1, rfl, h3⟩ := h
  exact ⟨A, h1, rfl, h3⟩
theorem lit_n0 {w : World} {C : Array Value} (A : List Nat) (hA : ∀ x ∈ A, x ≤ 65535) (hC : C.toList = A.map lv) (n : Nat) (hn : n = A.length) (hl : A.length ≤ 100) : Limbs (w.alloc (.cells C 49)) (.slice (some ⟨w.heap.size, 0, none⟩) n n) A :=
  litn w A (fun x hx => small_Bs (hA x hx)) C hC n hn hl
theorem lit_n1 {w : World} {o1 : Obj} {C : Array Value} (A : List Nat) (hA : ∀ x ∈ A, x ≤ 65535) (hC : C.toList = A.map lv) (n : Nat) (hn : n = A.length) (hl : A.length ≤ 100) : Limbs ((w.alloc o1).alloc (.cells C 49)) (.slice (some ⟨w.heap.size + 1, 0, none⟩) n n) A := by
  have := lit_n0 (w := w.alloc o1) A hA hC n hn hl; simpa using this
theorem lit_n2 {w : World} {o1 o2 : Obj} {C : Array Value} (A : List Nat) (hA : ∀ x ∈ A, x ≤ 65535) (hC : C.toList = A.map lv) (n : Nat) (hn : n = A.length) (hl : A.length ≤ 100) : Limbs (((w.alloc o1).alloc o2).alloc (.cells C 49)) (.slice (some ⟨w.heap.size + 1 + 1, 0, none⟩) n n) A := by
  have := lit_n1 (w := w.alloc o1) (o1 := o2) A hA hC n hn hl; simpa using this
theorem lit_n3 {w : World} {o1 o2 o3 : Obj} {C : Array Value} (A : List Nat) (hA : ∀ x ∈ A, x ≤ 65535) (hC : C.toList = A.map lv) (n : Nat) (hn : n = A.length) (hl : A.length ≤ 100) : Limbs ((((w.alloc o1).alloc o2).alloc o3).alloc (.cells C 49)) (.slice (some ⟨w.heap.size + 1 + 1 + 1, 0, none⟩) n n) A := by
  have := lit_n2 (w := w.alloc o1) (o1 := o2) (o2 := o3) A hA hC n hn hl; simpa using this
theorem lit_in {w : World} {v : Value} {n : Nat} (h : Limbs w v [n]) : InN w v 1 n := ⟨[n], h, by simp [val], by simp⟩
theorem lit_dig {w : World} {v : Value} {n : Nat} (h : Limbs w v [n]) (h0 : n ≠ 0) (h1 : n ≤ 65535) : Limbs w v (dig n) := by rw [dig_one (small_Bs h1) (Nat.pos_of_ne_zero h0)]; exact h
theorem lenR_over {n d : Int} {q : Rat} (h1 : -9223372036854775808 ≤ n) (h2 : n ≤ 9223372036854775807) (h3 : -9223372036854775808 ≤ d) (h4 : d ≤ 9223372036854775807) (hq : Rat.divInt n d = q) : LenR 1 q := by
  have e := over_mk (n := n) (d := d) rfl rfl hq
  rw [← e]
  refine LenR.mk (Nat.le_refl _) ?_ ?_
  · rw [sgI_abs]; exact LenI.small (z := n) (by omega)
  · exact LenI.small (z := d) (by omega)
end Go.Proofs.Ytefeglkbikcjeaa
