/- Contracts of package nat, first part. -/
import Derived.Test.YtomhfipgabpfiaaGreatDoorWord
namespace Go.Proofs.YtomhfipgabpfiaaGreatDoor
open Go Go.RowKit

/-- the limb at a place, 0 outside -/
def limbAt (A : List Nat) (i : Int) : Nat := if i < 0 then 0 else el A i.toNat
theorem limbAt_neg {A : List Nat} {i : Int} (h : i < 0) : limbAt A i = 0 := by simp [limbAt, h]
theorem limbAt_ge {A : List Nat} {i : Int} (h : (A.length : Int) ≤ i) : limbAt A i = 0 := by
  unfold limbAt; split
  · rfl
  · exact el_of_ge (by omega)
theorem limbAt_nat (A : List Nat) (n : Nat) : limbAt A (n : Int) = el A n := by unfold limbAt; rw [if_neg (by omega)]; rfl
theorem limbAt_lt {A : List Nat} (h : ∀ x ∈ A, x < Bs) (i : Int) : limbAt A i < Bs := by
  unfold limbAt; split
  · exact Bs_pos
  · exact el_lt h _

set_option maxHeartbeats 400000 in
theorem limb_calls {w : World} {v : Value} {A : List Nat} (hA : Limbs w v A) (i : Int) :
    Calls Tryz.prog 80 #[v, .int .i64 i] w fun e w' => e = .returned (.int .u64 (limbAt A i : Nat)) ∧ w = w' := by
  obtain ⟨a, cap, rfl, h1, h2, h3⟩ := hA.open
  unfold maxLen at h2
  by_cases hi : i < 0
  · have H := Lib.hid (limbAt_neg (A := A) hi)
    go_enter Tryz.func80, Tryz.ntmps80
    go_wp2
    go_ret
    exact ⟨ret_eq (int_eq (by rw [H.out]; rfl)), rfl⟩
  by_cases hj : (A.length : Int) ≤ i
  · have H := Lib.hid (limbAt_ge (A := A) hj)
    go_enter Tryz.func80, Tryz.ntmps80
    go_wp2
    go_ret
    exact ⟨ret_eq (int_eq (by rw [H.out]; rfl)), rfl⟩
  obtain ⟨n, rfl⟩ := Int.eq_ofNat_of_zero_le (Int.not_lt.1 hi)
  obtain ⟨b, o, rfl, hb, hc⟩ := h3 n (by omega)
  have hcell := hc n (by omega)
  have H := Lib.hid (limbAt_nat A n)
  clear hc h3
  go_enter Tryz.func80, Tryz.ntmps80
  go_wp2
  go_ret
  exact ⟨ret_eq (int_eq (by rw [H.out])), rfl⟩

/-- the call returns A in new memory -/
def RetL (w : World) (A : List Nat) (e : Ending) (w' : World) : Prop := ∃ v, e = .returned v ∧ OwnL w.heap.size w' v A ∧ Ext w w'

theorem nat_eq_nil (W : World) (a : Option Addr) (n c : Nat) : (binOp .eql 23 (.slice a n c) (.slice none 0 0)).run Tryz.prog W = .ok (.bool a.isNone) W :=
  Lib.run_eql_slice_nil W 23 46 a n c 0 0 Tryz.underlying23

set_option maxHeartbeats 400000 in
theorem clone_calls {w : World} {v : Value} {A : List Nat} (hA : Limbs w v A) (hlen : A.length ≤ Lmax) :
    Calls Tryz.prog 81 #[v] w (RetL w A) := by
  obtain ⟨a, cap, rfl, h1, h2, h3⟩ := hA.open
  have heq := fun W => nat_eq_nil W a A.length cap
  have HL := Lib.hid hlen
  have H3 := Lib.hid h3
  clear hlen h3 h1 h2
  cases a with
  | none =>
    have hn : A = [] := by
      cases A with
      | nil => rfl
      | cons x A => obtain ⟨b, o, e, _⟩ := H3.out 0 (by simp); cases e
    subst hn
    clear heq
    have heq := fun W => nat_eq_nil W none 0 cap
    go_enter Tryz.func81, Tryz.ntmps81
    go_wp2
    go_ret
    exact ⟨_, rfl, OwnL.nil _ _, Ext.refl _⟩
  | some p =>
    go_enter Tryz.func81, Tryz.ntmps81
    go_wp2_with (at_builtin; refine append_limbs rfl _ _ 23 Tryz.underlying23 rfl w.heap.size _ 0 [] rfl (World.ownsRow_made w #[] 0 (Nat.le_refl _) (Nat.zero_le _) rfl) (by simp) _ A rfl (hA.ext ((Ext.refl w).alloc _)) (by rw [Nat.zero_add]; exact HL.out) ?_; intro v' w' hown' hgrow)
    go_ret
    refine ⟨_, rfl, ⟨.inl (by simpa using hown'), hA.2⟩, ((Ext.refl w).alloc _).grown hgrow (fun k hk => by cases hk; exact Nat.le_refl _)⟩

/-- where the 0s at the end begin -/
theorem trim_read {A : List Nat} (h : ∀ x ∈ A, x < Bs) {n : Nat} (hn : n ≤ A.length) (h0 : ∀ i, n ≤ i → el A i = 0) (hl : n = 0 ∨ el A (n - 1) ≠ 0) :
    A.take n = dig (val A) := (dig_take h hn h0 hl).symm

theorem Limbs.take {w : World} {a : Option Addr} {A : List Nat} {cap : Nat} (h : Limbs w (.slice a A.length cap) A) {n : Nat} (hn : n ≤ A.length) : Limbs w (.slice a n cap) (A.take n) := by
  obtain ⟨⟨h1, a', cap', h2, h3, h4, h5, h6⟩, h7⟩ := h
  cases h2
  have hl : (A.take n).length = n := by simp; omega
  refine ⟨⟨by simp, a, cap, by rw [hl], by omega, h4, fun e => ?_, fun p hp h0 => ?_⟩, fun x hx => h7 x (List.mem_of_mem_take hx)⟩
  · have := h5 e; omega
  · obtain ⟨q1, q2, q3⟩ := h6 p hp (by omega)
    refine ⟨q1, q2, fun j hj => ?_⟩
    have hj' : j < A.length := by simp at hj; omega
    rw [q3 j (by simpa using hj')]
    simp

set_option maxHeartbeats 400000 in
theorem trim_calls {w : World} {v : Value} {A : List Nat} (hA : Limbs w v A) (hlen : A.length ≤ Lmax) :
    Calls Tryz.prog 49 #[v] w (RetNat w (val A)) := by
  obtain ⟨a, cap, rfl, h1, h2, h3⟩ := hA.open
  unfold maxLen at h2
  have HL := Lib.hid hlen
  have H3 := Lib.hid h3
  clear hlen h3
  go_enter Tryz.func49, Tryz.ntmps49
  go_wp2
  go_loop [3] (fun v3 => ∃ n : Nat, v3 = .int .i64 (n : Int) ∧ n ≤ A.length ∧ (∀ i, n ≤ i → el A i = 0)) (fun v3 => (intOf v3).toNat)
  case atStart => exact ⟨A.length, rfl, Nat.le_refl _, fun i hi => el_of_ge hi⟩
  case round =>
    obtain ⟨n, rfl, hn, hz⟩ := hrel
    have HZ := Lib.hid hz
    clear hz
    have hsl := hA.take hn
    have HT : Hid ((A.take n).length ≤ Lmax) := Nat.le_trans (by simp; omega) HL.out
    by_cases h0 : n = 0
    · have HF := Lib.hid (trim_read hA.2 hn HZ.out (.inl h0))
      subst h0
      go_wp2_with (go_at_call 81; refine (clone_calls hsl HT.out).mono ?_; rintro e w' ⟨v', rfl, hv, hx⟩)
      go_ret
      exact ⟨_, rfl, by rw [← HF.out]; exact hv, hx⟩
    · obtain ⟨b, o, rfl, hb, hc⟩ := H3.out (n - 1) (by omega)
      have hcell := hc (n - 1) (by omega)
      clear hc
      have HE : Hid ((((el A (n - 1) : Nat) : Int) == 0) = false → A.take n = dig (val A)) := fun h => trim_read hA.2 hn HZ.out (.inr (by simpa using h))
      go_wp2_with (go_at_call 81; refine (clone_calls hsl HT.out).mono ?_; rintro e w' ⟨v', rfl, hv, hx⟩)
      · rename_i hz
        refine ⟨⟨n - 1, by simp; omega, by omega, fun i hi => ?_⟩, by simp [intOf]; omega⟩
        by_cases hi' : n ≤ i
        · exact HZ.out i hi'
        · obtain rfl : i = n - 1 := by omega
          simpa using hz
      · rename_i hz _
        go_ret
        exact ⟨_, rfl, by rw [← HE.out hz]; exact hv, hx⟩

theorem limbs_lit (w : World) (A : List Nat) (hA : ∀ x ∈ A, x < Bs) (C : Array Value) (hC : C.toList = A.map lv) (n : Nat) (hn : n = A.length) (hl : A.length ≤ Lmax) :
    Limbs (w.alloc (.cells C 46)) (.slice (some ⟨w.heap.size, 0, none⟩) n n) A := by
  subst hn
  refine ⟨⟨by simp, _, _, rfl, Nat.le_refl _, (lmax_fits hl).1, fun e => (by cases e), fun p hp _ => ?_⟩, hA⟩
  obtain rfl := Option.some.inj hp
  refine ⟨rfl, by simp, fun j hj => ?_⟩
  have hs : C.size = A.length := by rw [← Array.length_toList, hC]; simp
  have hj' : j < C.size := by rw [hs]; simpa using hj
  have e : C[j] = (A.map lv)[j] := by rw [← Array.getElem_toList hj']; simp [hC]
  rw [cell_of_row _ w.heap.size _ C 46 (0, 0) (heap_alloc_new w _), Nat.zero_add, Array.getElem?_eq_getElem hj', e]

theorem RetNat.of_ext {w w1 : World} {n : Nat} {e : Ending} {w' : World} (h : RetNat w1 n e w') (k : Ext w w1) : RetNat w n e w' := by
  obtain ⟨v, rfl, h1, h2⟩ := h
  exact ⟨v, rfl, h1.mono k.size, k.trans h2⟩

theorem of_calls {w : World} {n : Nat} (hn : n < Bs) :
    Calls Tryz.prog 44 #[.int .u64 (n : Int)] w (RetNat w n) := by
  have hL : Limbs (w.alloc (.cells #[.int .u64 (n : Int)] 46)) (.slice (some ⟨w.heap.size, 0, none⟩) 1 1) [n] :=
    limbs_lit w [n] (by simpa using hn) _ rfl 1 rfl (by rw [Lmax_def]; simp)
  have hl : Hid ([n].length ≤ Lmax) := by show 1 ≤ Lmax; rw [Lmax_def]; omega
  have hv : Hid (val [n] = n) := by show val [n] = n; simp [val]
  have HN := Lib.hid hn
  clear hn
  go_enter Tryz.func44, Tryz.ntmps44
  go_wp2_with (go_at_call 49; refine (trim_calls hL hl.out).mono ?_; rintro e w' ⟨v', rfl, hr, hx⟩)
  go_ret
  rw [hv.out] at hr
  exact RetNat.of_ext ⟨_, rfl, hr, hx⟩ ((Ext.refl w).alloc _)

set_option maxHeartbeats 400000 in
theorem natlen_calls {w : World} {v : Value} {A : List Nat} (hA : Limbs w v A) (hlen : A.length ≤ Lmax) :
    Calls Tryz.prog 75 #[v] w fun e w' => e = .returned (.int .i64 (bl (val A) : Nat)) ∧ w = w' := by
  obtain ⟨a, cap, rfl, h1, h2, h3⟩ := hA.open
  unfold maxLen at h2
  have HL := Lib.hid hlen
  have H3 := Lib.hid h3
  clear hlen h3
  go_enter Tryz.func75, Tryz.ntmps75
  go_wp2
  go_loop [3] (fun v3 => ∃ n : Nat, v3 = .int .i64 ((n : Int) - 1) ∧ n ≤ A.length ∧ (∀ i, n ≤ i → el A i = 0)) (fun v3 => (intOf v3 + 1).toNat)
  case atStart => exact ⟨A.length, rfl, Nat.le_refl _, fun i hi => el_of_ge hi⟩
  case round =>
    obtain ⟨n, rfl, hn, hz⟩ := hrel
    have HZ := Lib.hid hz
    clear hz
    by_cases h0 : n = 0
    · subst h0
      have HE : Hid (bl (val A) = 0) := by
        show bl (val A) = 0
        rw [val_zero_of (fun i => HZ.out i (Nat.zero_le _))]; rfl
      go_wp2
      go_ret
      exact ⟨ret_eq (int_eq (by rw [HE.out]; rfl)), rfl⟩
    · obtain ⟨m, rfl⟩ : ∃ m, n = m + 1 := ⟨n - 1, by omega⟩
      obtain ⟨b, o, rfl, hb, hc⟩ := H3.out m (by omega)
      have hcell := hc m (by omega)
      have hlt := hA.lt m
      have hb64 := bl_le_64 hlt
      have hm40 : m ≤ 1099511627776 := by have := HL.out; rw [Lmax_def] at this; omega
      clear hc
      have HB : Hid (el A m ≠ 0 → bl (val A) = m * 64 + bl (el A m)) := fun h => bl_val hA.2 HZ.out h
      go_wp2_with (go_at_call 69; refine (len_calls _ _ hlt).mono ?_; rintro e w' ⟨rfl, rfl⟩)
      · rename_i hq _
        go_ret
        refine ⟨ret_eq (int_eq ?_), rfl⟩
        rw [HB.out (by simpa using hq)]
        simp
      · rename_i hq
        refine ⟨⟨m, rfl, by omega, fun i hi => ?_⟩, by simp [intOf]⟩
        by_cases hi' : m + 1 ≤ i
        · exact HZ.out i hi'
        · obtain rfl : i = m := by omega
          simpa using hq

theorem cmpN_zero (n : Nat) : (n = 0) = (n < 1) := by simp

theorem beq_bl (n : Nat) : (((bl n : Nat) : Int) == 0) = decide (n = 0) := by
  rw [Bool.eq_iff_iff]
  have := bl_eq_zero n
  simp only [beq_iff_eq, decide_eq_true_eq]
  omega

set_option maxHeartbeats 400000 in
theorem zero_calls {w : World} {v : Value} {A : List Nat} (hA : Limbs w v A) (hlen : A.length ≤ Lmax) :
    Calls Tryz.prog 42 #[v] w fun e w' => e = .returned (.bool (decide (val A = 0))) ∧ w = w' := by
  have HE := Lib.hid (bl_eq_zero (val A))
  have HL := Lib.hid hlen
  clear hlen
  go_enter Tryz.func42, Tryz.ntmps42
  go_wp2_with (go_at_call 75; refine (natlen_calls hA HL.out).mono ?_; rintro e w' ⟨rfl, rfl⟩)
  go_ret
  refine ⟨ret_eq ?_, rfl⟩
  show Value.bool (((bl (val A) : Nat) : Int) == 0) = _
  rw [beq_bl]

/-- what is told of a natural as a number -/
noncomputable def smallN (n : Nat) : Nat := if n < Bs then n else 0

theorem val_small {A : List Nat} (h : val A < Bs) : el A 0 = val A := by
  cases A with
  | nil => rfl
  | cons x A =>
    rw [val] at h ⊢
    have : val A = 0 := by
      rcases Nat.eq_zero_or_pos (val A) with g | g
      · exact g
      · have := Nat.le_mul_of_pos_right Bs g; omega
    rw [this]; simp [el]

set_option maxHeartbeats 400000 in
theorem small_calls {w : World} {v : Value} {A : List Nat} (hA : Limbs w v A) (hlen : A.length ≤ Lmax) :
    Calls Tryz.prog 47 #[v] w fun e w' => e = .returned (.tuple #[.int .u64 (smallN (val A) : Nat), .bool (decide (val A < Bs))]) ∧ w = w' := by
  have HL := Lib.hid hlen
  have hb := bl_le_iff (val A) 64
  rw [← Bs_eq] at hb
  clear hlen
  by_cases h : val A < Bs
  · have h64 : bl (val A) ≤ 64 := hb.2 h
    have HE : Hid (((limbAt A 0 : Nat) : Int) = (smallN (val A) : Nat)) := by
      show ((limbAt A 0 : Nat) : Int) = (smallN (val A) : Nat)
      rw [show limbAt A 0 = limbAt A ((0 : Nat) : Int) from rfl, limbAt_nat, smallN, if_pos h, val_small h]
    have HD : Hid (decide (val A < Bs) = true) := by show decide _ = true; simpa using h
    clear hb h
    go_enter Tryz.func47, Tryz.ntmps47
    go_wp2_with (first | (go_at_call 75; refine (natlen_calls hA HL.out).mono ?_; rintro e w' ⟨rfl, rfl⟩) | (go_at_call 80; refine (limb_calls hA 0).mono ?_; rintro e w' ⟨rfl, rfl⟩))
    go_ret2
    exact ⟨ret_eq (by rw [HD.out, ← HE.out]; rfl), rfl⟩
  · have h64 : ¬ bl (val A) ≤ 64 := fun g => h (hb.1 g)
    have HE : Hid (smallN (val A) = 0) := by show smallN (val A) = 0; rw [smallN, if_neg h]
    have HD : Hid (decide (val A < Bs) = false) := by show decide _ = false; simpa using h
    clear hb h
    go_enter Tryz.func47, Tryz.ntmps47
    go_wp2_with (first | (go_at_call 75; refine (natlen_calls hA HL.out).mono ?_; rintro e w' ⟨rfl, rfl⟩) | (go_at_call 80; refine (limb_calls hA 0).mono ?_; rintro e w' ⟨rfl, rfl⟩))
    go_ret2
    exact ⟨ret_eq (by rw [HD.out, HE.out]; rfl), rfl⟩

set_option maxHeartbeats 400000 in
theorem cmp_calls {w : World} {v u : Value} {A B : List Nat} (hA : Limbs w v A) (hB : Limbs w u B) (hlA : A.length ≤ Lmax) (hlB : B.length ≤ Lmax) :
    Calls Tryz.prog 51 #[v, u] w fun e w' => e = .returned (.int .i64 (cmpN (val A) (val B))) ∧ w = w' := by
  obtain ⟨a, cap, rfl, h1, h2, h3⟩ := hA.open
  obtain ⟨b, cap', rfl, g1, g2, g3⟩ := hB.open
  have HL := Lib.hid hlA
  have HL' := Lib.hid hlB
  unfold maxLen at h2 g2
  clear h3 g3 hlA hlB
  go_enter Tryz.func51, Tryz.ntmps51
  go_wp2_with fail
  go_loop [5] (fun v5 => ∃ n : Nat, v5 = .int .i64 ((n : Int) - 1) ∧ n ≤ max A.length B.length ∧ (∀ i, n ≤ i → el A i = el B i)) (fun v5 => (intOf v5 + 1).toNat)
  case atStart => exact ⟨max A.length B.length, by simp; omega, Nat.le_refl _, fun i hi => by rw [el_of_ge (by omega), el_of_ge (by omega)]⟩
  case round =>
    obtain ⟨n, rfl, hn, hz⟩ := hrel
    have HZ := Lib.hid hz
    clear hz
    by_cases h0 : n = 0
    · subst h0
      have HE : Hid (cmpN (val A) (val B) = 0) := cmpN_eq (val_eq_of_el (fun j => HZ.out j (Nat.zero_le _)))
      go_wp2_with fail
      go_ret
      exact ⟨ret_eq (int_eq (by rw [HE.out])), rfl⟩
    · obtain ⟨m, rfl⟩ : ∃ m, n = m + 1 := ⟨n - 1, by omega⟩
      have hltA := hA.lt m
      have hltB := hB.lt m
      have H1 : Hid (el A m < el B m → cmpN (val A) (val B) = -1) := fun h => cmpN_lt (val_lt_of_el hA.2 (fun j hj => HZ.out j hj) h)
      have H2 : Hid (el B m < el A m → cmpN (val A) (val B) = 1) := fun h => cmpN_gt (val_lt_of_el hB.2 (fun j hj => (HZ.out j hj).symm) h)
      go_wp2_with (go_at_call 80; first | ((with_reducible refine (limb_calls hA _).mono ?_); rintro e w' ⟨rfl, rfl⟩; rw [limbAt_nat]) | ((with_reducible refine (limb_calls hB _).mono ?_); rintro e w' ⟨rfl, rfl⟩; rw [limbAt_nat]))
      · rename_i hq
        go_ret
        exact ⟨ret_eq (int_eq (by rw [H1.out (by omega)])), rfl⟩
      · rename_i hp hq
        go_ret
        exact ⟨ret_eq (int_eq (by rw [H2.out (by omega)])), rfl⟩
      · rename_i hp hq
        refine ⟨⟨m, rfl, by omega, fun i hi => ?_⟩, by simp [intOf]⟩
        by_cases hi' : m + 1 ≤ i
        · exact HZ.out i hi'
        · obtain rfl : i = m := by omega
          omega
end Go.Proofs.YtomhfipgabpfiaaGreatDoor
