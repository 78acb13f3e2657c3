/- Contracts of package tombolaref02: Of, Add. -/
import Derived.Test.YtefeglkbikcjeaaGreatDoorPartA
namespace Go.Proofs.YtefeglkbikcjeaaGreatDoor
open Go Go.RowKit

set_option maxHeartbeats 400000 in
theorem refof_calls {w : World} {n : Nat} (hn : n < Bs) :
    Calls Tryz.prog 67 #[.int .u64 (n : Int)] w (RetNat w n) := by
  have hL : Limbs (w.alloc (.cells #[.int .u64 (n : Int)] 61)) (.slice (some ⟨w.heap.size, 0, none⟩) 1 1) [n] :=
    limbs_lit w [n] (by simpa using hn) _ rfl 1 rfl (by rw [Lmax_def]; simp)
  have hv : Hid (val [n] = n) := by show val [n] = n; simp [val]
  clear hn
  go_enter Tryz.func67, Tryz.ntmps67
  go_wp2_with fail
  refine (reftrim_calls hL (by simp)).mono ?_
  rintro e w1 ⟨r, rfl, hr, x1⟩
  rw [hv.out] at hr
  go_wp2_with fail
  go_ret
  exact RetNat.of_ext ⟨r, rfl, hr, x1⟩ ((Ext.refl w).alloc _)

/-- what the first i digits are worth -/
noncomputable def v16To (X : List Nat) : Nat → Nat
  | 0 => 0
  | k + 1 => v16To X k + 65536 ^ k * el X k
theorem v16To_take (X : List Nat) (k : Nat) : v16To X k = v16 (X.take k) := by
  induction k with
  | zero => simp [v16To, v16_nil]
  | succ k ih =>
    rw [v16To, ih]
    by_cases h : k < X.length
    · rw [List.take_succ_eq_append_getElem h, v16_append, el_of_lt h, List.length_take, Nat.min_eq_left (by omega), v16_cons, v16_nil]
      simp
    · rw [el_of_ge (by omega), List.take_of_length_le (by omega : X.length ≤ k), List.take_of_length_le (by omega : X.length ≤ k + 1)]
      simp
theorem v16To_all {X : List Nat} {k : Nat} (h : X.length ≤ k) : v16To X k = v16 X := by rw [v16To_take, List.take_of_length_le h]
theorem v16To_lt {X : List Nat} (h : ∀ x ∈ X, x < 65536) (k : Nat) : v16To X k < 65536 ^ k := by
  induction k with
  | zero => simp [v16To]
  | succ k ih =>
    have h1 := el_16 h k
    have h2 := Nat.mul_le_mul_left (65536 ^ k) (Nat.succ_le_of_lt h1)
    rw [v16To, Nat.pow_succ]
    rw [Nat.mul_succ] at h2
    omega

/-- what holds in the rounds of a sum -/
structure SumInv (X Y : List Nat) (i c : Nat) (C : List Nat) : Prop where
  len : C.length = i
  lt : ∀ x ∈ C, x < 65536
  c_le : c ≤ 1
  val_eq : v16 C + 65536 ^ i * c = v16To X i + v16To Y i
theorem SumInv.start (X Y : List Nat) : SumInv X Y 0 0 [] := ⟨rfl, (fun x hx => by cases hx), by omega, by simp [v16To, v16_nil]⟩
theorem snoc_lt {C : List Nat} (h : ∀ x ∈ C, x < 65536) {y : Nat} (hy : y < 65536) : ∀ x ∈ C ++ [y], x < 65536 := by
  intro x hx
  rcases List.mem_append.1 hx with hx | hx
  · exact h x hx
  · rw [List.mem_singleton.1 hx]; exact hy
theorem SumInv.next {X Y : List Nat} {i c s : Nat} {C : List Nat} (h : SumInv X Y i c C) (hX : ∀ x ∈ X, x < 65536) (hY : ∀ x ∈ Y, x < 65536) (hs : s = c + el X i + el Y i) :
    SumInv X Y (i + 1) (s / 65536) (C ++ [s % 65536]) := by
  have h1 := el_16 hX i
  have h2 := el_16 hY i
  have h3 := h.c_le
  refine ⟨by rw [List.length_append, h.len]; rfl, snoc_lt h.lt (Nat.mod_lt _ (by omega)), by omega, ?_⟩
  have e : s % 65536 + 65536 * (s / 65536) = c + el X i + el Y i := by rw [← hs]; exact Nat.mod_add_div _ _
  have h4 := h.val_eq
  rw [v16_append, v16_cons, v16_nil, h.len, v16To, v16To, Nat.pow_succ, Nat.mul_assoc]
  have h5 : 65536 ^ i * (s % 65536 + 65536 * (s / 65536)) = 65536 ^ i * (c + el X i + el Y i) := by rw [e]
  simp only [Nat.mul_add, Nat.mul_zero, Nat.add_zero] at h5 ⊢
  omega
theorem SumInv.fin {X Y : List Nat} {i : Nat} {C : List Nat} (h : SumInv X Y i 0 C) (h1 : X.length ≤ i) (h2 : Y.length ≤ i) : v16 C = v16 X + v16 Y := by
  have := h.val_eq
  rw [v16To_all h1, v16To_all h2] at this
  simpa using this

/-- a digit's load, in whatever world that came behind -/
theorem Limbs.at {w wr : World} {a : Option Addr} {n c : Nat} {A : List Nat} (h : Limbs w (.slice a n c) A) (_hn : n = A.length) (hx : Ext w wr) {i : Nat} (hi : i < A.length) :
    ∃ b o, a = some ⟨b, o, none⟩ ∧ wr.cell? ⟨b, o + i, none⟩ = some (.int .u64 (el A i : Nat)) := by
  obtain ⟨a', cap', he, -, -, h3⟩ := h.open
  injection he with e1 e2 e3
  subst e1
  obtain ⟨b, o, e, hb, hc⟩ := h3 i hi
  exact ⟨b, o, e, by rw [Below.cell hx (p := ⟨b, o + i, none⟩) hb]; exact hc i hi⟩

theorem OutMem.grow1 {w : World} {C : List Nat} {v : Value} {wr : World} (h : OutMem w C v wr) {x : Nat} {v' : Value} {w' : World} {o : Obj} (h1 : w'.ownsRow w.heap.size 61 1 v' (C.length + [x].length) (C.map lv ++ [x].map lv)) (hg : (wr.alloc o).grownBy w' v.ownBlock) :
    OutMem w (C ++ [x]) v' w' := h.grow ((Ext.refl wr).alloc o) h1 hg

set_option maxHeartbeats 2000000 in
set_option maxRecDepth 100000 in
theorem refadd_calls {w : World} {v u : Value} {A B : List Nat} (hA : Limbs w v A) (hB : Limbs w u B) (hlA : A.length ≤ 65536) (hlB : B.length ≤ 65536) :
    Calls Tryz.prog 66 #[v, u] w (RetNat w (val A + val B)) := by
  obtain ⟨X, hX⟩ : ∃ X, X = dig16 (val A) := ⟨_, rfl⟩
  obtain ⟨Y, hY⟩ : ∃ Y, Y = dig16 (val B) := ⟨_, rfl⟩
  have HX16 : Hid (∀ x ∈ X, x < 65536) := by rw [hX]; exact dig16_lt _
  have HY16 : Hid (∀ x ∈ Y, x < 65536) := by rw [hY]; exact dig16_lt _
  have HXV : Hid (v16 X = val A) := by show _ = _; rw [hX, v16_dig16]
  have HYV : Hid (v16 Y = val B) := by show _ = _; rw [hY, v16_dig16]
  have lX : X.length ≤ 262144 := by rw [hX]; exact Nat.le_trans (dig16_len hA.2) (by omega)
  have lY : Y.length ≤ 262144 := by rw [hY]; exact Nat.le_trans (dig16_len hB.2) (by omega)
  have HX := Lib.hid hX
  have HY := Lib.hid hY
  clear hX hY
  go_enter Tryz.func66, Tryz.ntmps66
  go_wp2_with fail
  refine (refdigits_calls hA (digits_room hlA)).mono ?_
  rintro e w1 ⟨x, rfl, hx, x1⟩
  rw [← HX.out] at hx
  go_wp2_with fail
  refine (refdigits_calls (hB.ext x1) (digits_room hlB)).mono ?_
  rintro e w2 ⟨y, rfl, hy, x2⟩
  rw [← HY.out] at hy
  obtain ⟨xa, xc, rfl, -, -, -⟩ := hx.open
  obtain ⟨ya, yc, rfl, -, -, -⟩ := hy.open
  have lXi : (X.length : Int) ≤ 262144 := by omega
  have lYi : (Y.length : Int) ≤ 262144 := by omega
  have LX := Lib.hid lX
  have LY := Lib.hid lY
  clear lX lY hlA hlB
  go_wp2_with fail
  go_loopw [7, 8, 9] (fun v7 v8 v9 wr => ∃ (i c : Nat) (C : List Nat), v9 = .int .i64 (i : Int) ∧ v8 = .int .u64 (c : Int) ∧ ((i : Int) ≤ 262145 ∧ Hid (c = 0 ∨ i ≤ max X.length Y.length)) ∧ Hid (SumInv X Y i c C) ∧ OutMem w2 C v7 wr) (fun _ v8 v9 _ => 2 * (max X.length Y.length - (intOf v9).toNat) + (intOf v8).toNat)
  case atStart => exact ⟨0, 0, [], rfl, rfl, ⟨by omega, .inl rfl⟩, SumInv.start X Y, OutMem.nil w2⟩
  case round =>
    obtain ⟨i, c, C, rfl, rfl, ⟨hi, hcm⟩, hS, hI⟩ := hrel
    have hc := hS.out.c_le
    have hci : (c : Int) ≤ 1 := by omega
    obtain ⟨s, hs⟩ : ∃ s, s = c + el X i + el Y i := ⟨_, rfl⟩
    have hx16 := el_16 HX16.out i
    have hy16 := el_16 HY16.out i
    have hsB : (s : Int) ≤ 131071 := by omega
    have hxi : (el X i : Int) ≤ 65535 := by omega
    have hyi : (el Y i : Int) ≤ 65535 := by omega
    have HN : Hid (SumInv X Y (i + 1) (s / 65536) (C ++ [s % 65536])) := hS.out.next HX16.out HY16.out hs
    have HCL : Hid (C.length + 1 ≤ Lmax) := by show _ ≤ Lmax; rw [hS.out.len, Lmax_def]; omega
    have HSL : Hid (∀ x ∈ [s % 65536], x < Bs) := lt_bs_16 (by simp; omega)
    have HI := Lib.hid hI
    have HS := Lib.hid hs
    clear hx16 hy16 hI hs
    by_cases c1 : i < X.length
    · obtain ⟨xb, xo, rfl, hcx⟩ := hx.at rfl (x2.trans HI.out.ext) c1
      by_cases c2 : i < Y.length
      · obtain ⟨yb, yo, rfl, hcy⟩ := hy.at rfl HI.out.ext c2
        have hse : (c : Int) + (el X i : Int) + (el Y i : Int) = (s : Int) := by have := HS.out; omega
        go_wp2_with (at_builtin; refine append_limbs rfl _ _ 22 Tryz.underlying22 rfl w2.heap.size _ C.length (C.map lv) rfl (ownsRow_ext' HI.out.own ((Ext.refl wr).alloc _)) (Nat.le_trans HI.out.ext.size (by simp)) _ [s % 65536] rfl (limbs_lit wr [s % 65536] HSL.out _ rfl 1 rfl (by rw [Lmax_def]; simp)) HCL.out ?_; intro v' w' hown' hgrow; have HO := Lib.hid (HI.out.grow1 hown' hgrow); clear hown')
        exact ⟨⟨i + 1, s / 65536, _, by go_num, int_eq (by simp), ⟨by have := LX.out; have := LY.out; omega, .inr (by omega)⟩, HN, HO.out⟩, by simp [intOf]; omega⟩
      · have hy0 := el_of_ge (Nat.not_lt.1 c2)
        have hse : (c : Int) + (el X i : Int) = (s : Int) := by have := HS.out; omega
        go_wp2_with (at_builtin; refine append_limbs rfl _ _ 22 Tryz.underlying22 rfl w2.heap.size _ C.length (C.map lv) rfl (ownsRow_ext' HI.out.own ((Ext.refl wr).alloc _)) (Nat.le_trans HI.out.ext.size (by simp)) _ [s % 65536] rfl (limbs_lit wr [s % 65536] HSL.out _ rfl 1 rfl (by rw [Lmax_def]; simp)) HCL.out ?_; intro v' w' hown' hgrow; have HO := Lib.hid (HI.out.grow1 hown' hgrow); clear hown')
        exact ⟨⟨i + 1, s / 65536, _, by go_num, int_eq (by simp), ⟨by have := LX.out; have := LY.out; omega, .inr (by omega)⟩, HN, HO.out⟩, by simp [intOf]; omega⟩
    · have hx0 := el_of_ge (Nat.not_lt.1 c1)
      by_cases c2 : i < Y.length
      · obtain ⟨yb, yo, rfl, hcy⟩ := hy.at rfl HI.out.ext c2
        have hse : (c : Int) + (el Y i : Int) = (s : Int) := by have := HS.out; omega
        go_wp2_with (at_builtin; refine append_limbs rfl _ _ 22 Tryz.underlying22 rfl w2.heap.size _ C.length (C.map lv) rfl (ownsRow_ext' HI.out.own ((Ext.refl wr).alloc _)) (Nat.le_trans HI.out.ext.size (by simp)) _ [s % 65536] rfl (limbs_lit wr [s % 65536] HSL.out _ rfl 1 rfl (by rw [Lmax_def]; simp)) HCL.out ?_; intro v' w' hown' hgrow; have HO := Lib.hid (HI.out.grow1 hown' hgrow); clear hown')
        exact ⟨⟨i + 1, s / 65536, _, by go_num, int_eq (by simp), ⟨by have := LX.out; have := LY.out; omega, .inr (by omega)⟩, HN, HO.out⟩, by simp [intOf]; omega⟩
      · have hy0 := el_of_ge (Nat.not_lt.1 c2)
        by_cases c3 : c = 0
        · have HF : Hid (v16 C = val A + val B) := by
            show _ = _
            have h := hS.out
            rw [c3] at h
            rw [h.fin (Nat.not_lt.1 c1) (Nat.not_lt.1 c2), HXV.out, HYV.out]
          have HC16 := Lib.hid hS.out.lt
          have HCN : Hid (C.length + 4 ≤ Lmax) := by show _ ≤ Lmax; rw [hS.out.len, Lmax_def]; omega
          subst c3
          clear hsB hxi hyi hx0 hy0 hc hci
          have hlimbs : Limbs wr _ C := (HI.out.ownL (fun x hx => lt_bs_16 HC16.out x hx)).limbs
          have HLM := Lib.hid hlimbs
          clear hlimbs
          go_wp2_with fail
          refine (join_calls HLM.out HC16.out HCN.out).mono ?_
          rintro e w3 ⟨r, rfl, hr, x3⟩
          rw [HF.out] at hr
          go_wp2_with fail
          go_ret
          exact RetNat.of_ext ⟨r, rfl, hr, x3⟩ (x1.trans (x2.trans HI.out.ext))
        · have hse : (c : Int) = (s : Int) := by have := HS.out; omega
          have hc0 : (0 : Int) < (c : Int) := by omega
          go_wp2_with (at_builtin; refine append_limbs rfl _ _ 22 Tryz.underlying22 rfl w2.heap.size _ C.length (C.map lv) rfl (ownsRow_ext' HI.out.own ((Ext.refl wr).alloc _)) (Nat.le_trans HI.out.ext.size (by simp)) _ [s % 65536] rfl (limbs_lit wr [s % 65536] HSL.out _ rfl 1 rfl (by rw [Lmax_def]; simp)) HCL.out ?_; intro v' w' hown' hgrow; have HO := Lib.hid (HI.out.grow1 hown' hgrow); clear hown')
          exact ⟨⟨i + 1, s / 65536, _, by go_num, int_eq (by simp), ⟨by have := hcm.out; have := LX.out; have := LY.out; omega, .inl (by omega)⟩, HN, HO.out⟩, by simp [intOf]; omega⟩
/-- what holds in the rounds of a difference -/
structure DifInv (X Y : List Nat) (i b : Nat) (C : List Nat) : Prop where
  len : C.length = i
  lt : ∀ x ∈ C, x < 65536
  b_le : b ≤ 1
  val_eq : v16 C + v16To Y i = v16To X i + 65536 ^ i * b
theorem DifInv.start (X Y : List Nat) : DifInv X Y 0 0 [] := ⟨rfl, (fun x hx => by cases hx), by omega, by simp [v16To, v16_nil]⟩
theorem DifInv.next {X Y : List Nat} {i b d b' : Nat} {C : List Nat} (hI : DifInv X Y i b C) (hd : d + b + el Y i = el X i + 65536 * b') (hd16 : d < 65536) (hb : b' ≤ 1) :
    DifInv X Y (i + 1) b' (C ++ [d]) := by
  refine ⟨by rw [List.length_append, hI.len]; rfl, snoc_lt hI.lt hd16, hb, ?_⟩
  have h4 := hI.val_eq
  rw [v16_append, v16_cons, v16_nil, hI.len, v16To, v16To, Nat.pow_succ, Nat.mul_assoc]
  have h5 : 65536 ^ i * (d + b + el Y i) = 65536 ^ i * (el X i + 65536 * b') := by rw [hd]
  simp only [Nat.mul_add, Nat.mul_zero, Nat.add_zero] at h5 ⊢
  omega
theorem DifInv.fin {X Y : List Nat} {b : Nat} {C : List Nat} (h : DifInv X Y X.length b C) (_hX : ∀ x ∈ X, x < 65536) (hY : Y.length ≤ X.length) (hle : v16 Y ≤ v16 X) : v16 C = v16 X - v16 Y := by
  have h1 := h.val_eq
  rw [v16To_all (Nat.le_refl _), v16To_all hY] at h1
  have h2 := v16_lt h.lt
  rw [h.len] at h2
  have h3 := h.b_le
  have : b = 0 := by
    rcases Nat.eq_zero_or_pos b with e | e
    · exact e
    · obtain rfl : b = 1 := by omega
      omega
  subst this
  omega

theorem cmp16_len {x y : Nat} (h : (dig16 x).length < (dig16 y).length) : x < y := by
  rcases Nat.lt_or_ge x y with g | g
  · exact g
  · exfalso
    have h1 : y < 65536 ^ (dig16 x).length := Nat.lt_of_le_of_lt g (by have := v16_lt (dig16_lt x); rwa [v16_dig16] at this)
    have := dig16_len_le h1
    omega
theorem v16_top {X Y : List Nat} (hX : ∀ x ∈ X, x < 65536) {i : Nat} (hl : X.length = Y.length) (hi : i < X.length) (he : ∀ k, i < k → el X k = el Y k) (hlt : el X i < el Y i) : v16 X < v16 Y := by
  have key : ∀ n, i < n → v16To X n < v16To Y n := by
    intro n
    induction n with
    | zero => intro h; omega
    | succ n ih =>
      intro h
      rw [v16To, v16To]
      by_cases e : i = n
      · subst e
        have h1 := v16To_lt hX i
        have h2 := Nat.mul_le_mul_left (65536 ^ i) (Nat.succ_le_of_lt hlt)
        rw [Nat.mul_succ] at h2
        omega
      · have := ih (by omega)
        rw [he n (by omega)]
        omega
  have := key X.length hi
  rwa [v16To_all (Nat.le_refl _), v16To_all (by omega)] at this

set_option maxHeartbeats 1000000 in
set_option maxRecDepth 100000 in
theorem refcmp_calls {w : World} {v u : Value} {A B : List Nat} (hA : Limbs w v A) (hB : Limbs w u B) (hlA : A.length ≤ 65536) (hlB : B.length ≤ 65536) :
    Calls Tryz.prog 116 #[v, u] w fun e w' => e = .returned (.int .i64 (cmpN (val A) (val B))) ∧ Ext w w' := by
  obtain ⟨X, hX⟩ : ∃ X, X = dig16 (val A) := ⟨_, rfl⟩
  obtain ⟨Y, hY⟩ : ∃ Y, Y = dig16 (val B) := ⟨_, rfl⟩
  have HX16 : Hid (∀ x ∈ X, x < 65536) := by rw [hX]; exact dig16_lt _
  have HY16 : Hid (∀ x ∈ Y, x < 65536) := by rw [hY]; exact dig16_lt _
  have HXV : Hid (v16 X = val A) := by show _ = _; rw [hX, v16_dig16]
  have HYV : Hid (v16 Y = val B) := by show _ = _; rw [hY, v16_dig16]
  have lX : X.length ≤ 262144 := by rw [hX]; exact Nat.le_trans (dig16_len hA.2) (by omega)
  have lY : Y.length ≤ 262144 := by rw [hY]; exact Nat.le_trans (dig16_len hB.2) (by omega)
  have HX := Lib.hid hX
  have HY := Lib.hid hY
  have HLT : Hid (X.length < Y.length → cmpN (val A) (val B) = -1) := fun h => cmpN_lt (cmp16_len (by rw [← hX, ← hY]; exact h))
  have HGT : Hid (Y.length < X.length → cmpN (val A) (val B) = 1) := fun h => by
    have h1 := cmp16_len (x := val B) (y := val A) (by rw [← hX, ← hY]; exact h)
    unfold cmpN; rw [if_neg (by omega), if_pos h1]
  clear hX hY
  by_cases hl : X.length = Y.length
  · have HEL := Lib.hid hl
    have hle : (X.length : Int) = (Y.length : Int) := by omega
    go_enter Tryz.func116, Tryz.ntmps116
    go_wp2_with fail
    refine (refdigits_calls hA (digits_room hlA)).mono ?_
    rintro e w1 ⟨x, rfl, hx, x1⟩
    rw [← HX.out] at hx
    go_wp2_with fail
    refine (refdigits_calls (hB.ext x1) (digits_room hlB)).mono ?_
    rintro e w2 ⟨y, rfl, hy, x2⟩
    rw [← HY.out] at hy
    obtain ⟨xa, xc, rfl, -, -, -⟩ := hx.open
    obtain ⟨ya, yc, rfl, -, -, -⟩ := hy.open
    have lXi : (X.length : Int) ≤ 262144 := by omega
    clear hlA hlB
    go_wp2_with fail
    go_loopw [7] (fun v7 wr => ∃ (i : Nat) (z : Int), v7 = .int .i64 z ∧ z = (i : Int) - 1 ∧ i ≤ X.length ∧ Hid (∀ k, i ≤ k → el X k = el Y k) ∧ Ext w2 wr) (fun v7 _ => (intOf v7 + 1).toNat)
    case atStart => exact ⟨X.length, _, rfl, by have := HEL.out; omega, Nat.le_refl _, fun k hk => by rw [el_of_ge hk, el_of_ge (by have := HEL.out; omega)], Ext.refl _⟩
    case round =>
      obtain ⟨i, z, rfl, hz, hi, hE, hxt⟩ := hrel
      by_cases h0 : i = 0
      · subst h0
        obtain rfl : z = -1 := by omega
        have HQ : Hid (cmpN (val A) (val B) = 0) := by
          show _ = _
          have : v16 X = v16 Y := by
            rw [← v16To_all (Nat.le_refl X.length), ← v16To_all (X := Y) (k := X.length) (by have := HEL.out; omega)]
            have key : ∀ n, v16To X n = v16To Y n := by
              intro n
              induction n with
              | zero => rfl
              | succ n ih => rw [v16To, v16To, ih, hE.out n (Nat.zero_le _)]
            exact key _
          rw [HXV.out, HYV.out] at this
          unfold cmpN; rw [this]; simp
        clear hz hi
        go_wp2_with fail
        go_ret
        exact ⟨ret_eq (int_eq (by rw [HQ.out])), x1.trans (x2.trans hxt)⟩
      · obtain ⟨j, rfl⟩ : ∃ j, i = j + 1 := ⟨i - 1, by omega⟩
        obtain rfl : z = (j : Int) := by omega
        have hjX : j < X.length := by omega
        have hjY : j < Y.length := by omega
        obtain ⟨xb, xo, rfl, hcx⟩ := hx.at rfl (x2.trans hxt) hjX
        obtain ⟨yb, yo, rfl, hcy⟩ := hy.at rfl hxt hjY
        have X0 := x1.trans (x2.trans hxt)
        obtain ⟨p, hp⟩ : ∃ p, el X j = p := ⟨_, rfl⟩
        obtain ⟨q, hq⟩ : ∃ q, el Y j = q := ⟨_, rfl⟩
        rw [hp] at hcx
        rw [hq] at hcy
        have HP := Lib.hid hp
        have HQ := Lib.hid hq
        clear hp hq hi hz h0
        by_cases hlt : p < q
        · have HR : Hid (cmpN (val A) (val B) = -1) := by
            refine cmpN_lt ?_
            rw [← HXV.out, ← HYV.out]
            exact v16_top HX16.out HEL.out hjX (fun k hk => hE.out k hk) (by rw [HP.out, HQ.out]; exact hlt)
          have hlti : (p : Int) < (q : Int) := by omega
          go_wp2_with (go_quiet (fail))
          go_ret
          exact ⟨ret_eq (int_eq (by rw [HR.out])), X0.drewN _⟩
        · by_cases hgt : q < p
          · have HR : Hid (cmpN (val A) (val B) = 1) := by
              show _ = _
              have : val B < val A := by
                rw [← HXV.out, ← HYV.out]
                exact v16_top HY16.out HEL.out.symm hjY (fun k hk => (hE.out k hk).symm) (by rw [HP.out, HQ.out]; exact hgt)
              unfold cmpN; rw [if_neg (by omega), if_pos this]
            have hlti : ¬ (p : Int) < (q : Int) := by omega
            have hgti : (q : Int) < (p : Int) := by omega
            go_wp2_with (go_quiet (fail))
            go_ret
            exact ⟨ret_eq (int_eq (by rw [HR.out])), X0.drewN _⟩
          · have hpq : p = q := by omega
            subst hpq
            have hlti : ¬ (p : Int) < (p : Int) := by omega
            go_wp2_with (go_quiet (fail))
            refine ⟨⟨j, _, rfl, by omega, by omega, fun k hk => ?_, hxt.drewN _⟩, by simp [intOf]⟩
            by_cases e : k = j
            · subst e; rw [HP.out, HQ.out]
            · exact hE.out k (by omega)
  · have hli : ¬ (X.length : Int) = (Y.length : Int) := by omega
    by_cases hlt : X.length < Y.length
    · have HR := Lib.hid (HLT.out hlt)
      have hlti : (X.length : Int) < (Y.length : Int) := by omega
      clear hlt
      go_enter Tryz.func116, Tryz.ntmps116
      go_wp2_with fail
      refine (refdigits_calls hA (digits_room hlA)).mono ?_
      rintro e w1 ⟨x, rfl, hx, x1⟩
      rw [← HX.out] at hx
      go_wp2_with fail
      refine (refdigits_calls (hB.ext x1) (digits_room hlB)).mono ?_
      rintro e w2 ⟨y, rfl, hy, x2⟩
      rw [← HY.out] at hy
      obtain ⟨xa, xc, rfl, -, -, -⟩ := hx.open
      obtain ⟨ya, yc, rfl, -, -, -⟩ := hy.open
      go_wp2_with fail
      go_ret
      exact ⟨ret_eq (int_eq (by rw [HR.out])), x1.trans x2⟩
    · have HR := Lib.hid (HGT.out (by omega))
      have hlti : ¬ (X.length : Int) < (Y.length : Int) := by omega
      clear hlt
      go_enter Tryz.func116, Tryz.ntmps116
      go_wp2_with fail
      refine (refdigits_calls hA (digits_room hlA)).mono ?_
      rintro e w1 ⟨x, rfl, hx, x1⟩
      rw [← HX.out] at hx
      go_wp2_with fail
      refine (refdigits_calls (hB.ext x1) (digits_room hlB)).mono ?_
      rintro e w2 ⟨y, rfl, hy, x2⟩
      rw [← HY.out] at hy
      obtain ⟨xa, xc, rfl, -, -, -⟩ := hx.open
      obtain ⟨ya, yc, rfl, -, -, -⟩ := hy.open
      go_wp2_with fail
      go_ret
      exact ⟨ret_eq (int_eq (by rw [HR.out])), x1.trans x2⟩
end Go.Proofs.YtefeglkbikcjeaaGreatDoor
