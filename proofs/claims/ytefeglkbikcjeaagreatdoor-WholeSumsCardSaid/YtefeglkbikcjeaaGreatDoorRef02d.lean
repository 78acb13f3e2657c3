/- Contracts of package tombolaref02: Mul; of tombolaref03: Div. -/
import Derived.Test.YtefeglkbikcjeaaGreatDoorRef02c
namespace Go.Proofs.YtefeglkbikcjeaaGreatDoor
open Go Go.RowKit

theorem v16_set {O : List Nat} {j : Nat} (h : j < O.length) (z : Nat) : v16 (O.set j z) + 65536 ^ j * el O j = v16 O + 65536 ^ j * z := by
  induction O generalizing j with
  | nil => simp at h
  | cons x O ih =>
    cases j with
    | zero => simp [v16_cons, el]; omega
    | succ j =>
      have := ih (j := j) (by simpa using h)
      rw [List.set_cons_succ, v16_cons, v16_cons, show el (x :: O) (j + 1) = el O j by simp [el], Nat.pow_succ, Nat.mul_comm (65536 ^ j) 65536, Nat.mul_assoc, Nat.mul_assoc]
      have e := congrArg (65536 * ·) this
      simp only [Nat.mul_add] at e
      omega
theorem set_16 {O : List Nat} (h : ∀ x ∈ O, x < 65536) {j z : Nat} (hz : z < 65536) : ∀ x ∈ O.set j z, x < 65536 := by
  intro x hx
  rcases List.mem_or_eq_of_mem_set hx with hx | rfl
  · exact h x hx
  · exact hz

/-- what holds in the rounds of a product of digits -/
structure MOut (X Y : List Nat) (i : Nat) (O : List Nat) : Prop where
  len : O.length = X.length + Y.length + 1
  lt : ∀ x ∈ O, x < 65536
  zero : ∀ j, i + Y.length ≤ j → el O j = 0
  val_eq : v16 O = v16To X i * v16 Y
structure MIn (X Y : List Nat) (i k c : Nat) (O : List Nat) : Prop where
  len : O.length = X.length + Y.length + 1
  lt : ∀ x ∈ O, x < 65536
  c_lt : c < 65536
  zero : ∀ j, i + Y.length ≤ j → el O j = 0
  val_eq : v16 O + 65536 ^ (i + k) * c = v16To X i * v16 Y + 65536 ^ i * el X i * v16To Y k
theorem MOut.start (X Y : List Nat) : MOut X Y 0 (List.replicate (X.length + Y.length + 1) 0) := by
  refine ⟨by simp, fun x hx => ?_, fun j _ => ?_, ?_⟩
  · rw [(List.mem_replicate.1 hx).2]; decide
  · by_cases h : j < X.length + Y.length + 1
    · simp [el, h]
    · exact el_of_ge (by simp; omega)
  · rw [v16_zeros]; simp [v16To]
theorem MOut.inner {X Y : List Nat} {i : Nat} {O : List Nat} (h : MOut X Y i O) : MIn X Y i 0 0 O :=
  ⟨h.len, h.lt, by decide, h.zero, by rw [h.val_eq]; simp [v16To]⟩
theorem MIn.next {X Y : List Nat} {i k c s : Nat} {O : List Nat} (h : MIn X Y i k c O) (hX : ∀ x ∈ X, x < 65536) (hY : ∀ x ∈ Y, x < 65536) (hi : i < X.length) (hk : k < Y.length) (hs : s = el O (i + k) + c + el X i * el Y k) :
    MIn X Y i (k + 1) (s / 65536) (O.set (i + k) (s % 65536)) := by
  have hlen := h.len
  have hx := el_16 hX i
  have hy := el_16 hY k
  have ho := el_16 h.lt (i + k)
  have hc := h.c_lt
  have hxy : el X i * el Y k ≤ 65535 * 65535 := Nat.mul_le_mul (by omega) (by omega)
  refine ⟨by rw [List.length_set]; exact h.len, set_16 h.lt (Nat.mod_lt _ (by decide)), ?_, fun j hj => ?_, ?_⟩
  · rw [Nat.div_lt_iff_lt_mul (by decide)]; omega
  · rw [el_set_other (by omega)]; exact h.zero j hj
  · have h1 := v16_set (O := O) (j := i + k) (by omega) (s % 65536)
    have h2 := h.val_eq
    have h3 : s % 65536 + 65536 * (s / 65536) = el X i * el Y k + el O (i + k) + c := by rw [Nat.mod_add_div, hs]; omega
    rw [v16To, ← Nat.add_assoc, Nat.pow_succ, Nat.mul_assoc (65536 ^ (i + k))]
    rw [Nat.mul_add (65536 ^ i * el X i)]
    have h4 : 65536 ^ (i + k) * (s % 65536 + 65536 * (s / 65536)) = 65536 ^ (i + k) * (el X i * el Y k + el O (i + k) + c) := by rw [h3]
    rw [Nat.mul_add, Nat.mul_add, Nat.mul_add] at h4
    have h5 : 65536 ^ i * el X i * (65536 ^ k * el Y k) = 65536 ^ (i + k) * (el X i * el Y k) := by
      rw [Nat.pow_add]; ac_rfl
    rw [h5]
    generalize 65536 ^ (i + k) = p at *
    generalize v16 (O.set (i + k) (s % 65536)) = r at *
    generalize v16To X i * v16 Y = q at *
    generalize 65536 ^ i * el X i * v16To Y k = t at *
    generalize p * (el X i * el Y k) = e1 at *
    generalize p * el O (i + k) = e2 at *
    generalize p * c = e3 at *
    generalize p * (s % 65536) = e4 at *
    generalize p * (65536 * (s / 65536)) = e5 at *
    omega
theorem MIn.carry {X Y : List Nat} {i c : Nat} {O : List Nat} (h : MIn X Y i Y.length c O) (hi : i < X.length) : MOut X Y (i + 1) (O.set (i + Y.length) c) := by
  have hlen := h.len
  refine ⟨by rw [List.length_set]; exact h.len, set_16 h.lt h.c_lt, fun j hj => ?_, ?_⟩
  · rw [el_set_other (by omega)]; exact h.zero j (by omega)
  · have h1 := v16_set (O := O) (j := i + Y.length) (by omega) c
    have h2 := h.val_eq
    rw [h.zero _ (Nat.le_refl _), Nat.mul_zero, Nat.add_zero] at h1
    rw [h1, h2, v16To_all (Nat.le_refl _), v16To, Nat.add_mul]
theorem MIn.outer {X Y : List Nat} {i : Nat} {O : List Nat} (h : MIn X Y i Y.length 0 O) : MOut X Y (i + 1) O := by
  refine ⟨h.len, h.lt, fun j hj => h.zero j (by omega), ?_⟩
  have h2 := h.val_eq
  rw [Nat.mul_zero, Nat.add_zero] at h2
  rw [h2, v16To_all (Nat.le_refl _), v16To, Nat.add_mul]

theorem MulMem.drewN {w : World} {g n : Nat} {O : List Nat} {wr : World} (h : MulMem w g n O wr) (k : Nat) : MulMem w g n O (wr.drewN k) := ⟨ownsRow_ext' h.own ((Ext.refl wr).drewN k), h.ext.drewN k⟩

set_option maxHeartbeats 2000000 in
set_option maxRecDepth 100000 in
theorem refmul_calls {w : World} {v u : Value} {A B : List Nat} (hA : Limbs w v A) (hB : Limbs w u B) (hlA : A.length ≤ 65536) (hlB : B.length ≤ 65536) :
    Calls Tryz.prog 78 #[v, u] w (RetNat w (val A * val B)) := by
  obtain ⟨X, hX⟩ : ∃ X, X = dig16 (val A) := ⟨_, rfl⟩
  obtain ⟨Y, hY⟩ : ∃ Y, Y = dig16 (val B) := ⟨_, rfl⟩
  have HX16 : Hid (∀ x ∈ X, x < 65536) := by rw [hX]; exact dig16_lt _
  have HY16 : Hid (∀ x ∈ Y, x < 65536) := by rw [hY]; exact dig16_lt _
  have HXV : Hid (v16 X = val A) := by show _ = _; rw [hX, v16_dig16]
  have HYV : Hid (v16 Y = val B) := by show _ = _; rw [hY, v16_dig16]
  have lX0 : X.length ≤ 262144 := by rw [hX]; exact Nat.le_trans (dig16_len hA.2) (by omega)
  have lX : (X.length : Int) ≤ 262144 := by omega
  have lY0 : Y.length ≤ 262144 := by rw [hY]; exact Nat.le_trans (dig16_len hB.2) (by omega)
  have lY : (Y.length : Int) ≤ 262144 := by omega
  obtain ⟨n, hn⟩ : ∃ n, n = X.length + Y.length + 1 := ⟨_, rfl⟩
  have HM := Lib.hid hn
  have HN : Hid (n ≤ Lmax) := by show n ≤ Lmax; rw [Lmax_def]; omega
  have hni : (n : Int) ≤ 524289 := by omega
  have HX := Lib.hid hX
  have HY := Lib.hid hY
  clear hX hY hn lX0 lY0
  go_enter Tryz.func78, Tryz.ntmps78
  go_wp2_with fail
  refine (refdigits_calls hA (digits_room hlA)).mono ?_
  rintro e w1 ⟨x, rfl, hx, x1⟩
  rw [← HX.out] at hx
  go_wp2_with fail
  refine (refdigits_calls (hB.ext x1) (digits_room hlB)).mono ?_
  rintro e w2 ⟨y, rfl, hy, x2⟩
  rw [← HY.out] at hy
  obtain ⟨xa, xc, rfl, -, -, -⟩ := hx.open
  obtain ⟨ya, yc, rfl, -, -, -⟩ := hy.open
  clear hlA hlB
  go_wp2_with (at_make; refine make_limbs rfl _ _ 22 Tryz.underlying22 rfl n _ (by rw [HM.out]; omega) rfl rfl HN.out ?_; intro w3 hown1 hg1; have O1 := Lib.hid hown1; clear hown1)
  have hI0 : MulMem w2 w2.heap.size n (List.replicate n 0) w3 := ⟨O1.out, (Ext.refl w2).grown hg1 (by intro k hk; cases hk)⟩
  have hM0 : Hid (MOut X Y 0 (List.replicate n 0)) := by show MOut X Y 0 (List.replicate n 0); rw [HM.out]; exact MOut.start X Y
  go_loopw [8] (fun v8 wr => ∃ (i : Nat) (O : List Nat), v8 = .int .i64 (i : Int) ∧ i ≤ X.length ∧ Hid (MOut X Y i O) ∧ MulMem w2 w2.heap.size n O wr) (fun v8 _ => X.length - (intOf v8).toNat)
  case atStart => exact ⟨0, _, rfl, Nat.zero_le _, hM0, hI0⟩
  case round =>
    obtain ⟨i, O, rfl, hi, hO, hI⟩ := hrel
    by_cases hin : i < X.length
    · obtain ⟨xb, xo, rfl, hcx0⟩ := hx.at rfl (x2.trans hI.ext) hin
      have HXC := Lib.hid hcx0
      clear hcx0
      obtain ⟨wo, rfl⟩ : ∃ wo : World, wo = wr := ⟨_, rfl⟩
      obtain ⟨p, hp⟩ : ∃ p, el X i = p := ⟨_, rfl⟩
      have hp16 := el_16 HX16.out i
      rw [hp] at hp16
      have hpi : (p : Int) ≤ 65535 := by omega
      have HP := Lib.hid hp
      clear hp hp16
      go_wp2_with fail
      go_loopw [9, 10] (fun v9 v10 wr => ∃ (k c : Nat) (O : List Nat), v10 = .int .i64 (k : Int) ∧ v9 = .int .u64 (c : Int) ∧ Hid ((k ≤ Y.length ∧ MIn X Y i k c O) ∨ (k = Y.length + 1 ∧ c = 0 ∧ MOut X Y (i + 1) O)) ∧ MulMem w2 w2.heap.size n O wr) (fun _ v10 _ => Y.length + 1 - (intOf v10).toNat)
      case atStart => exact ⟨0, 0, O, rfl, rfl, .inl ⟨Nat.zero_le _, hO.out.inner⟩, hI⟩
      case round =>
        obtain ⟨k, c, O', rfl, rfl, hK, hI'⟩ := hrel
        by_cases hk : k < Y.length
        · have hin' : Hid (MIn X Y i k c O') := by
            rcases hK.out with ⟨-, h⟩ | ⟨h, -⟩
            · exact h
            · omega
          obtain ⟨yb, yo, rfl, hcy⟩ := hy.at rfl hI'.ext hk
          obtain ⟨q, hq⟩ : ∃ q, el Y k = q := ⟨_, rfl⟩
          obtain ⟨o, ho⟩ : ∃ o, el O' (i + k) = o := ⟨_, rfl⟩
          have hq16 := el_16 HY16.out k
          have ho16 := el_16 hin'.out.lt (i + k)
          have hc16 := hin'.out.c_lt
          rw [hq] at hq16 hcy
          rw [ho] at ho16
          have hikn : i + k < n := by have := HM.out; omega
          have hcO := hI'.cell hikn (by rw [hin'.out.len]; exact HM.out.symm)
          rw [ho] at hcO
          have hfO := hI'.froz (i + k)
          have hcx : wr.cell? ⟨xb, xo + i, none⟩ = some (.int .u64 (p : Int)) := by
            have h := HXC.out
            obtain ⟨b', o', e1, e2⟩ := hx.at rfl (x2.trans hI'.ext) hin
            injection e1 with e1
            injection e1 with e3 e4
            subst e3 e4
            rw [e2, HP.out]
          obtain ⟨s, hs⟩ : ∃ s, o + c + p * q = s := ⟨_, rfl⟩
          have hpq : (p : Int) * (q : Int) ≤ 4294836225 := by
            have : p * q ≤ 65535 * 65535 := Nat.mul_le_mul (by omega) (by omega)
            rw [← Int.natCast_mul]; omega
          have hpq0 : 0 ≤ (p : Int) * (q : Int) := by rw [← Int.natCast_mul]; omega
          have hse : (o : Int) + (c : Int) + (p : Int) * (q : Int) = (s : Int) := by rw [← hs]; simp
          have hsb : (s : Int) ≤ 4295098370 := by omega
          have HN2 : Hid (MIn X Y i (k + 1) (s / 65536) (O'.set (i + k) (s % 65536))) := hin'.out.next HX16.out HY16.out hin hk (by rw [ho, HP.out, hq, hs])
          have hoi : (o : Int) ≤ 65535 := by omega
          have hci : (c : Int) ≤ 65535 := by omega
          have hqi : (q : Int) ≤ 65535 := by omega
          clear hq ho hq16 ho16 hc16 hs hK
          go_wp2_with (go_quiet (fail))
          exact ⟨⟨k + 1, s / 65536, _, by go_num, int_eq (by simp), .inl ⟨by omega, HN2.out⟩, (hI'.drewN _).set (Nat.le_refl _) _ _⟩, by simp [intOf]; omega⟩
        · by_cases hc0 : c = 0
          · have HF : Hid (MOut X Y (i + 1) O') := by
              rcases hK.out with ⟨h, h2⟩ | ⟨-, -, h⟩
              · obtain rfl : k = Y.length := by omega
                rw [hc0] at h2
                exact h2.outer
              · exact h
            subst hc0
            go_wp2_with fail
            exact ⟨⟨i + 1, O', by go_num, by omega, HF, hI'⟩, by simp [intOf]; omega⟩
          · have hin' : Hid (k = Y.length ∧ MIn X Y i Y.length c O') := by
              rcases hK.out with ⟨h, h2⟩ | ⟨-, h, -⟩
              · obtain rfl : k = Y.length := by omega
                exact ⟨rfl, h2⟩
              · exact absurd h hc0
            obtain ⟨rfl, -⟩ := hin'.out
            have hc16 := hin'.out.2.c_lt
            have hci : (c : Int) ≤ 65535 := by omega
            have hcp : (0 : Int) < (c : Int) := by omega
            have hikn : i + Y.length < n := by have := HM.out; omega
            have hcO := hI'.cell hikn (by rw [hin'.out.2.len]; exact HM.out.symm)
            rw [hin'.out.2.zero _ (Nat.le_refl _)] at hcO
            have hfO := hI'.froz (i + Y.length)
            have HF : Hid (MOut X Y (i + 1) (O'.set (i + Y.length) c)) := hin'.out.2.carry hin
            have hcm : (c : Int) % 65536 = (c : Int) := by omega
            have hcd : (c : Int) / 65536 = 0 := by omega
            clear hc16 hc0 hK hin' hk
            go_wp2_with fail
            exact ⟨⟨Y.length + 1, 0, _, by go_num, rfl, .inr ⟨rfl, rfl, HF.out⟩, hI'.set (Nat.le_refl _) _ _⟩, by simp [intOf]⟩
    · obtain rfl : i = X.length := by omega
      have HL : Hid (Limbs wr (.slice (some ⟨w2.heap.size, 0, none⟩) n n) O) := ⟨by have := Own.sl (B := w2.heap.size) (e := 61) (.inl hI.own); rwa [show n = O.length by rw [hO.out.len]; exact HM.out] at this ⊢, fun x hx => lt_bs_16 hO.out.lt x hx⟩
      have HLN : Hid (O.length + 4 ≤ Lmax) := by show _ ≤ Lmax; rw [hO.out.len, Lmax_def]; omega
      have HV : Hid (v16 O = val A * val B) := by show _ = _; rw [hO.out.val_eq, v16To_all (Nat.le_refl _), HXV.out, HYV.out]
      have hxt := hI.ext
      have HO16 := Lib.hid hO.out.lt
      go_wp2_with fail
      refine (join_calls HL.out HO16.out HLN.out).mono ?_
      rintro e w4 ⟨r, rfl, hr, x4⟩
      rw [HV.out] at hr
      go_wp2_with fail
      go_ret
      exact RetNat.of_ext ⟨r, rfl, hr, x4⟩ (x1.trans (x2.trans hxt))
end Go.Proofs.YtefeglkbikcjeaaGreatDoor
