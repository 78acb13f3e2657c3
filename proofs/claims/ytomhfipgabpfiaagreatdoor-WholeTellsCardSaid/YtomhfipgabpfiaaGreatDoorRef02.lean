/- Contracts of package tombolaref02: cut, Digits, Join, Same. -/
import Derived.Test.YtomhfipgabpfiaaGreatDoorMul
import Derived.Test.YtomhfipgabpfiaaGreatDoorRefPlain
namespace Go.Proofs.YtomhfipgabpfiaaGreatDoor
open Go Go.RowKit

theorem lt_bs_16 {A : List Nat} (h : ∀ x ∈ A, x < 65536) : ∀ x ∈ A, x < Bs := fun x hx => by
  have := h x hx
  rw [Bs_def]; omega
theorem el_16 {A : List Nat} (h : ∀ x ∈ A, x < 65536) (n : Nat) : el A n < 65536 := by
  by_cases hn : n < A.length
  · rw [el_of_lt hn]; exact h _ (List.getElem_mem hn)
  · rw [el_of_ge (by omega)]; omega

set_option maxHeartbeats 400000 in
theorem cut_calls {w : World} {v : Value} {A : List Nat} (hA : Limbs w v A) (h16 : ∀ x ∈ A, x < 65536) :
    Calls Tryz.prog 86 #[v] w fun e w' => ∃ v', e = .returned v' ∧ Limbs w v' (dig16 (v16 A)) ∧ w = w' := by
  obtain ⟨a, cap, rfl, h1, h2, h3⟩ := hA.open
  unfold maxLen at h2
  have H3 := Lib.hid h3
  clear h3
  go_enter Tryz.func86, Tryz.ntmps86
  go_wp2
  go_loop [3] (fun v3 => ∃ n : Nat, v3 = .int .i64 (n : Int) ∧ n ≤ A.length ∧ (∀ i, n ≤ i → el A i = 0)) (fun v3 => (intOf v3).toNat)
  case atStart => exact ⟨A.length, rfl, Nat.le_refl _, fun i hi => el_of_ge hi⟩
  case round =>
    obtain ⟨n, rfl, hn, hz⟩ := hrel
    have HZ := Lib.hid hz
    clear hz
    have hsl := hA.take hn
    by_cases h0 : n = 0
    · have HF := Lib.hid (dig16_take h16 hn HZ.out (.inl h0))
      subst h0
      go_wp2_with fail
      go_ret
      exact ⟨_, rfl, by rw [← HF.out]; exact hsl, rfl⟩
    · obtain ⟨b, o, rfl, hb, hc⟩ := H3.out (n - 1) (by omega)
      have hcell := hc (n - 1) (by omega)
      clear hc
      have HE : Hid ((((el A (n - 1) : Nat) : Int) == 0) = false → A.take n = dig16 (v16 A)) := fun h => dig16_take h16 hn HZ.out (.inr (by simpa using h))
      go_wp2_with fail
      · rename_i hz
        refine ⟨⟨n - 1, by simp; omega, by omega, fun i hi => ?_⟩, by simp [intOf]; omega⟩
        by_cases hi' : n ≤ i
        · exact HZ.out i hi'
        · obtain rfl : i = n - 1 := by omega
          simpa using hz
      · rename_i hz _
        go_ret
        exact ⟨_, rfl, by rw [← HE.out hz]; exact hsl, rfl⟩

theorem ownsRow_ext' {B : Nat} {e : TypeId} {s : Nat} {w w' : World} {v : Value} {n : Nat} {xs : List Value} (h : w.ownsRow B e s v n xs) (k : Ext w w') : w'.ownsRow B e s v n xs := by
  refine ⟨h.1, ?_⟩
  rcases h.2 with h2 | ⟨g, cap, cur, rfl, hg, hh, rest⟩
  · exact .inl h2
  · exact .inr ⟨g, cap, cur, rfl, hg, by rw [k.block g (Array.getElem?_eq_some_iff.1 hh).1]; exact hh, rest⟩

/-- a growing slice of numbers of the call's own -/
structure OutMem (w : World) (C : List Nat) (v : Value) (wr : World) : Prop where
  own : wr.ownsRow w.heap.size 46 1 v C.length (C.map lv)
  ext : Ext w wr
theorem OutMem.nil (w : World) : OutMem w [] (.slice none 0 0) w := ⟨World.ownsRow_nil .., Ext.refl w⟩
theorem OutMem.ownL {w : World} {C : List Nat} {v : Value} {wr : World} (h : OutMem w C v wr) (hl : ∀ x ∈ C, x < Bs) : OwnL w.heap.size wr v C := ⟨.inl h.own, hl⟩
theorem OutMem.grow {w : World} {C : List Nat} {v : Value} {wr w1 w' : World} (h : OutMem w C v wr) (k : Ext wr w1) {v' : Value} {x : Nat} (h1 : w'.ownsRow w.heap.size 46 1 v' (C.length + [x].length) (C.map lv ++ [x].map lv)) (hg : w1.grownBy w' v.ownBlock) :
    OutMem w (C ++ [x]) v' w' := by
  refine ⟨by rw [List.length_append, List.map_append]; exact h1, (h.ext.trans k).grown hg (fun b hb => (h.own.lt b hb).1)⟩

set_option maxHeartbeats 1000000 in
theorem refdigits_calls {w : World} {v : Value} {A : List Nat} (hA : Limbs w v A) (hlen : 4 * A.length + 4 ≤ Lmax) :
    Calls Tryz.prog 58 #[v] w fun e w' => ∃ v', e = .returned v' ∧ Limbs w' v' (dig16 (val A)) ∧ Ext w w' := by
  obtain ⟨a, cap, rfl, h1, h2, h3⟩ := hA.open
  unfold maxLen at h2
  have H3 := Lib.hid h3
  have HL := Lib.hid hlen
  clear h3 hlen
  go_enter Tryz.func58, Tryz.ntmps58
  go_wp2_with fail
  go_loopw [3, 4] (fun v3 v4 wr => ∃ i : Nat, v4 = .int .i64 (i : Int) ∧ i ≤ A.length ∧ OutMem w (flat A i) v3 wr) (fun _ v4 _ => A.length - (intOf v4).toNat)
  case atStart => exact ⟨0, rfl, Nat.zero_le _, OutMem.nil w⟩
  case round =>
    obtain ⟨i, rfl, hi, hI⟩ := hrel
    have HI := Lib.hid hI
    clear hI
    by_cases hin : i < A.length
    · obtain ⟨ba, oa, rfl, hba, hca⟩ := H3.out i hin
      have hcA : wr.cell? ⟨ba, oa + i, none⟩ = some (.int .u64 (el A i : Nat)) := by rw [Below.cell HI.out.ext (p := ⟨ba, oa + i, none⟩) hba]; exact hca i hin
      clear hca
      obtain ⟨x, hx⟩ : ∃ x, x = el A i := ⟨_, rfl⟩
      have hxB := el_lt hA.2 i
      rw [← hx, Bs_def] at hxB
      rw [← hx] at hcA
      have HX := Lib.hid hx
      clear hx
      go_wp2_with fail
      go_loopw [3, 5, 6] (fun v3 v5 v6 wr => ∃ j : Nat, v5 = .int .u64 ((x / 65536 ^ j : Nat) : Int) ∧ v6 = .int .i64 (j : Int) ∧ j ≤ 4 ∧ OutMem w (flat A i ++ pre x j) v3 wr) (fun _ _ v6 _ => 4 - (intOf v6).toNat)
      case atStart => exact ⟨0, by simp, rfl, Nat.zero_le _, by simpa [pre] using HI.out⟩
      case round =>
        obtain ⟨j, rfl, rfl, hj, hI⟩ := hrel
        have HI := Lib.hid hI
        clear hI
        by_cases h4 : j < 4
        · obtain ⟨y, hy⟩ : ∃ y, y = x / 65536 ^ j := ⟨_, rfl⟩
          rw [← hy]
          have hyx : y ≤ x := by rw [hy]; exact Nat.div_le_self _ _
          have HY := Lib.hid hy
          clear hy
          go_wp2_with (at_builtin; refine append_limbs rfl _ _ 22 Tryz.underlying22 rfl w.heap.size _ _ _ rfl (ownsRow_ext' HI.out.own ((Ext.refl wr).alloc _)) (Nat.le_trans HI.out.ext.size (by simp)) _ [y % 65536] rfl (limbs_lit wr [y % 65536] (by simpa using Nat.lt_trans (Nat.mod_lt y (by omega)) (by rw [Bs_def]; omega)) _ rfl 1 rfl (by rw [Lmax_def]; simp)) (by have := HL.out; rw [List.length_append, flat_length, pre_length, List.length_singleton]; omega) ?_; intro v' w' hown' hgrow; have HO := Lib.hid (HI.out.grow ((Ext.refl wr).alloc _) hown' hgrow); clear hown')
          refine ⟨⟨j + 1, int_eq (by rw [HY.out, Nat.pow_succ, ← Nat.div_div_eq_div_mul]; rfl), by go_num, by omega, by have := HO.out; rwa [List.append_assoc, HY.out] at this⟩, by simp [intOf]; omega⟩
        · obtain rfl : j = 4 := by omega
          have HF : flat A i ++ pre x 4 = flat A (i + 1) := by rw [flat, ← HX.out]
          have hI2 := HI.out
          rw [HF] at hI2
          have HI2 := Lib.hid hI2
          clear HI hI2 HF
          go_wp2_with fail
          exact ⟨⟨i + 1, by go_num, by omega, HI2.out⟩, by simp [intOf]; omega⟩
    · obtain rfl : i = A.length := by omega
      have hL := (HI.out.ownL (lt_bs_16 (flat_lt A A.length))).limbs
      have HV : Hid (v16 (flat A A.length) = val A) := by show _ = _; rw [v16_flat hA.2, valTo_all (Nat.le_refl _)]
      go_wp2_with (go_at_call 86; refine (cut_calls hL (flat_lt A A.length)).mono ?_; rintro e w2 ⟨v', rfl, hv, rfl⟩; rw [HV.out] at hv)
      go_ret
      exact ⟨_, rfl, hv, HI.out.ext⟩

/-- digits of one limb, from the highest down -/
theorem v16_step {L : List Nat} {k hi : Nat} (hk : k < hi) (hl : hi ≤ L.length) : v16 ((L.take hi).drop k) = el L k + 65536 * v16 ((L.take hi).drop (k + 1)) := by
  have h1 : k < (L.take hi).length := by rw [List.length_take]; omega
  rw [List.drop_eq_getElem_cons h1, v16_cons, List.getElem_take, el_of_lt (by omega)]
theorem v16_part_lt {L : List Nat} (h : ∀ x ∈ L, x < 65536) {k hi : Nat} (h4 : hi ≤ k + 3) : ((v16 ((L.take hi).drop k) : Nat) : Int) < 281474976710656 := by
  have h1 := v16_lt (A := (L.take hi).drop k) (fun x hx => h x (List.mem_of_mem_take (List.mem_of_mem_drop hx)))
  exact Int.ofNat_lt.2 (Nat.lt_of_lt_of_le h1 (Nat.le_trans (Nat.pow_le_pow_right (n := 65536) (by omega) (show _ ≤ 3 by rw [List.length_drop, List.length_take]; omega)) (by decide)))

set_option maxHeartbeats 1000000 in
set_option maxRecDepth 1000000 in
theorem join_calls {w : World} {v : Value} {A : List Nat} (hA : Limbs w v A) (h16 : ∀ x ∈ A, x < 65536) (hlen : A.length + 4 ≤ Lmax) :
    Calls Tryz.prog 59 #[v] w (RetNat w (v16 A)) := by
  obtain ⟨n, hn⟩ : ∃ n, n = v16 A := ⟨_, rfl⟩
  obtain ⟨L, hL⟩ : ∃ L, L = dig16 n := ⟨_, rfl⟩
  have HLen : Hid (L.length + 4 ≤ Lmax) := by
    show _ ≤ Lmax
    refine Nat.le_trans (Nat.add_le_add_right ?_ 4) hlen
    rw [hL]; exact dig16_len_le (by rw [hn]; exact v16_lt h16)
  have h16L : ∀ x ∈ L, x < 65536 := by rw [hL]; exact dig16_lt n
  have HV : Hid (v16 L = n) := by show _ = _; rw [hL, v16_dig16]
  have HLE := Lib.hid hL
  have HN := Lib.hid hn
  rw [← hn]
  clear hL hn hlen
  go_enter Tryz.func59, Tryz.ntmps59
  go_wp2_with (go_at_call 86; refine (cut_calls hA h16).mono ?_; rintro e w2 ⟨v0, rfl, hv0, rfl⟩; rw [← HN.out, ← HLE.out] at hv0)
  obtain ⟨a, cap, rfl, h1, h2, h3⟩ := hv0.open
  have hLb : (L.length : Int) ≤ 1099511627776 := by have h := HLen.out; rw [Lmax_def] at h; omega
  have H3 := Lib.hid h3
  clear h3 h1 h2
  go_loopw [3, 4] (fun v3 v4 wr => ∃ t i : Nat, v4 = .int .i64 (i : Int) ∧ i = 4 * t ∧ (t = 0 ∨ 4 * (t - 1) < L.length) ∧ OutMem w (limbsTo n t) v3 wr) (fun _ v4 _ => L.length + 4 - (intOf v4).toNat)
  case atStart => exact ⟨0, 0, rfl, rfl, .inl rfl, OutMem.nil w⟩
  case round =>
    obtain ⟨t, i, rfl, hi, ht, hI⟩ := hrel
    have HI := Lib.hid hI
    have HT := Lib.hid ht
    have hib : i ≤ L.length + 4 := by omega
    have HII := Lib.hid hi
    clear hI ht hi
    by_cases hil : i < L.length
    · obtain ⟨hi, hhi⟩ : ∃ hi, hi = min L.length (i + 4) := ⟨_, rfl⟩
      have hmin : min (L.length : Int) (wrap64 ((i : Int) + 4)) = (hi : Int) := by unfold wrap64; omega
      have hmin' : min (L.length : Int) ((i : Int) + 4) = (hi : Int) := by omega
      have hh1 : i < hi := by omega
      have hh2 : hi ≤ i + 4 := by omega
      have hh3 : hi ≤ L.length := by omega
      have HH := Lib.hid hhi
      clear hhi
      obtain ⟨ba, oa, rfl, hba, hca⟩ := H3.out i hil
      have HC : Hid (∀ j, j < L.length → wr.cell? ⟨ba, oa + j, none⟩ = some (.int .u64 (el L j : Nat))) := fun j hj => by rw [Below.cell HI.out.ext (p := ⟨ba, oa + j, none⟩) hba]; exact hca j hj
      clear hca
      go_wp2_with fail
      go_loop [5, 6] (fun v5 v6 => ∃ j x : Nat, v6 = .int .i64 ((j : Int) - 1) ∧ v5 = .int .u64 (x : Int) ∧ i ≤ j ∧ j ≤ hi ∧ x = v16 ((L.take hi).drop j)) (fun _ v6 => (intOf v6 + 1).toNat)
      case atStart => exact ⟨hi, 0, by go_num, rfl, by omega, Nat.le_refl _, by rw [List.drop_eq_nil_of_le (by rw [List.length_take]; omega), v16_nil]⟩
      case round =>
        obtain ⟨j, x, rfl, rfl, hj1, hj2, hx⟩ := hrel
        have HX := Lib.hid hx
        clear hmin hmin'
        by_cases hij : i < j
        · obtain ⟨k, rfl⟩ : ∃ k, j = k + 1 := ⟨j - 1, by omega⟩
          have hxb : (x : Int) ≤ 281474976710655 := by have := v16_part_lt h16L (k := k + 1) (hi := hi) (by omega); rw [← hx] at this; omega
          have hcell := HC.out k (by omega)
          have hel : ((el L k : Nat) : Int) ≤ 65535 := by have := el_16 h16L k; omega
          have hkl : k < L.length := by omega
          clear hx
          go_wp2_with fail
          refine ⟨⟨k, el L k + 65536 * x, ?_, ?_, by omega, by omega, by rw [v16_step (by omega) hh3, HX.out]⟩, ?_⟩
          · rfl
          · exact int_eq (by omega)
          · simp [intOf]
        · obtain rfl : j = i := by omega
          have HX2 : Hid (x = n / Bs ^ t % Bs) := by
            show _ = _
            rw [hx, ← HV.out, ← v16_four h16L, HII.out]
            congr 2
            rw [← HII.out, HH.out]
            by_cases hc : L.length ≤ j + 4
            · rw [Nat.min_eq_left hc, List.take_length, List.take_of_length_le hc]
            · rw [Nat.min_eq_right (by omega)]
          have HXB : Hid (x < Bs) := by show _ < _; rw [HX2.out]; exact Nat.mod_lt _ Bs_pos
          have htl : t + 1 ≤ L.length + 4 := by have := HII.out; omega
          clear hx
          go_wp2_with (at_builtin; refine append_limbs rfl _ _ 23 Tryz.underlying23 rfl w.heap.size _ _ _ rfl (ownsRow_ext' HI.out.own ((Ext.refl wr).alloc _)) (Nat.le_trans HI.out.ext.size (by simp)) _ [x] rfl (limbs_lit wr [x] (by simpa using HXB.out) _ rfl 1 rfl (by rw [Lmax_def]; simp)) (by have := HLen.out; rw [limbsTo_length, List.length_singleton]; omega) ?_; intro v' w' hown' hgrow; have HO := Lib.hid (HI.out.grow ((Ext.refl wr).alloc _) hown' hgrow); clear hown')
          exact ⟨⟨t + 1, j + 4, by go_num, by have := HII.out; omega, .inr (by have := HII.out; omega), by rw [limbsTo, ← HX2.out]; exact HO.out⟩, by simp [intOf]; omega⟩
    · have HJ : Hid (limbsTo n t = dig n) := limbsTo_join (by rw [← HLE.out]; have := HII.out; omega) (by rw [← HLE.out]; exact HT.out)
      have hI2 := HI.out
      rw [HJ.out] at hI2
      have HI2 := Lib.hid hI2
      clear hI2 HI
      go_wp2_with fail
      go_ret
      exact ⟨_, rfl, HI2.out.ownL (dig_lt n), HI2.out.ext⟩

end Go.Proofs.YtomhfipgabpfiaaGreatDoor
