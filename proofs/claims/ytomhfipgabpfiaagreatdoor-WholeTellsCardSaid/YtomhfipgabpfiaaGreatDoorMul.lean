/- The contract of nat.Mul. -/
import Derived.Test.YtomhfipgabpfiaaGreatDoorNat2
namespace Go.Proofs.YtomhfipgabpfiaaGreatDoor
open Go Go.RowKit

/-- the memory in the rounds of a product: the limbs O stand in block g -/
structure MulMem (w : World) (g n : Nat) (O : List Nat) (wr : World) : Prop where
  own : wr.ownsRow g 46 1 (.slice (some ⟨g, 0, none⟩) n n) n (O.map lv)
  ext : Ext w wr

theorem MulMem.cell {w : World} {g n : Nat} {O : List Nat} {wr : World} (h : MulMem w g n O wr) {j : Nat} (hj : j < n) (hl : O.length = n) : wr.cell? ⟨g, j, none⟩ = some (.int .u64 (el O j : Nat)) := by
  rw [h.own.cellAt j (by omega)]
  simp [lv, el, List.getElem?_eq_getElem (show j < O.length by omega)]
theorem MulMem.froz {w : World} {g n : Nat} {O : List Nat} {wr : World} (h : MulMem w g n O wr) (j : Nat) : wr.frozen? ⟨g, j, none⟩ = false := h.own.frozenAt j
theorem MulMem.set {w : World} {g n : Nat} {O : List Nat} {wr : World} (h : MulMem w g n O wr) (hg : w.heap.size ≤ g) (j z : Nat) : MulMem w g n (O.set j z) (wr.setCell ⟨g, j, none⟩ (.int .u64 (z : Int))) := by
  obtain ⟨o3, _⟩ := h.own.stored j (.int .u64 (z : Int))
  refine ⟨by rw [List.map_set]; exact o3, Below.setCell h.ext (by show w.heap.size ≤ g; exact hg) _⟩

theorem mul_bounds {x y o c : Nat} (hx : x < Bs) (hy : y < Bs) (ho : o < Bs) (hc : c < Bs) :
    mulHi x y + addHi (mulLo x y) c 0 ≤ 18446744073709551615 ∧ mulHi x y + addHi (mulLo x y) c 0 + addHi (addLo (mulLo x y) c 0) o 0 ≤ 18446744073709551615 := by
  have h := mulO_lt hx hy ho hc
  unfold mulO at h
  rw [Bs_def] at h
  omega

set_option maxHeartbeats 2000000 in
theorem natmul_calls {w : World} {v u : Value} {A B : List Nat} (hA : Limbs w v A) (hB : Limbs w u B) (hln : A.length + B.length ≤ Lmax) :
    Calls Tryz.prog 40 #[v, u] w (RetNat w (val A * val B)) := by
  have hoA := hA.open
  have hoB := hB.open
  obtain ⟨a, cap, rfl, h1, h2, h3⟩ := hoA
  obtain ⟨b, cap', rfl, g1, g2, g3⟩ := hoB
  obtain ⟨n, hn⟩ : ∃ n, n = A.length + B.length := ⟨_, rfl⟩
  rw [← hn] at hln
  have kn := lmax_le hln
  have lA : A.length ≤ n := by omega
  have lB : B.length ≤ n := by omega
  have HM := Lib.hid hn
  have HN := Lib.hid hln
  have H3 := Lib.hid h3
  have G3 := Lib.hid g3
  unfold maxLen at h2 g2
  clear hn hln h3 g3
  go_enter Tryz.func40, Tryz.ntmps40
  go_wp2_with (at_make; refine make_limbs rfl _ _ 23 Tryz.underlying23 rfl n _ (by rw [HM.out]; omega) rfl rfl HN.out ?_; intro w1 hown1 hg1; have O1 := Lib.hid hown1; clear hown1)
  have hI0 : MulMem w w.heap.size n (List.replicate n 0) w1 := ⟨O1.out, (Ext.refl w).grown hg1 (by intro k hk; cases hk)⟩
  have hM0 : Hid (MulOut A B 0 (List.replicate n 0)) := by show MulOut A B 0 (List.replicate n 0); rw [HM.out]; exact MulOut.start A B
  go_loopw [22] (fun v22 wr => ∃ (i : Nat) (O : List Nat), v22 = .int .i64 (i : Int) ∧ i ≤ A.length ∧ MulOut A B i O ∧ MulMem w w.heap.size n O wr) (fun v22 _ => n - (intOf v22).toNat)
  case atStart => exact ⟨0, _, rfl, Nat.zero_le _, hM0.out, hI0⟩
  case round =>
    obtain ⟨i, O, rfl, hi, hO, hI⟩ := hrel
    by_cases hin : i < A.length
    · obtain ⟨ba, oa, rfl, hba, hca⟩ := H3.out i hin
      have hcA : wr.cell? ⟨ba, oa + i, none⟩ = some (.int .u64 (el A i : Nat)) := by rw [Below.cell hI.ext (p := ⟨ba, oa + i, none⟩) hba]; exact hca i hin
      clear hca
      obtain ⟨wo, rfl⟩ : ∃ wo : World, wo = wr := ⟨_, rfl⟩
      have HO := Lib.hid hO
      have hAi := el_lt hA.2 i
      clear hO
      go_wp2_with fail
      go_loopw [8, 29] (fun v8 v29 wr => ∃ (k c : Nat) (O : List Nat), v29 = .int .i64 (k : Int) ∧ v8 = .int .u64 (c : Int) ∧ k ≤ B.length ∧ MulIn A B i k c O ∧ MulMem w w.heap.size n O wr) (fun _ v29 _ => n - (intOf v29).toNat)
      case atStart => exact ⟨0, 0, O, rfl, rfl, Nat.zero_le _, HO.out.inner, hI⟩
      case round =>
        obtain ⟨k, c, O', rfl, rfl, hk, hO', hI'⟩ := hrel
        by_cases hkn : k < B.length
        · obtain ⟨bb, ob, rfl, hbb, hcb⟩ := G3.out k hkn
          have hcB : wr.cell? ⟨bb, ob + k, none⟩ = some (.int .u64 (el B k : Nat)) := by rw [Below.cell hI'.ext (p := ⟨bb, ob + k, none⟩) hbb]; exact hcb k hkn
          clear hcb
          have HO' := Lib.hid hO'
          have hBk := el_lt hB.2 k
          have hikn : i + k < n := by have := HM.out; omega
          have hcO := hI'.cell hikn (by rw [hO'.len]; exact HM.out.symm)
          have hfO := hI'.froz (i + k)
          have ho := el_lt hO'.lt (i + k)
          have hc := hO'.c_lt
          obtain ⟨mb1, mb2⟩ := mul_bounds hAi hBk ho hc
          have hl1 := mulLo_lt (el A i) (el B k)
          have hl2 := addLo_lt (mulLo (el A i) (el B k)) c 0
          clear hO'
          go_wp2_with (first
            | (go_at_call 66; (with_reducible refine (mul_calls _ _ _ hAi hBk).mono ?_); rintro e w' ⟨rfl, rfl⟩)
            | (go_at_call 67; first | ((with_reducible refine (add0_calls _ (mulLo (el A i) (el B k)) c).mono ?_); rintro e w' ⟨rfl, rfl⟩) | ((with_reducible refine (add0_calls _ (addLo (mulLo (el A i) (el B k)) c 0) (el O' (i + k))).mono ?_); rintro e w' ⟨rfl, rfl⟩)))
          exact ⟨⟨k + 1, mulO (el A i) (el B k) (el O' (i + k)) c, _, by go_num, int_eq (by unfold mulO; omega), by omega, HO'.out.next hA.2 hB.2 hin hkn, hI'.set (Nat.le_refl _) _ _⟩, by simp [intOf]; omega⟩
        · obtain rfl : k = B.length := by omega
          have hibn : i + B.length < n := by have := HM.out; omega
          have hcO := hI'.cell hibn (by rw [hO'.len]; exact HM.out.symm)
          have hfO := hI'.froz (i + B.length)
          go_wp2_with fail
          exact ⟨⟨i + 1, _, by go_num, by omega, hO'.outer hin, hI'.set (Nat.le_refl _) _ _⟩, by simp [intOf]; omega⟩
    · obtain rfl : i = A.length := by omega
      have hT : Limbs wr (.slice (some ⟨w.heap.size, 0, none⟩) n n) O := ⟨by have := Own.sl (B := w.heap.size) (e := 46) (.inl hI.own); rwa [show n = O.length by rw [hO.len]; exact HM.out] at this ⊢, hO.lt⟩
      have hlen : Hid (O.length ≤ Lmax) := by show _ ≤ Lmax; rw [hO.len, ← HM.out]; exact HN.out
      have hv : Hid (val O = val A * val B) := by show val O = _; rw [hO.val_eq, valTo_all (Nat.le_refl _)]
      go_wp2_with (go_at_call 49; refine (trim_calls hT hlen.out).mono ?_; rintro e w' ⟨r, rfl, hr, hx'⟩)
      go_ret
      rw [hv.out] at hr
      exact RetNat.of_ext ⟨r, rfl, hr, hx'⟩ hI.ext
end Go.Proofs.YtomhfipgabpfiaaGreatDoor
