/- Contracts of the statements' own helpers: Long, many, power. -/
import Derived.Test.YtocaimhmgpacmaaDoorRef04R
namespace Go.Proofs.YtocaimhmgpacmaaDoor
open Go Go.RowKit

/-- the law answers true; all that was there is as it was -/
def Yes (w : World) (e : Ending) (w' : World) : Prop := e = .returned (.bool true) ∧ Ext w w'

/-- is one of so many naturals too long for the statements? -/
def longL (Ls : List (List Nat)) : Bool := Ls.any fun A => decide (24 < A.length)

set_option maxHeartbeats 1000000 in
set_option maxRecDepth 1000000 in
theorem long_calls {w : World} {v : Value} {xs : List Value} {Ls : List (List Nat)} (hv : Sl 1 w v xs.length xs) (hn : Ls.length = xs.length) (hx : ∀ i (h : i < xs.length), ∃ A, Ls[i]? = some A ∧ Limbs w xs[i] A) :
    Calls Tryd.prog 12 #[v] w fun e w' => e = .returned (.bool (longL Ls)) ∧ w = w' := by
  obtain ⟨h1, a, cap, rfl, h3, h4, h5, h6⟩ := hv
  unfold maxLen at h4
  obtain ⟨n, hN⟩ : ∃ n, n = xs.length := ⟨_, rfl⟩
  rw [← hN] at h3 h5 ⊢
  have H5 := Lib.hid h5
  have H6 := Lib.hid h6
  have HN := Lib.hid hN
  have HX := Lib.hid hx
  have HLN := Lib.hid hn
  clear h5 h6 hN hx hn h1
  go_enter Tryd.func12, Tryd.ntmps12
  go_wp2_with fail
  go_loop [2, 3] (fun _ v3 => ∃ i : Nat, v3 = .int .i64 (i : Int) ∧ i ≤ n ∧ longL (Ls.take i) = false) (fun _ v3 => n - (intOf v3).toNat)
  case atStart => exact ⟨0, rfl, Nat.zero_le _, rfl⟩
  case round =>
    obtain ⟨i, rfl, hi, hl⟩ := hrel
    have HL := Lib.hid hl
    clear hl
    by_cases hin : i < n
    · cases a with
      | none => have := H5.out rfl; omega
      | some p =>
        obtain ⟨q1, q2, q3⟩ := H6.out p rfl (by have := HN.out; omega)
        obtain ⟨b, o, sp⟩ := p
        subst q1
        have hix : i < xs.length := by rw [← HN.out]; exact hin
        have hc := q3 i hix
        obtain ⟨A, hA, hL⟩ := HX.out i hix
        obtain ⟨pa, pc, hs, -, -, -⟩ := hL.open
        rw [hs] at hc hL
        have hcell : w.cell? ⟨b, o + i, none⟩ = some (.slice pa A.length pc) := hc
        clear hc
        have HA := Lib.hid hA
        clear hs hA q3
        by_cases h24 : 24 < A.length
        · have HD : Hid (longL Ls = true) := by
            show _ = _
            rw [longL, List.any_eq_true]
            exact ⟨A, List.mem_of_getElem? HA.out, by simpa using h24⟩
          have h25 : (25 : Int) ≤ (A.length : Int) := by omega
          clear h24
          go_wp2_with fail
          go_ret
          exact ⟨ret_eq (by rw [HD.out]; rfl), rfl⟩
        · have h25 : (A.length : Int) ≤ 24 := by omega
          have HF : Hid (longL (Ls.take (i + 1)) = false) := by
            show _ = _
            have h := HL.out
            obtain ⟨hil, hiA⟩ := List.getElem?_eq_some_iff.1 HA.out
            rw [List.take_succ_eq_append_getElem hil, longL, List.any_append, hiA]
            rw [longL] at h
            rw [h]
            simp; omega
          clear h24
          go_wp2_with fail
          exact ⟨⟨i + 1, rfl, by omega, HF.out⟩, by simp [intOf]; omega⟩
    · obtain rfl : i = n := by omega
      have HD : Hid (longL Ls = false) := by
        show _ = _
        have h := HL.out
        rwa [HN.out, ← HLN.out, List.take_length] at h
      go_wp2_with fail
      go_ret
      exact ⟨ret_eq (by rw [HD.out]; rfl), rfl⟩

/-- the bytes of many: so many are set -/
structure ManyMem (w : World) (c : UInt8) (n i : Nat) (wr : World) : Prop where
  own : wr.ownsRow w.heap.size 5 1 (.slice (some ⟨w.heap.size, 0, none⟩) n n) n (List.replicate i (.int .u8 (c.toNat : Int)) ++ List.replicate (n - i) (.int .u8 0))
  ext : Ext w wr
theorem ManyMem.cell {w : World} {c : UInt8} {n i : Nat} {wr : World} (h : ManyMem w c n i wr) (hi : i < n) : wr.cell? ⟨w.heap.size, i, none⟩ = some (.int .u8 0) := by
  rw [h.own.cellAt i (by omega), List.getElem?_append_right (by simp), List.length_replicate, Nat.sub_self, show n - i = (n - (i + 1)) + 1 by omega, List.replicate_succ]
  rfl
theorem ManyMem.next {w : World} {c : UInt8} {n i : Nat} {wr : World} (h : ManyMem w c n i wr) (hi : i < n) : ManyMem w c n (i + 1) (wr.setCell ⟨w.heap.size, i, none⟩ (.int .u8 (c.toNat : Int))) := by
  obtain ⟨o3, _⟩ := h.own.stored i (.int .u8 (c.toNat : Int))
  refine ⟨?_, Below.setCell h.ext (Nat.le_refl _) _⟩
  have e : (List.replicate i (Value.int .u8 (c.toNat : Int)) ++ List.replicate (n - i) (Value.int .u8 0)).set i (.int .u8 (c.toNat : Int)) = List.replicate (i + 1) (Value.int .u8 (c.toNat : Int)) ++ List.replicate (n - (i + 1)) (Value.int .u8 0) := by
    rw [List.set_append_right _ _ (by simp), show n - i = (n - (i + 1)) + 1 by omega, List.replicate_succ (n := n - (i + 1)), List.replicate_succ' (n := i), List.append_assoc]
    simp
  rw [← e]
  exact o3
theorem ManyMem.conv {w : World} {c : UInt8} {n : Nat} {wr : World} (h : ManyMem w c n n wr) :
    (convert 35 9 (.slice (some ⟨w.heap.size, 0, none⟩) n n)).run Tryd.prog wr = .ok (.string ⟨(List.replicate n c).toArray⟩) wr := by
  have hl : (List.replicate n c).length = n := by simp
  have := run_convert_bytes_back (P := Tryd.prog) wr 35 9 5 ⟨w.heap.size, 0, none⟩ n (List.replicate n c) Tryd.underlying35 Tryd.underlying5 Tryd.underlying9 (fun j hj => by
    have hj' : j < n := by omega
    rw [Addr.add_lit, Nat.zero_add, h.own.cellAt j (by omega), List.getElem?_append_left (by simpa using hj')]
    simp [hj'])
  rwa [hl] at this

set_option maxHeartbeats 1000000 in
theorem many0_calls (w : World) (c : UInt8) (n : Nat) (hn : n ≤ Lmax) :
    Calls Tryd.prog 22 #[.int .u8 (c.toNat : Int), .int .i64 (n : Int)] w fun e w' => e = .returned (.string ⟨(List.replicate n c).toArray⟩) ∧ Ext w w' := by
  have hnb : (n : Int) ≤ 1099511627776 := by have h := hn; rw [Lmax_def] at h; omega
  have HN := Lib.hid hn
  clear hn
  go_enter Tryd.func22, Tryd.ntmps22
  go_wp2_with (at_make; refine make_bytes rfl _ _ 35 Tryd.underlying35 rfl n _ rfl rfl rfl HN.out ?_; intro w2 hown2 hg2; have O2 := Lib.hid hown2; clear hown2)
  have hB0 : ManyMem w c n 0 w2 := ⟨by simpa using O2.out, (Ext.refl w).grown hg2 (by intro k hk; cases hk)⟩
  go_loopw [6] (fun v6 wr => ∃ i : Nat, v6 = .int .i64 (i : Int) ∧ i ≤ n ∧ ManyMem w c n i wr) (fun v6 _ => n - (intOf v6).toNat)
  case atStart => exact ⟨0, rfl, Nat.zero_le _, hB0⟩
  case round =>
    obtain ⟨i, rfl, hi, hM⟩ := hrel
    by_cases hin : i < n
    · have hcl := hM.cell hin
      have hfz := hM.own.frozenAt i
      go_wp2_with fail
      exact ⟨⟨i + 1, rfl, by omega, hM.next hin⟩, by simp [intOf]; omega⟩
    · obtain rfl : i = n := by omega
      have hcv := hM.conv
      go_wp2_with fail
      go_ret
      exact ⟨rfl, hM.ext⟩

theorem own_lit (w : World) (A : List Nat) (hA : ∀ x ∈ A, x < Bs) (C : Array Value) (hC : C.toList = A.map lv) (n : Nat) (hn : n = A.length) (hl : A.length ≤ Lmax) :
    OwnL w.heap.size (w.alloc (.cells C 33)) (.slice (some ⟨w.heap.size, 0, none⟩) n n) A := by
  subst hn
  have hs : C.size = A.length := by rw [← Array.length_toList, hC]; simp
  exact ⟨.inl ⟨by simp, .inr ⟨w.heap.size, A.length, C, rfl, Nat.le_refl _, heap_alloc_new w _, Nat.le_refl _, (lmax_fits hl).1, by rw [hs]; simp, by rw [hC]; exact List.take_of_length_le (by simp)⟩⟩, hA⟩

theorem one_lt_Bs : 1 < Bs := by rw [Bs_def]; omega

set_option maxHeartbeats 1000000 in
theorem power_calls (w : World) (n : Nat) (hn : n ≤ 20000) :
    Calls Tryd.prog 23 #[.int .i64 (n : Int)] w (RetNat w (10 ^ n)) := by
  have hnb : (n : Int) ≤ 20000 := by omega
  have HP : Hid (∀ i, i ≤ n → (dig (10 ^ i)).length ≤ 20001) := fun i hi => Nat.le_trans (dig_len_le (k := i + 1) (Nat.lt_of_le_of_lt (Nat.pow_le_pow_left (by rw [Bs_def]; omega) i) (Nat.pow_lt_pow_succ one_lt_Bs))) (by omega)
  have hO : OwnL w.heap.size (w.alloc (.cells #[.int .u64 1] 33)) (.slice (some ⟨w.heap.size, 0, none⟩) 1 1) (dig (10 ^ 0)) := by
    have h := own_lit w [1] (by simpa using one_lt_Bs) #[.int .u64 1] rfl 1 rfl (by rw [Lmax_def]; simp)
    rwa [show [1] = dig (10 ^ 0) from (dig_one one_lt_Bs (by omega)).symm] at h
  go_enter Tryd.func23, Tryd.ntmps23
  go_wp2_with fail
  go_loopw [3, 4] (fun v3 v4 wr => ∃ i : Nat, v4 = .int .i64 (i : Int) ∧ i ≤ n ∧ OwnL w.heap.size wr v3 (dig (10 ^ i)) ∧ Ext w wr) (fun _ v4 _ => n - (intOf v4).toNat)
  case atStart => exact ⟨0, rfl, Nat.zero_le _, hO, (Ext.refl w).alloc _⟩
  case round =>
    obtain ⟨i, rfl, hi, hV, hx⟩ := hrel
    by_cases hin : i < n
    · have hL : Limbs (wr.alloc (.cells #[.int .u64 10] 33)) (.slice (some ⟨wr.heap.size, 0, none⟩) 1 1) [10] :=
        limbs_lit wr [10] (by simp; rw [Bs_def]; omega) _ (by simp [lv]) 1 rfl (by rw [Lmax_def]; simp)
      have hm := natmul_calls (hV.limbs.ext ((Ext.refl wr).alloc _)) hL (by rw [Lmax_def]; have := HP.out i hi; simp only [List.length_singleton]; omega)
      rw [val_dig, show val [10] = 10 by simp [val], ← Nat.pow_succ] at hm
      have HM := Lib.hid hm
      clear hm
      go_wp2_with (go_at_call 29; refine (HM.out).mono ?_; rintro e w2 ⟨v2, rfl, hv2, hx2⟩)
      exact ⟨⟨i + 1, rfl, by omega, hv2.mono (by have := hx.size; simp; omega), (hx.alloc _).trans hx2⟩, by simp [intOf]; omega⟩
    · obtain rfl : i = n := by omega
      go_wp2_with fail
      go_ret
      exact ⟨_, rfl, hV, hx⟩
end Go.Proofs.YtocaimhmgpacmaaDoor
