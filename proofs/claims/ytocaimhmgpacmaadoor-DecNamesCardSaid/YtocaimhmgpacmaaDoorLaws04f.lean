/- The laws on decimal digits, sixth part: DecNames. -/
import Derived.Test.YtocaimhmgpacmaaDoorLaws04e
namespace Go.Proofs.YtocaimhmgpacmaaDoor
open Go Go.RowKit

theorem errR_zeros {n : Nat} (h : 1 < n) : errR (List.replicate n 48) = 3 := by
  refine errR_zero (List.all_eq_true.2 fun x hx => by rw [List.eq_of_mem_replicate hx]; rfl) (by simpa using h) ?_
  simp [bn, show 0 < n by omega]
theorem errR_ones {n : Nat} (h : 20000 < n) : errR (List.replicate n 49) = 5 := by
  refine errR_long (List.all_eq_true.2 fun x hx => by rw [List.eq_of_mem_replicate hx]; rfl) (by simpa using h) ?_
  simp [bn, show 0 < n by omega]
theorem errR_x (n : Nat) : errR (List.replicate n 49 ++ [120]) = 3 := by
  refine errR_odd (k := n) (by simp) (.inr ?_)
  simp [bn]
theorem errR_a {n : Nat} (h : 0 < n) : errR (49 :: List.replicate n 97) = 3 := by
  refine errR_odd (k := 1) (by simp; omega) (.inr ?_)
  simp [bn, h]
theorem errR_one (b : UInt8) : errR [b] = if okd b then 0 else 3 := by
  unfold errR
  cases h : okd b <;> simp [h]
theorem readN_one {b : UInt8} (h : okd b = true) : readN [b] = dv b := by
  rw [readN, if_pos (by rw [errR_one, if_pos h])]; simp [dval]

theorem conv_byte (W : World) (c : Nat) (hc : c < 256) (s : ByteArray) (hs : s.data.toList = [UInt8.ofNat c]) :
    (convert 35 9 (.slice (some ⟨W.heap.size, 0, none⟩) 1 1)).run Tryd.prog (W.alloc (.cells #[.int .u8 (c : Int)] 5)) = .ok (.string s) (W.alloc (.cells #[.int .u8 (c : Int)] 5)) := by
  have := run_convert_bytes_back (P := Tryd.prog) (W.alloc (.cells #[.int .u8 (c : Int)] 5)) 35 9 5 ⟨W.heap.size, 0, none⟩ 1 [UInt8.ofNat c] Tryd.underlying35 Tryd.underlying5 Tryd.underlying9 (fun j hj => by
    have hj' : j < 1 := hj
    obtain rfl : j = 0 := by omega
    rw [Addr.add_lit, Nat.add_zero]
    have e : (UInt8.ofNat c).toNat = c := by simp; omega
    simp [go_sem, e])
  rw [mk_of hs] at this
  exact this

theorem dig_max : dig 18446744073709551615 = [18446744073709551615] := dig_one (by rw [Bs_def]; omega) (by omega)

/-- eleven texts that are none -/
def Bad (C : Array Value) : Prop := ∀ i, i < 11 → ∃ s : ByteArray, C[i]? = some (.string s) ∧ Hid (errR s.data.toList = 3) ∧ s.size ≤ maxLen
theorem bad_of {C : Array Value} (hn : C.size = 11) (h : ∀ x ∈ C.toList, ∃ s : ByteArray, x = .string s ∧ errR s.data.toList = 3 ∧ s.size ≤ maxLen) : Bad C := by
  intro i hi
  obtain ⟨s, h1, h2, h3⟩ := h C[i] (Array.getElem_mem_toList (by omega))
  exact ⟨s, by rw [Array.getElem?_eq_getElem (by omega), h1], h2, h3⟩

set_option maxHeartbeats 4000000 in
set_option maxRecDepth 100000 in
theorem decNames_calls (w : World) : Calls Tryd.prog 5 #[] w (Yes w) := by
  obtain ⟨s9, h9⟩ := str_of (List.replicate 20001 48)
  obtain ⟨sa, ha⟩ := str_of (List.replicate 20000 49)
  obtain ⟨s10, h10⟩ := str_of (List.replicate 20000 49 ++ [120])
  obtain ⟨sb, hb⟩ := str_of (List.replicate 20005 97)
  obtain ⟨s11, h11⟩ := str_of (49 :: List.replicate 20005 97)
  obtain ⟨sl, hl⟩ := str_of (List.replicate 20001 49)
  have ap1 : sa ++ (⟨#[120]⟩ : ByteArray) = s10 := append_of (by rw [h10, ha])
  have ap2 : (⟨#[49]⟩ : ByteArray) ++ sb = s11 := append_of (by rw [h11, hb]; rfl)
  have za : sa.size ≤ 20000 := by rw [Lib.size_eq, ha, List.length_replicate]; omega
  have zb : sb.size ≤ 20005 := by rw [Lib.size_eq, hb, List.length_replicate]; omega
  have z9 : s9.size ≤ maxLen := by rw [Lib.size_eq, h9, List.length_replicate]; unfold maxLen; omega
  have z10 : s10.size ≤ maxLen := by rw [Lib.size_eq, h10, List.length_append, List.length_replicate]; unfold maxLen; simp
  have z11 : s11.size ≤ maxLen := by rw [Lib.size_eq, h11, List.length_cons, List.length_replicate]; unfold maxLen; omega
  have zl : sl.size ≤ maxLen := by rw [Lib.size_eq, hl, List.length_replicate]; unfold maxLen; omega
  have e9 : errR s9.data.toList = 3 := by rw [h9]; exact errR_zeros (by omega)
  have e10 : errR s10.data.toList = 3 := by rw [h10]; exact errR_x _
  have e11 : errR s11.data.toList = 3 := by rw [h11]; exact errR_a (by omega)
  have el : errR sl.data.toList = 5 := by rw [hl]; exact errR_ones (by omega)
  have hbad : Bad #[.string ⟨#[48, 48]⟩, .string ⟨#[43, 53]⟩, .string ⟨#[45, 49]⟩, .string ⟨#[32, 49]⟩, .string ⟨#[49, 32]⟩, .string ⟨#[48, 120, 49]⟩, .string ⟨#[49, 46, 48]⟩, .string ⟨#[48, 49]⟩, .string s9, .string s10, .string s11] := by
    refine bad_of rfl ?_
    simp only [List.mem_cons, List.not_mem_nil, or_false, forall_eq_or_imp, forall_eq]
    refine ⟨⟨_, rfl, by decide +kernel, by decide⟩, ⟨_, rfl, by decide +kernel, by decide⟩, ⟨_, rfl, by decide +kernel, by decide⟩, ⟨_, rfl, by decide +kernel, by decide⟩, ⟨_, rfl, by decide +kernel, by decide⟩, ⟨_, rfl, by decide +kernel, by decide⟩, ⟨_, rfl, by decide +kernel, by decide⟩, ⟨_, rfl, by decide +kernel, by decide⟩, ⟨_, rfl, e9, z9⟩, ⟨_, rfl, e10, z10⟩, ⟨_, rfl, e11, z11⟩⟩
  have H9 := Lib.hid h9
  have HA := Lib.hid ha
  have HB := Lib.hid hb
  have HL := Lib.hid hl
  have ZL := Lib.hid zl
  have EL := Lib.hid el
  have HBAD := Lib.hid hbad
  clear h9 ha h10 hb h11 hl z9 z10 z11 zl e9 e10 e11 el hbad
  go_enter Tryd.func5, Tryd.ntmps5
  go_wp2_with fail
  refine (awake_calls _).mono ?_
  rintro e w1 ⟨rfl, x1⟩
  go_wp2_with fail
  go_loopw [1] (fun v1 wr => ∃ c : Nat, v1 = .int .i64 (c : Int) ∧ c ≤ 256 ∧ Ext w1 wr) (fun v1 _ => 256 - (intOf v1).toNat)
  case atStart => exact ⟨0, rfl, by omega, Ext.refl _⟩
  case round =>
    obtain ⟨c, rfl, hc, hx⟩ := hrel
    by_cases hc2 : c < 256
    · obtain ⟨s, hs⟩ := str_of [UInt8.ofNat c]
      have hcv := fun W => conv_byte W c hc2 s hs
      have hu : (UInt8.ofNat c).toNat = c := by simp; omega
      have zs : s.size ≤ maxLen := by rw [Lib.size_eq, hs, List.length_singleton]; unfold maxLen; omega
      have ZS := Lib.hid zs
      have HS := Lib.hid hs
      have hci : (c : Int) ≤ 255 := by omega
      by_cases hd : 48 ≤ c ∧ c ≤ 57
      · have hok : okd (UInt8.ofNat c) = true := by unfold okd; rw [hu]; simp [hd]
        have hE : Hid (errR s.data.toList = 0) := by show _ = _; rw [hs, errR_one, if_pos hok]
        have hR : Hid (readN s.data.toList = c - 48) := by show _ = _; rw [hs, readN_one hok, dv, hu]
        have hSH : Hid (s.data.toList = showL (c - 48)) := by
          show _ = _
          have := show_read hE.out
          rw [hR.out] at this
          exact this.symm
        obtain ⟨hd1, hd2⟩ := hd
        have hd3 : (48 : Int) ≤ (c : Int) := by omega
        have hd4 : (c : Int) ≤ 57 := by omega
        have HSM : Hid (((smallN (val (dig (c - 48))) : Nat) : Int) = (c : Int) - 48) := by
          show _ = _
          rw [val_dig, smallN, if_pos (small_Bs (by omega))]; omega
        have HSB : Hid (decide (val (dig (c - 48)) < Bs) = true) := by show _ = _; rw [val_dig]; simpa using small_Bs (by omega)
        have HDL : Hid ((dig (c - 48)).length ≤ 65536) := dig_lmax (k := 1) (by simpa using small_Bs (by omega)) (by omega)
        clear hs zs hok hu hd1 hd2
        go_wp2_with fail
        refine (read_str s _ ZS.out 0 (c - 48) (by rw [hE.out]; rfl) hR.out).mono ?_
        rintro e w2 ⟨a, rfl, ha, x2⟩
        go_wp2_with fail
        refine (small_calls ha.limbs (lmax_16 HDL.out)).mono ?_
        rintro e w3 ⟨rfl, rfl⟩
        rw [HSM.out, HSB.out]
        go_wp2_with fail
        refine (show_str ha.limbs HDL.out s (by rw [val_dig]; exact hSH.out)).mono ?_
        rintro e w4 ⟨rfl, x4⟩
        go_wp2_with fail
        exact ⟨⟨c + 1, by go_num, by omega, ((hx.alloc _).trans x2).trans x4⟩, by simp [intOf]; omega⟩
      · have hok : okd (UInt8.ofNat c) = false := by
          unfold okd; rw [hu, Bool.eq_false_iff]
          simp; omega
        have hE : Hid (((errR s.data.toList : Nat) : Int) = 3) := by show _ = _; rw [hs, errR_one, if_neg (by rw [hok]; simp)]; rfl
        have hd' : (c : Int) ≤ 47 ∨ (58 : Int) ≤ (c : Int) := by omega
        clear hs zs hok hu hd
        rcases hd' with hd | hd
        all_goals (
          go_wp2_with fail
          refine (read_str s _ ZS.out 3 _ hE.out rfl).mono ?_
          rintro e w2 ⟨a, rfl, ha, x2⟩
          go_wp2_with fail
          exact ⟨⟨c + 1, by go_num, by omega, (hx.alloc _).trans x2⟩, by simp [intOf]; omega⟩)
    · obtain rfl : c = 256 := by omega
      go_wp2_with fail
      refine (many0_str _ 48 _ rfl 20001 _ (by omega) (by omega) s9 H9.out).mono ?_
      rintro e w2 ⟨rfl, x2⟩
      go_wp2_with fail
      refine (many0_str _ 49 _ rfl 20000 _ (by omega) (by omega) sa HA.out).mono ?_
      rintro e w3 ⟨rfl, x3⟩
      go_wp2_with fail
      refine (many0_str _ 97 _ rfl 20005 _ (by omega) (by omega) sb HB.out).mono ?_
      rintro e w4 ⟨rfl, x4⟩
      have y4 := (((x1.trans hx).trans x2).trans x3).trans x4
      go_wp2_with fail
      go_loopw [71] (fun v71 wr => ∃ i : Nat, v71 = .int .i64 (i : Int) ∧ i ≤ 11 ∧ Ext (w4.alloc (.cells #[.string ⟨#[48, 48]⟩, .string ⟨#[43, 53]⟩, .string ⟨#[45, 49]⟩, .string ⟨#[32, 49]⟩, .string ⟨#[49, 32]⟩, .string ⟨#[48, 120, 49]⟩, .string ⟨#[49, 46, 48]⟩, .string ⟨#[48, 49]⟩, .string s9, .string s10, .string s11] 9)) wr) (fun v71 _ => 11 - (intOf v71).toNat)
      case atStart => exact ⟨0, rfl, by omega, Ext.refl _⟩
      case round =>
        obtain ⟨i, rfl, hi, hxx⟩ := hrel
        by_cases hi11 : i < 11
        · obtain ⟨t, ht, he, hz⟩ := HBAD.out i hi11
          have hcell : wr.cell? ⟨w4.heap.size, i, none⟩ = some (.string t) := by
            rw [Below.cell hxx (p := ⟨w4.heap.size, i, none⟩) (by simp), ← ht, cell_of_row _ w4.heap.size _ _ _ (0, 0) (heap_alloc_new w4 _)]
          have HZ := Lib.hid hz
          clear ht hz
          go_wp2_with fail
          refine (read_str t _ HZ.out 3 _ (by rw [he.out]; rfl) rfl).mono ?_
          rintro e w5 ⟨a, rfl, ha, x5⟩
          go_wp2_with fail
          exact ⟨⟨i + 1, by go_num, by omega, hxx.trans x5⟩, by simp [intOf]; omega⟩
        · obtain rfl : i = 11 := by omega
          have y5 := (y4.alloc _).trans hxx
          go_wp2_with fail
          refine (many0_str _ 49 _ rfl 20001 _ (by omega) (by omega) sl HL.out).mono ?_
          rintro e w6 ⟨rfl, x6⟩
          go_wp2_with fail
          refine (read_str sl _ ZL.out 5 _ (by rw [EL.out]; rfl) rfl).mono ?_
          rintro e w7 ⟨a, rfl, -, x7⟩
          go_wp2_with fail
          refine (read_str _ _ (by decide) 0 18446744073709551615 (by decide +kernel) (by decide +kernel)).mono ?_
          rintro e w8 ⟨b, rfl, hb, x8⟩
          go_wp2_with fail
          refine (same_true (hb.limbs.ext ((Ext.refl _).alloc _)) (litn _ [18446744073709551615] (by simp [Bs_def]) _ rfl _ rfl (by decide)) dig_max).mono ?_
          rintro e w9 ⟨rfl, x9⟩
          go_wp2_with fail
          refine (show_str (A := [5, 0, 0]) (litn _ _ (by simp [Bs_pos]; exact small_Bs (by decide)) _ rfl _ rfl (by decide)) (by decide) ⟨#[53]⟩ (by rw [show val [5, 0, 0] = 5 by simp [val]]; exact (showL_of (by decide +kernel) (by decide +kernel)).symm)).mono ?_
          rintro e wa ⟨rfl, xa⟩
          go_wp2_with fail
          refine (many_int (Limbs.nil _) (by decide) 1 rfl).mono ?_
          rintro e wb ⟨rfl, xb⟩
          go_wp2_with fail
          refine (power_int _ 19 (by decide) _ rfl).mono ?_
          rintro e wc ⟨p, rfl, hp, xc⟩
          go_wp2_with fail
          refine (many_int hp.limbs (Nat.le_trans (dig_len_le (k := 3) (by rw [Bs_def]; decide)) (by decide)) 20 (by rw [val_dig, show showL (10 ^ 19) = 49 :: List.replicate 19 48 from showL_of (by decide +kernel) (by decide +kernel)]; rfl)).mono ?_
          rintro e wd ⟨rfl, xd⟩
          go_wp2_with fail
          refine (show_str (A := [0, 0, 1]) (litn _ _ (by simp [Bs_pos, one_lt_Bs]) _ rfl _ rfl (by decide)) (by decide) ⟨#[51, 52, 48, 50, 56, 50, 51, 54, 54, 57, 50, 48, 57, 51, 56, 52, 54, 51, 52, 54, 51, 51, 55, 52, 54, 48, 55, 52, 51, 49, 55, 54, 56, 50, 49, 49, 52, 53, 54]⟩ (by rw [show val [0, 0, 1] = Bs * Bs by simp [val], Bs_def]; exact (showL_of (by decide +kernel) (by decide +kernel)).symm)).mono ?_
          rintro e we ⟨rfl, xe⟩
          go_wp2_with fail
          go_ret
          exact ⟨rfl, (((((((((y5.trans x6).trans x7).trans x8).alloc _).trans x9).alloc _).trans xa).trans xb).trans xc).trans xd |>.alloc _ |>.trans xe⟩
end Go.Proofs.YtocaimhmgpacmaaDoor
