/- The reference's rows: Row of draws that are ones. -/
import Derived.Test.YtkfioaoooodmnaaGreatDoorRefDraw
import Derived.Test.YtkfioaoooodmnaaGreatDoorPartI
namespace Go.Proofs.YtkfioaoooodmnaaGreatDoor
open Go Go.RowKit

set_option maxHeartbeats 4000000 in
set_option maxRecDepth 100000 in
theorem rrow_ok {w : World} {v : Value} {D : List Int} (hD : Ints w v D) (h : errP D = 0) :
    Calls Tryz.prog 38 #[v] w fun e w' => ∃ g cap, e = .returned (.tuple #[.slice (some ⟨g, 0, none⟩) (D.length + 1) cap, .int .i64 0]) ∧ w.heap.size ≤ g ∧ RowZ 3 g cap (rowF (natsOf D) (things (D.length + 1))) w' ∧ Ext w w' := by
  obtain ⟨a, cap, rfl, h1, h2, h3⟩ := hD.open
  unfold maxLen at h2
  have H3 := Lib.hid h3
  have hl := errP_ok h
  obtain ⟨n, hn⟩ : ∃ n, D.length = n := ⟨_, rfl⟩
  have HN := Lib.hid hn
  have HO := Lib.hid hl.2
  have t1 : (n : Int) ≤ 63 := by have := hl.1; omega
  obtain ⟨m, hm⟩ : ∃ m, n + 1 = m := ⟨_, rfl⟩
  have HM := Lib.hid hm
  have t2 : (m : Int) ≤ 64 := by omega
  have ML : Hid (m ≤ 100000) := by show m ≤ 100000; omega
  rw [hn] at h1 ⊢
  rw [hm]
  have hw0 : IntKind.i64.wrap ((n : Int) + 1) = (m : Int) := by rw [IntWalk.i64_in _ (by omega)]; omega
  clear h3 hD h hl hn hm
  go_enter Tryz.func38, Tryz.ntmps38
  go_wp2_with fail
  clear hw0
  go_loopw [5] (fun v5 wr => ∃ k : Nat, v5 = .int .i64 (k : Int) ∧ k ≤ n ∧ Ext w wr) (fun v5 _ => n - (intOf v5).toNat)
  case atStart => exact ⟨0, rfl, Nat.zero_le _, Ext.refl _⟩
  case round =>
    rename World => w1
    obtain ⟨k, rfl, hk, hx⟩ := hrel
    have X := Lib.hid hx
    clear hx
    by_cases hkn : k < n
    · obtain ⟨b, o, rfl, hb, hc⟩ := H3.out k (by rw [HN.out]; exact hkn)
      obtain ⟨hd1, hd2⟩ := HO.out.get (k := k) (by rw [HN.out]; exact hkn)
      obtain ⟨d, hd⟩ : ∃ d, D.getD k 0 = d := ⟨_, rfl⟩
      rw [hd] at hd1
      rw [hd, HN.out] at hd2
      have hcd : w1.cell? ⟨b, o + k, none⟩ = some (.int .i64 d) := by rw [Below.cell X.out (p := ⟨b, o + k, none⟩) hb, hc k (by rw [HN.out]; exact hkn), hd]
      obtain ⟨i, hi⟩ : ∃ i, m - k = i := ⟨_, rfl⟩
      have hmn := HM.out
      have hw1 : IntKind.i64.wrap ((m : Int) - k) = (i : Int) := by rw [IntWalk.i64_in _ (by omega)]; omega
      have hdi : d + 1 ≤ (i : Int) := by omega
      have LT := Lib.hid hkn
      clear hc hd hi hd2 hmn
      go_wp2_with fail
      exact ⟨⟨k + 1, by go_num, LT.out, X.out⟩, by simp [intOf]; have := LT.out; omega⟩
    · obtain rfl : n = k := by omega
      go_wp2_with (at_make; refine make_ints rfl _ _ 65 3 Tryz.underlying65 info_int rfl m _ rfl rfl rfl ML.out ?_; intro w2 hown hgrow; have X1 : Hid (Ext w w2) := X.out.trans ((Ext.refl w1).grown hgrow (fun k hk => by cases hk)); have R1 : Hid (RowG 3 w1.heap.size m (List.replicate m 0) w2) := RowG.made hown (by simp); clear hown hgrow)
      obtain ⟨g, hg⟩ : ∃ g, w1.heap.size = g := ⟨_, rfl⟩
      have HG : Hid (w.heap.size ≤ g) := by have := X.out.size; show _ ≤ g; omega
      rw [hg] at R1 ⊢
      clear hg
      go_loopw [7] (fun v7 wr => ∃ k : Nat, v7 = .int .i64 (k : Int) ∧ k ≤ m ∧ RowG 3 g m (thingsTo m k) wr ∧ Ext w wr) (fun v7 _ => m - (intOf v7).toNat)
      case atStart => exact ⟨0, rfl, Nat.zero_le _, by rw [thingsTo_zero]; exact R1.out, X1.out⟩
      case round =>
        clear R1 X1
        rename World => w3
        obtain ⟨k, rfl, hk, hr, hx⟩ := hrel
        have R := Lib.hid hr
        have X3 := Lib.hid hx
        clear hr hx
        by_cases hkn : k < m
        · have hc := R.out.cell (j := k) (by rw [thingsTo_length hk]; exact hkn)
          have hf := R.out.free k
          have LT := Lib.hid hkn
          go_wp2_with fail
          refine ⟨⟨k + 1, by go_num, LT.out, ?_, X3.out.setCell HG.out _⟩, by simp [intOf]; have := LT.out; omega⟩
          rw [← thingsTo_set LT.out]; exact R.out.set k _
        · obtain rfl : m = k := by omega
          have R3 : Hid (RowG 3 g m (things m) w3) := by have := R.out; rwa [thingsTo_all] at this
          clear R
          go_wp2_with fail
          go_loopw [8] (fun v8 wr => ∃ k : Nat, v8 = .int .i64 (k : Int) ∧ k ≤ n ∧ RowG 3 g m (rowTo (natsOf D) k (things m)) wr ∧ Ext w wr) (fun v8 _ => n - (intOf v8).toNat)
          case atStart => exact ⟨0, rfl, Nat.zero_le _, R3.out, X3.out⟩
          case round =>
            clear R3
            obtain ⟨k, rfl, hk, hr, hx⟩ := hrel
            have R := Lib.hid hr
            have X := Lib.hid hx
            clear hr hx
            by_cases hkn : k < n
            · obtain ⟨b, o, rfl, hb, hc⟩ := H3.out k (by rw [HN.out]; exact hkn)
              obtain ⟨hd1, hd2⟩ := HO.out.get (k := k) (by rw [HN.out]; exact hkn)
              obtain ⟨d, hd⟩ : ∃ d : Nat, D.getD k 0 = (d : Int) := ⟨(D.getD k 0).toNat, by omega⟩
              obtain ⟨i, hi⟩ : ∃ i, n - k = i := ⟨_, rfl⟩
              rw [hd, HN.out, hi] at hd2
              have hmn := HM.out
              have hcd : wr.cell? ⟨b, o + k, none⟩ = some (.int .i64 (d : Int)) := by rw [Below.cell X.out (p := ⟨b, o + k, none⟩) hb, hc k (by rw [HN.out]; exact hkn), hd]
              have hw1 : IntKind.i64.wrap ((m : Int) - 1) = (n : Int) := by rw [IntWalk.i64_in _ (by omega)]; omega
              have hw2 : IntKind.i64.wrap ((n : Int) - k) = (i : Int) := by rw [IntWalk.i64_in _ (by omega)]; omega
              have hin : i < m := by omega
              have hdn : d < m := by omega
              have LL : Hid ((rowTo (natsOf D) k (things m)).length = m) := by show _ = _; rw [rowTo_length, things_length]
              have HS : Hid (swapL (rowTo (natsOf D) k (things m)) i d = rowTo (natsOf D) (k + 1) (things m)) := by
                show _ = _
                rw [rowTo, natsOf_length, HN.out, hi, natsOf_get (by rw [HN.out]; exact hkn), hd]; rfl
              obtain ⟨L, hL⟩ : ∃ L, rowTo (natsOf D) k (things m) = L := ⟨_, rfl⟩
              rw [hL] at HS R LL
              obtain ⟨x, hx⟩ : ∃ x, L.getD i 0 = x := ⟨_, rfl⟩
              obtain ⟨y, hy⟩ : ∃ y, L.getD d 0 = y := ⟨_, rfl⟩
              have HX := Lib.hid hx
              have HY := Lib.hid hy
              have HKN := Lib.hid hkn
              clear hc hd1 hd hi hL hx hy hd2 hmn
              go_wp2_with fail
              go_quiet (fail)
              have R6 := Lib.hid (R.out.ext ((Ext.refl wr).drewN nq))
              have X6 := Lib.hid (X.out.drewN nq)
              obtain ⟨w6, hw6⟩ : ∃ W, W = wr.drewN nq := ⟨_, rfl⟩
              rw [← hw6] at R6 X6 ⊢
              have ci := R6.out.cell (j := i) (by rw [LL.out]; exact hin)
              have cd := R6.out.cell (j := d) (by rw [LL.out]; exact hdn)
              rw [HX.out] at ci
              rw [HY.out] at cd
              have fi := R6.out.free i
              have fd := R6.out.free d
              have HE2 : Hid (RowG 3 g m (rowTo (natsOf D) (k + 1) (things m)) ((w6.setCell ⟨g, i, none⟩ (.int .i64 y)).setCell ⟨g, d, none⟩ (.int .i64 x))) := by
                rw [← HS.out, swapL, HX.out, HY.out]
                exact (R6.out.set i y).set d x
              have HX2 : Hid (Ext w ((w6.setCell ⟨g, i, none⟩ (.int .i64 y)).setCell ⟨g, d, none⟩ (.int .i64 x))) := (X6.out.setCell HG.out _).setCell HG.out _
              clear hw6 hw1 hw2 hcd
              by_cases hid : i = d
              · subst hid
                have e := HX.out.symm.trans HY.out
                subst e
                go_wp2_with fail
                exact ⟨⟨k + 1, by go_num, HKN.out, HE2.out, HX2.out⟩, by simp [intOf]; have := HKN.out; omega⟩
              · have hid2 : ¬ d = i := fun e => hid e.symm
                go_wp2_with fail
                exact ⟨⟨k + 1, by go_num, HKN.out, HE2.out, HX2.out⟩, by simp [intOf]; have := HKN.out; omega⟩
            · obtain rfl : n = k := by omega
              have HR : Hid (RowG 3 g m (rowF (natsOf D) (things m)) wr) := by have := R.out; rwa [← HN.out, ← natsOf_length D, rowTo_all] at this
              go_wp2_with fail
              go_ret2
              exact ⟨g, m, rfl, HG.out, ⟨HR.out, by decide⟩, X.out⟩
end Go.Proofs.YtkfioaoooodmnaaGreatDoor
