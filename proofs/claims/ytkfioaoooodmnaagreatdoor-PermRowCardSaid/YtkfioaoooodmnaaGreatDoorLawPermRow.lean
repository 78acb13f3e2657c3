/- PermRow answers true at all draws. -/
import Derived.Test.YtkfioaoooodmnaaGreatDoorPartI
namespace Go.Proofs.YtkfioaoooodmnaaGreatDoor
open Go Go.RowKit

theorem swapL_app {L M : List Int} {i j : Nat} (hi : i < L.length) (hj : j < L.length) : swapL (L ++ M) i j = swapL L i j ++ M := by
  unfold swapL
  have e1 : (L ++ M).getD i 0 = L.getD i 0 := by simp [List.getD, List.getElem?_append_left hi]
  have e2 : (L ++ M).getD j 0 = L.getD j 0 := by simp [List.getD, List.getElem?_append_left hj]
  rw [e1, e2, List.set_append_left _ _ hi, List.set_append_left _ _ (by simpa using hj)]
theorem rowF_snoc : ∀ (ds : List Nat) (L M : List Int), okD ds → ds.length < L.length → rowF ds (L ++ M) = rowF ds L ++ M
  | [], L, M, _, _ => rfl
  | d :: ds, L, M, h, hl => by
    simp only [List.length_cons] at hl
    have h1 := h.1
    rw [rowF, swapL_app (by omega) (by omega), rowF_snoc ds _ M h.2 (by rw [swapL_length]; omega), rowF]
theorem swapL_map {L : List Int} {i j : Nat} (f : Int → Int) (hi : i < L.length) (hj : j < L.length) : swapL (L.map f) i j = (swapL L i j).map f := by
  unfold swapL
  have e1 : (L.map f).getD i 0 = f (L.getD i 0) := by simp [List.getD, hi]
  have e2 : (L.map f).getD j 0 = f (L.getD j 0) := by simp [List.getD, hj]
  rw [e1, e2, List.map_set, List.map_set]
theorem rowF_map (f : Int → Int) : ∀ (ds : List Nat) (L : List Int), okD ds → ds.length < L.length → rowF ds (L.map f) = (rowF ds L).map f
  | [], L, _, _ => rfl
  | d :: ds, L, h, hl => by
    simp only [List.length_cons] at hl
    have h1 := h.1
    rw [rowF, swapL_map f (by omega) (by omega), rowF_map f ds _ h.2 (by rw [swapL_length]; omega), rowF]
/-- by the first draw the last place is settled -/
theorem permL_cons {d : Int} {ds : List Int} (h : errP (d :: ds) = 0) : permL (d :: ds) = (permL ds).map (fun x => if x = d then ((ds.length + 1 : Nat) : Int) else x) ++ [d] := by
  obtain ⟨h1, h2, h3⟩ := errP_ok h
  obtain ⟨k, rfl⟩ : ∃ k : Nat, d = (k : Int) := ⟨d.toNat, by omega⟩
  have hk : k ≤ ds.length + 1 := by omega
  unfold permL
  show rowF ((k : Int).toNat :: natsOf ds) (things (ds.length + 1 + 1)) = _
  rw [Int.toNat_natCast, rowF, natsOf_length]
  have e : swapL (things (ds.length + 1 + 1)) (ds.length + 1) k = (things (ds.length + 1)).map (fun x => if x = (k : Int) then ((ds.length + 1 : Nat) : Int) else x) ++ [(k : Int)] := by
    refine ext_getD (by rw [swapL_length, things_length]; simp [things_length]) fun i hi => ?_
    rw [swapL_length, things_length] at hi
    rw [swapL_get (by rw [things_length]; omega) (by rw [things_length]; omega), things_get (by omega), things_get (by omega), things_get hi]
    rcases Nat.lt_or_ge i (ds.length + 1) with g | g
    · have e2 : ((things (ds.length + 1)).map (fun x => if x = (k : Int) then ((ds.length + 1 : Nat) : Int) else x) ++ [(k : Int)]).getD i 0 = if (i : Int) = k then ((ds.length + 1 : Nat) : Int) else (i : Int) := by
        have hl : i < ((things (ds.length + 1)).map (fun x => if x = (k : Int) then ((ds.length + 1 : Nat) : Int) else x)).length := by simpa [things_length] using g
        rw [getD_in (by simp [things_length]; omega), List.getElem_append_left hl, List.getElem_map]
        have := things_get g
        rw [getD_in (by rw [things_length]; exact g)] at this
        rw [this]
      rw [e2]
      by_cases c : i = k
      · rw [if_pos c, if_pos (by omega)]
      · rw [if_neg c, if_neg (by omega), if_neg (by omega)]
    · have e1 : i = ds.length + 1 := by omega
      subst e1
      have e2 : ((things (ds.length + 1)).map (fun x => if x = (k : Int) then ((ds.length + 1 : Nat) : Int) else x) ++ [(k : Int)]).getD (ds.length + 1) 0 = (k : Int) := by
        rw [getD_app (by simp [things_length])]
        simp [things_length]
      rw [e2]
      by_cases c : ds.length + 1 = k
      · rw [if_pos c]; omega
      · rw [if_neg c, if_pos rfl]
  rw [e, rowF_snoc _ _ _ h3.nats (by rw [natsOf_length]; simp [things_length]), rowF_map _ _ _ h3.nats (by rw [natsOf_length, things_length]; omega)]
theorem permL_last {d : Int} {ds : List Int} (h : errP (d :: ds) = 0) : (permL (d :: ds)).getD (ds.length + 1) 0 = d := by
  rw [permL_cons h, getD_app (by simp [permL_length])]
  simp [permL_length]
theorem permL_at {d : Int} {ds : List Int} (h : errP (d :: ds) = 0) {i : Nat} (hi : i < ds.length + 1) : (permL (d :: ds)).getD i 0 = if (permL ds).getD i 0 = d then ((ds.length + 1 : Nat) : Int) else (permL ds).getD i 0 := by
  have h1 : i < (permL ds).length := by rw [permL_length]; exact hi
  rw [permL_cons h, getD_in (by simp [permL_length]; omega), List.getElem_append_left (by simpa using h1), List.getElem_map, getD_in h1]
theorem errP_tail {d : Int} {ds : List Int} (h : errP (d :: ds) = 0) : errP ds = 0 := by
  obtain ⟨h1, -, h3⟩ := errP_ok h
  unfold errP
  rw [if_neg (by simp at h1; omega), if_pos h3]
/-- each thing stands once -/
theorem permL_count {D : List Int} (h : errP D = 0) {x : Nat} (hx : x < D.length + 1) : (permL D).count (x : Int) = 1 := by
  rw [(permL_perm h).count_eq]
  have hm : (x : Int) ∈ things (D.length + 1) := mem_things.2 (by omega)
  have := (List.nodup_iff_count.1 (things_nodup (D.length + 1))) (x : Int)
  have := List.count_pos_iff.2 hm
  omega
theorem count_next {L : List Int} {i : Nat} {x : Int} (h : i < L.length) : (L.take (i + 1)).count x = (L.take i).count x + if L.getD i 0 = x then 1 else 0 := by
  rw [List.take_succ_eq_append_getElem h, List.count_append, getD_in h]
  congr 1
  rw [List.count_singleton]
  by_cases e : L[i] = x
  · rw [if_pos e, if_pos (by simpa using e)]
  · rw [if_neg e, if_neg (by simpa using e)]
theorem ints_empty (w : World) (a : Option Addr) (_h : a ≠ none) : Ints w (.slice a 0 0) [] := by
  refine ⟨rfl, a, 0, rfl, Nat.le_refl _, Nat.zero_le _, fun e => ⟨rfl, rfl⟩, fun p hp h0 => absurd h0 (by simp)⟩

set_option maxHeartbeats 2000000 in
set_option maxRecDepth 100000 in
theorem permRow_no {w : World} {v : Value} {D : List Int} (hD : Ints w v D) (k : Nat) (h : errP D = k) (h0 : k ≠ 0) :
    Calls Tryz.prog 10 #[v] w (Yes w) := by
  obtain ⟨pd, cd, rfl⟩ := hD.slice
  have HD := Lib.hid hD
  have HE := Lib.hid h
  have H0 := Lib.hid h0
  have t1 : ((k : Int) != 0) = true := by rw [bne_iff_ne]; omega
  clear hD h h0
  by_cases hl : 200 < D.length
  · have t2 : (201 : Int) ≤ D.length := by omega
    clear hl
    go_enter Tryz.func10, Tryz.ntmps10
    go_wp2_with fail
    refine (prow_no HD.out k HE.out H0.out).mono ?_
    rintro e w1 ⟨rfl, x1⟩
    have X1 := Lib.hid x1
    clear x1
    go_wp2_with fail
    refine (awake12_calls _).mono ?_
    rintro e w2 ⟨rfl, x2⟩
    have X2 := Lib.hid x2
    clear x2
    go_wp2_with fail
    go_ret
    exact ⟨rfl, X1.out.trans X2.out⟩
  · have t2 : (D.length : Int) ≤ 200 := by omega
    clear hl
    go_enter Tryz.func10, Tryz.ntmps10
    go_wp2_with fail
    refine (prow_no HD.out k HE.out H0.out).mono ?_
    rintro e w1 ⟨rfl, x1⟩
    have X1 := Lib.hid x1
    clear x1
    go_wp2_with fail
    refine (awake12_calls _).mono ?_
    rintro e w2 ⟨rfl, x2⟩
    have X2 := Lib.hid x2
    clear x2
    go_wp2_with fail
    go_ret
    exact ⟨rfl, X1.out.trans X2.out⟩

set_option maxHeartbeats 4000000 in
set_option maxRecDepth 100000 in
theorem permRow_main {w : World} {v : Value} {D : List Int} (hD : Ints w v D) (h : errP D = 0) :
    Calls Tryz.prog 10 #[v] w (Yes w) := by
  obtain ⟨pd, cd, rfl⟩ := hD.slice
  obtain ⟨hl, hok⟩ := errP_ok h
  obtain ⟨m, hm⟩ : ∃ m, D.length = m := ⟨_, rfl⟩
  have HD := Lib.hid hD
  have HE := Lib.hid h
  have HM := Lib.hid hm
  have t1 : (m : Int) ≤ 63 := by omega
  obtain ⟨n, hn⟩ : ∃ n, m + 1 = n := ⟨_, rfl⟩
  have hn1 : (m : Int) + 1 = n := by omega
  have HN := Lib.hid hn
  have HPL : Hid ((permL D).length = n) := by show _ = _; rw [permL_length, hm, hn]
  rw [hm]
  clear hD h hl hok hm hn
  go_enter Tryz.func10, Tryz.ntmps10
  go_wp2_with fail
  refine (prow_ok (by have := HD.out; rwa [HM.out] at this) HE.out).mono ?_
  rintro e w1 ⟨g, gc, rfl, hg, hr, x1⟩
  rw [HM.out, HN.out]
  have R1 : Hid (RowG 3 g gc (permL D) w1) := hr.1
  have X1 := Lib.hid x1
  clear hg hr x1
  go_wp2_with fail
  refine (awake12_calls _).mono ?_
  rintro e w2 ⟨rfl, x2⟩
  have X2 := Lib.hid (X1.out.trans x2)
  have R2 := Lib.hid (R1.out.ext x2)
  clear x2
  have hw1 : IntKind.i64.wrap ((m : Int) + 1) = (n : Int) := by rw [IntWalk.i64_in _ (by omega)]; exact hn1
  go_wp2_with fail
  clear hw1
  go_loopw [6] (fun v6 wr => ∃ x : Nat, v6 = .int .i64 (x : Int) ∧ x ≤ n ∧ Ext w2 wr) (fun v6 _ => n - (intOf v6).toNat)
  case atStart => exact ⟨0, rfl, Nat.zero_le _, Ext.refl _⟩
  case round =>
    rename World => wo
    obtain ⟨x, rfl, hx, hxx⟩ := hrel
    have X := Lib.hid hxx
    have R := Lib.hid (R2.out.ext hxx)
    clear hxx
    by_cases hxn : x < n
    · have HXN := Lib.hid hxn
      go_wp2_with fail
      go_loopw [7, 8] (fun v7 v8 wr => ∃ (i c : Nat), v8 = .int .i64 (i : Int) ∧ i ≤ n ∧ v7 = .int .i64 (c : Int) ∧ Hid (((permL D).take i).count (x : Int) = c) ∧ c ≤ i ∧ Ext wo wr) (fun _ v8 _ => n - (intOf v8).toNat)
      case atStart => exact ⟨0, 0, rfl, Nat.zero_le _, rfl, by show _ = _; simp, Nat.le_refl _, Ext.refl _⟩
      case round =>
        obtain ⟨i, c, rfl, hi, rfl, hc, hci, hxx⟩ := hrel
        have XI := Lib.hid hxx
        have RI := Lib.hid (R.out.ext hxx)
        clear hxx
        by_cases hin : i < n
        · have HIN := Lib.hid hin
          obtain ⟨y, hy⟩ : ∃ y, (permL D).getD i 0 = y := ⟨_, rfl⟩
          have hcell := RI.out.cell (j := i) (by rw [HPL.out]; exact hin)
          rw [hy] at hcell
          have hnx := count_next (L := permL D) (i := i) (x := (x : Int)) (by rw [HPL.out]; exact hin)
          rw [hy, hc.out] at hnx
          have HNX := Lib.hid hnx
          clear hy hnx
          by_cases hyx : y = (x : Int)
          · subst hyx
            go_wp2_with fail
            refine ⟨⟨i + 1, c + 1, by go_num, HIN.out, by go_num, ?_, by omega, XI.out⟩, by simp [intOf]; have := HIN.out; omega⟩
            show _ = _
            rw [HNX.out, if_pos rfl]
          · have t9 : (y == (x : Int)) = false := by rw [beq_eq_false_iff_ne]; exact hyx
            have HYX := Lib.hid hyx
            go_wp2_with fail
            refine ⟨⟨i + 1, c, by go_num, HIN.out, rfl, ?_, by omega, XI.out⟩, by simp [intOf]; have := HIN.out; omega⟩
            show _ = _
            rw [HNX.out, if_neg HYX.out]; rfl
        · have e : n = i := by omega
          subst e
          have hc1 : c = 1 := by
            rw [← hc.out, List.take_of_length_le (by rw [HPL.out]; exact Nat.le_refl _)]
            exact permL_count HE.out (by rw [HM.out, HN.out]; exact HXN.out)
          subst hc1
          clear hc
          go_wp2_with fail
          exact ⟨⟨x + 1, by go_num, HXN.out, X.out.trans XI.out⟩, by simp [intOf]; have := HXN.out; omega⟩
    · have e : n = x := by omega
      subst e
      rcases Nat.eq_zero_or_pos m with h0 | h0
      · have : n = 1 := by have := HN.out; omega
        subst this
        go_wp2_with fail
        go_ret
        exact ⟨rfl, X2.out.trans X.out⟩
      · have hn2 : ((n : Int) == 1) = false := by rw [beq_eq_false_iff_ne]; have := HN.out; omega
        have HRW : Hid (∃ d ds, D = d :: ds ∧ ds.length + 1 = m) := by
          have := HM.out
          cases hd : D with
          | nil => rw [hd] at this; simp at this; omega
          | cons d ds => exact ⟨d, ds, rfl, by rw [hd] at this; simpa using this⟩
        obtain ⟨d, ds, hdd, hdl⟩ := HRW.out
        obtain ⟨pb, po, cap, hpd, hcells⟩ := ints_cell HD.out (by rw [HM.out]; exact h0)
        obtain ⟨epd, ecap⟩ : pd = some ⟨pb, po, none⟩ ∧ cd = cap := by injection hpd with a b c; exact ⟨a, c⟩
        subst epd ecap
        have hd0 : At pb po (.int .i64 d) w := by have := hcells 0 (by rw [HM.out]; exact h0); rw [hdd] at this; simpa using this
        have HD0 := Lib.hid hd0
        have HCO : Hid (permL D = (permL ds).map (fun x => if x = d then ((ds.length + 1 : Nat) : Int) else x) ++ [d]) := by show _ = _; rw [hdd]; exact permL_cons (by rw [← hdd]; exact HE.out)
        have HET : Hid (errP ds = 0) := errP_tail (by rw [← hdd]; exact HE.out)
        have HDL := Lib.hid hdl
        have HDD := Lib.hid hdd
        have hcapm : m ≤ cd := by obtain ⟨_, _, e, g1, -⟩ := HD.out.open; injection e with e1 e2 e3; rw [← HM.out, e3]; exact g1
        have hcapl : cd ≤ maxLen := by obtain ⟨_, _, e, -, g1, -⟩ := HD.out.open; injection e with e1 e2 e3; rw [e3]; exact g1
        have hm0 : (1 : Int) ≤ m := by omega
        unfold maxLen at hcapl
        have HIS : Hid (Ints w (.slice (some ⟨pb, po + 1, none⟩) (m - 1) (cd - 1)) ds) := by
          have h1 := HD.out
          rw [HM.out] at h1
          have := h1.drop (n := 1) (by rw [HM.out]; exact h0)
          rw [hdd] at this; exact this
        have XW := Lib.hid (X2.out.trans X.out)
        have hw1 : IntKind.i64.wrap ((n : Int) - 1) = (m : Int) := by rw [IntWalk.i64_in _ (by omega)]; omega
        clear hdd hdl hd0 hcells hpd
        have HLA : Hid ((permL D).getD m 0 = d) := by
          show _ = _
          have h1 := permL_last (d := d) (ds := ds) (by rw [← HDD.out]; exact HE.out)
          rwa [← HDD.out, HDL.out] at h1
        have HAT : Hid (∀ i, i < ds.length + 1 → (permL D).getD i 0 = if (permL ds).getD i 0 = d then ((ds.length + 1 : Nat) : Int) else (permL ds).getD i 0) := fun i hi => by
          rw [HDD.out]; exact permL_at (by rw [← HDD.out]; exact HE.out) hi
        by_cases hcap : cd = 1
        · have hm1 : 1 = m := by omega
          have hd1 : ds = [] := by have := HDL.out; exact List.length_eq_zero_iff.1 (by omega)
          subst hcap
          subst hm1
          have HIS : Hid (Ints w (.slice (some ⟨pb, po, none⟩) 0 0) ds) := by rw [hd1]; exact ints_empty w _ (by simp)
          clear hd1
          go_wp2_with fail
          refine (prow_ok (HIS.out.ext XW.out) HET.out).mono ?_
          rintro e w5 ⟨g2, gc2, rfl, hg2, hr2, x5⟩
          rw [HDL.out]
          have R5 : Hid (RowG 3 g2 gc2 (permL ds) w5) := hr2.1
          have RR := Lib.hid (R.out.ext x5)
          have X5 := Lib.hid (XW.out.trans x5)
          clear hg2 hr2 x5
          have hca := RR.out.cell (j := 1) (by rw [HPL.out]; omega)
          rw [HLA.out] at hca
          have hcb := (HD0.out.ext X5.out).1
          go_wp2_with fail
          go_quiet (fail)
          have E6 := Lib.hid ((Ext.refl w5).drewN nq)
          clear hca hcb
          go_wp2_with fail
          clear hw1
          go_loopw [11] (fun v11 wr => ∃ i : Nat, v11 = .int .i64 (i : Int) ∧ i ≤ 1 ∧ Ext w5 wr) (fun v11 _ => 1 - (intOf v11).toNat)
          case atStart => exact ⟨0, rfl, Nat.zero_le _, E6.out⟩
          case round =>
            obtain ⟨i, rfl, hi, hxx⟩ := hrel
            have XI := Lib.hid hxx
            have hw1 : IntKind.i64.wrap ((n : Int) - 1) = ((1 : Nat) : Int) := by rw [IntWalk.i64_in _ (by omega)]; omega
            clear hxx
            by_cases him : i < 1
            · have HIM := Lib.hid him
              have hgc := HAT.out i (by rw [HDL.out]; exact him)
              obtain ⟨y, hy⟩ : ∃ y, (permL ds).getD i 0 = y := ⟨_, rfl⟩
              rw [hy] at hgc
              have hc5 := (R5.out.ext XI.out).cell (j := i) (by rw [permL_length, HDL.out]; exact him)
              rw [hy] at hc5
              have hcr := (RR.out.ext XI.out).cell (j := i) (by rw [HPL.out]; omega)
              have hcb := (HD0.out.ext (X5.out.trans XI.out)).1
              clear hy
              by_cases hyd : y = d
              · subst hyd
                rw [if_pos rfl, HDL.out] at hgc
                rw [hgc] at hcr
                clear hgc
                go_wp2_with fail
                exact ⟨⟨i + 1, by go_num, HIM.out, XI.out⟩, by simp [intOf]; have := HIM.out; omega⟩
              · rw [if_neg hyd] at hgc
                rw [hgc] at hcr
                have t9 : (y == d) = false := by rw [beq_eq_false_iff_ne]; exact hyd
                clear hgc
                go_wp2_with fail
                exact ⟨⟨i + 1, by go_num, HIM.out, XI.out⟩, by simp [intOf]; have := HIM.out; omega⟩
            · have e : 1 = i := by omega
              subst e
              go_wp2_with fail
              go_ret
              exact ⟨rfl, X5.out.trans XI.out⟩
        · go_wp2_with fail
          refine (prow_ok (HIS.out.ext XW.out) HET.out).mono ?_
          rintro e w5 ⟨g2, gc2, rfl, hg2, hr2, x5⟩
          rw [HDL.out]
          have R5 : Hid (RowG 3 g2 gc2 (permL ds) w5) := hr2.1
          have RR := Lib.hid (R.out.ext x5)
          have X5 := Lib.hid (XW.out.trans x5)
          clear hg2 hr2 x5
          have hca := RR.out.cell (j := m) (by rw [HPL.out]; omega)
          rw [HLA.out] at hca
          have hcb := (HD0.out.ext X5.out).1
          go_wp2_with fail
          go_quiet (fail)
          have E6 := Lib.hid ((Ext.refl w5).drewN nq)
          clear hca hcb
          go_wp2_with fail
          clear hw1
          go_loopw [11] (fun v11 wr => ∃ i : Nat, v11 = .int .i64 (i : Int) ∧ i ≤ m ∧ Ext w5 wr) (fun v11 _ => m - (intOf v11).toNat)
          case atStart => exact ⟨0, rfl, Nat.zero_le _, E6.out⟩
          case round =>
            obtain ⟨i, rfl, hi, hxx⟩ := hrel
            have XI := Lib.hid hxx
            have hw1 : IntKind.i64.wrap ((n : Int) - 1) = (m : Int) := by rw [IntWalk.i64_in _ (by omega)]; omega
            clear hxx
            by_cases him : i < m
            · have HIM := Lib.hid him
              have hgc := HAT.out i (by rw [HDL.out]; exact him)
              obtain ⟨y, hy⟩ : ∃ y, (permL ds).getD i 0 = y := ⟨_, rfl⟩
              rw [hy] at hgc
              have hc5 := (R5.out.ext XI.out).cell (j := i) (by rw [permL_length, HDL.out]; exact him)
              rw [hy] at hc5
              have hcr := (RR.out.ext XI.out).cell (j := i) (by rw [HPL.out]; omega)
              have hcb := (HD0.out.ext (X5.out.trans XI.out)).1
              clear hy
              by_cases hyd : y = d
              · subst hyd
                rw [if_pos rfl, HDL.out] at hgc
                rw [hgc] at hcr
                clear hgc
                go_wp2_with fail
                exact ⟨⟨i + 1, by go_num, HIM.out, XI.out⟩, by simp [intOf]; have := HIM.out; omega⟩
              · rw [if_neg hyd] at hgc
                rw [hgc] at hcr
                have t9 : (y == d) = false := by rw [beq_eq_false_iff_ne]; exact hyd
                clear hgc
                go_wp2_with fail
                exact ⟨⟨i + 1, by go_num, HIM.out, XI.out⟩, by simp [intOf]; have := HIM.out; omega⟩
            · have e : m = i := by omega
              subst e
              go_wp2_with fail
              go_ret
              exact ⟨rfl, X5.out.trans XI.out⟩

theorem permRow_calls {w : World} {v : Value} {D : List Int} (hD : Ints w v D) : Calls Tryz.prog 10 #[v] w (Yes w) := by
  by_cases h : errP D = 0
  · exact permRow_main hD h
  · exact permRow_no hD _ rfl h
end Go.Proofs.YtkfioaoooodmnaaGreatDoor
