/- The reference's draws of a row: tombolaref12.Draws; Row of draws that are none. -/
import Derived.Test.YtkfioaoooodmnaaGreatDoorRefPerm
namespace Go.Proofs.YtkfioaoooodmnaaGreatDoor
open Go Go.RowKit

theorem perm_of_counts : ∀ (n : Nat) (R : List Int), R.length = n → (∀ x : Nat, x < n → R.count (x : Int) = 1) → R.Perm (things n)
  | 0, R, h, _ => by rw [List.length_eq_zero_iff.1 h]; exact List.Perm.refl _
  | n + 1, R, h, hc => by
    have hm : (n : Int) ∈ R := List.count_pos_iff.1 (by rw [hc n (Nat.lt_succ_self n)]; decide)
    have h1 : (R.erase (n : Int)).length = n := by rw [List.length_erase_of_mem hm, h]; rfl
    have h2 := perm_of_counts n (R.erase (n : Int)) h1 (fun x hx => by
      rw [List.count_erase_of_ne (by omega)]; exact hc x (by omega))
    rw [things_succ]
    exact (List.perm_cons_erase hm).trans ((h2.cons _).trans (List.perm_append_singleton _ _).symm)
theorem counts_of_perm {n : Nat} {R : List Int} (h : R.Perm (things n)) {x : Nat} (hx : x < n) : R.count (x : Int) = 1 := by
  rw [h.count_eq]
  exact (things_nodup n).count.trans (if_pos (mem_things.2 ⟨by omega, by omega⟩))
theorem count_upto (R : List Int) (x : Int) (i : Nat) (h : i < R.length) : (R.take (i + 1)).count x = (R.take i).count x + (if R.getD i 0 = x then 1 else 0) := by
  rw [List.take_add_one, List.count_append]
  simp [h, List.getD]
  by_cases e : R[i] = x <;> simp [e]

/-- in the midst of the reference's Draws: the things left, as it has them (now), and as swaps would have them (row) -/
structure DrIn (R : List Int) (n i : Nat) (now row : List Int) : Prop where
  perm : R.Perm row
  nod : row.Nodup
  len : now.length = n
  len' : row.length = n
  same : ∀ k, k ≤ i → now.getD k 0 = row.getD k 0
  tail : ∀ k, i < k → k < n → R.getD k 0 = row.getD k 0
theorem DrIn.start {R : List Int} {n : Nat} (h : R.Perm (things n)) : DrIn R n (n - 1) (things n) (things n) :=
  ⟨h, things_nodup n, things_length n, things_length n, fun _ _ => rfl, fun k h1 h2 => by omega⟩
theorem DrIn.pos {R : List Int} {n i j : Nat} {now row : List Int} (h : DrIn R n i now row) (hi : i < n) (hj : posL row (R.getD i 0) = j) :
    j ≤ i ∧ now.getD j 0 = R.getD i 0 ∧ row.getD j 0 = R.getD i 0 ∧ ∀ k, k < j → now.getD k 0 ≠ R.getD i 0 := by
  have hR : R.length = n := by rw [h.perm.length_eq, h.len']
  have hn : R.Nodup := h.perm.nodup_iff.2 h.nod
  have hm : R.getD i 0 ∈ row := h.perm.mem_iff.1 (by rw [getD_in (by omega)]; exact List.getElem_mem _)
  obtain ⟨p1, p2⟩ := posL_mem hm
  rw [hj] at p1 p2
  have hle : j ≤ i := by
    rcases Nat.lt_or_ge i j with g | g
    · have e := h.tail j g (by rw [← h.len']; exact p1)
      rw [p2] at e
      have e1 := posL_get hn (i := i) (by omega)
      have e2 := posL_get hn (i := j) (by rw [hR, ← h.len']; exact p1)
      rw [e] at e2; omega
    · exact g
  refine ⟨hle, by rw [h.same j hle, p2], p2, fun k hk e => ?_⟩
  rw [h.same k (by omega)] at e
  have hk' : k < posL row (R.getD i 0) := by rw [hj]; exact hk
  have := List.not_of_lt_findIdx hk'
  rw [getD_in (by omega)] at e
  simp [e] at this
theorem DrIn.step {R : List Int} {n i j : Nat} {now row : List Int} (h : DrIn R n (i + 1) now row) (hi : i + 1 < n) (hj : posL row (R.getD (i + 1) 0) = j) :
    DrIn R n i (now.set j (now.getD (i + 1) 0)) (swapL row (i + 1) j) := by
  obtain ⟨p1, p2, p3, -⟩ := h.pos hi hj
  have hjl : j < row.length := by rw [h.len']; omega
  have hil : i + 1 < row.length := by rw [h.len']; omega
  refine ⟨h.perm.trans (swapL_perm hil hjl).symm, (swapL_perm hil hjl).nodup_iff.2 h.nod, by rw [List.length_set, h.len], by rw [swapL_length, h.len'], fun k hk => ?_, fun k hk hk2 => ?_⟩
  · rw [getD_set, swapL_get hil hjl]
    by_cases e : k = j
    · subst e; rw [if_pos ⟨rfl, by rw [h.len]; omega⟩, if_pos rfl]; exact h.same _ (Nat.le_refl _)
    · rw [if_neg (fun q => e q.1.symm), if_neg e, if_neg (by omega)]; exact h.same _ (by omega)
  · rw [swapL_get hil hjl]
    by_cases e : k = j
    · subst e
      have : k = i + 1 := by omega
      subst this
      rw [if_pos rfl, p3]
    · rw [if_neg e]
      by_cases e2 : k = i + 1
      · subst e2; rw [if_pos rfl, p3]
      · rw [if_neg e2]; exact h.tail k (by omega) hk2
/-- what the reference's Draws tells -/
def drL (R : List Int) : List Int := if errR12 R = 0 then intsOf (drawsF R (R.length - 1) (things R.length)) else []
theorem drL_ok {R : List Int} (h : errR12 R = 0) : drL R = intsOf (drawsF R (R.length - 1) (things R.length)) := if_pos h
theorem drL_no {R : List Int} {k : Nat} (h : errR12 R = k) (h0 : k ≠ 0) : drL R = [] := if_neg (by omega)
theorem errR12_long {R : List Int} (h : 64 < R.length) : errR12 R = 5 := if_pos h
theorem drL_length (R : List Int) : (drL R).length ≤ 64 := by
  unfold drL
  split
  · rename_i h
    have := (errR12_ok h).1
    unfold intsOf
    rw [List.length_map, drawsF_length]; omega
  · simp

/-- in the midst of Draws' loop: the things, the draws so far -/
structure DrMm (w : World) (B g n : Nat) (out : List Nat) (now : List Int) (v : Value) (wr : World) : Prop where
  row : RowG 3 g n now wr
  out_ : RowMem 3 B (intsOf out) v w wr
  gB : g < B
  gw : w.heap.size ≤ g
  hB : B ≤ wr.heap.size
theorem DrMm.store {w : World} {B g n : Nat} {out : List Nat} {now : List Int} {v : Value} {wr : World} (h : DrMm w B g n out now v wr) (a : Nat) (x : Int) :
    DrMm w B g n out (now.set a x) v (wr.setCell ⟨g, a, none⟩ (.int .i64 x)) :=
  ⟨h.row.set a x, ⟨ownsRow_setCell_below h.out_.own (a := ⟨g, a, none⟩) h.gB _, h.out_.ext.setCell (p := ⟨g, a, none⟩) h.gw _, h.out_.lo⟩, h.gB, h.gw, by have := h.hB; simpa [World.setCell] using this⟩
theorem DrMm.drewN {w : World} {B g n : Nat} {out : List Nat} {now : List Int} {v : Value} {wr : World} (h : DrMm w B g n out now v wr) (k : Nat) :
    DrMm w B g n out now v (wr.drewN k) :=
  ⟨h.row.ext ((Ext.refl _).drewN k), ⟨ownsRow_ext' h.out_.own ((Ext.refl _).drewN k), h.out_.ext.drewN k, h.out_.lo⟩, h.gB, h.gw, h.hB⟩
theorem DrMm.grow {w : World} {B g n : Nat} {out : List Nat} {now : List Int} {v v' : Value} {wr w1 w' : World} {d : Nat} (h : DrMm w B g n out now v wr) (k : Ext wr w1) {C : List Value} (h1 : w'.ownsRow B 3 1 v' ((intsOf out).length + 1) ((intsOf out).map zv ++ C)) (hC : C = [zv (d : Int)]) (hg : w1.grownBy w' v.ownBlock) :
    DrMm w B g n (out ++ [d]) now v' w' := by
  subst hC
  have hr := h.out_.grow (A := [(d : Int)]) k h1 hg
  refine ⟨(h.row.ext k).grown hg (fun b hb => Nat.lt_of_lt_of_le h.gB (h.out_.own.lt b hb).1), ?_, h.gB, h.gw, Nat.le_trans h.hB (Nat.le_trans k.size hg.size)⟩
  have e : intsOf (out ++ [d]) = intsOf out ++ [(d : Int)] := by simp [intsOf]
  rw [e]; exact hr

set_option maxHeartbeats 2000000 in
set_option maxRecDepth 100000 in
theorem rpdraws_long {w : World} {v : Value} {R : List Int} (hR : Ints w v R) (h : 64 < R.length) :
    Calls Tryz.prog 39 #[v] w fun e w' => e = .returned (.tuple #[.slice none 0 0, .int .i64 5]) ∧ Ext w w' := by
  obtain ⟨a, cap, rfl, h1, h2, -⟩ := hR.open
  unfold maxLen at h2
  obtain ⟨n, hn⟩ : ∃ n, R.length = n := ⟨_, rfl⟩
  rw [hn] at h h1 ⊢
  have t1 : (65 : Int) ≤ n := by omega
  have t2 : (n : Int) ≤ 9223372036854775807 := by omega
  clear hR hn h h1 h2
  go_enter Tryz.func39, Tryz.ntmps39
  go_wp2_with fail
  go_ret2
  exact ⟨rfl, Ext.refl _⟩

set_option maxHeartbeats 8000000 in
set_option maxRecDepth 100000 in
theorem rpdraws_main {w : World} {v : Value} {R : List Int} (hR : Ints w v R) (h1 : 1 ≤ R.length) (h : R.length ≤ 64) :
    Calls Tryz.prog 39 #[v] w fun e w' => ∃ r, e = .returned (.tuple #[r, .int .i64 (errR12 R : Int)]) ∧ OwnZ 3 w.heap.size w' r (drL R) ∧ Ext w w' := by
  obtain ⟨a, cap, rfl, -, -, g3⟩ := hR.open
  have G3 := Lib.hid g3
  obtain ⟨n, hn⟩ : ∃ n, R.length = n := ⟨_, rfl⟩
  have HN := Lib.hid hn
  have NL : Hid (n ≤ 100000) := by show n ≤ 100000; omega
  have N1 : Hid (1 ≤ n) := by show 1 ≤ n; omega
  have N64 : Hid (n ≤ 64) := by show n ≤ 64; omega
  rw [hn] at h ⊢
  have t1 : (n : Int) ≤ 64 := by omega
  clear hR g3 hn h h1
  go_enter Tryz.func39, Tryz.ntmps39
  go_wp2_with fail
  go_loopw [5] (fun vx wr => ∃ x : Nat, vx = .int .i64 (x : Int) ∧ x ≤ n ∧ Hid (∀ y : Nat, y < x → R.count (y : Int) = 1) ∧ Ext w wr) (fun vx _ => n - (intOf vx).toNat)
  case atStart => exact ⟨0, rfl, Nat.zero_le _, fun y hy => absurd hy (Nat.not_lt_zero _), Ext.refl _⟩
  case round =>
    rename World => w1
    obtain ⟨x, rfl, hx, hc, hxt⟩ := hrel
    have X1 := Lib.hid hxt
    clear hxt
    by_cases hxn : x < n
    · have t2 : (x : Int) ≤ 63 := by omega
      have LX := Lib.hid hxn
      clear hx
      go_wp2_with fail
      go_loopw [6, 7] (fun vt vi wr => ∃ i t : Nat, vi = .int .i64 (i : Int) ∧ vt = .int .i64 (t : Int) ∧ i ≤ n ∧ t ≤ i ∧ Hid ((R.take i).count (x : Int) = t) ∧ Ext w wr) (fun _ vi _ => n - (intOf vi).toNat)
      case atStart => exact ⟨0, 0, rfl, rfl, Nat.zero_le _, Nat.le_refl _, rfl, X1.out⟩
      case round =>
        clear X1
        obtain ⟨i, t, rfl, rfl, hi, ht, hct, hxt⟩ := hrel
        have X := Lib.hid hxt
        have HT := Lib.hid ht
        clear hxt
        by_cases hin : i < n
        · obtain ⟨b, o, rfl, q1, q2⟩ := G3.out i (by rw [HN.out]; exact hin)
          obtain ⟨y, hy⟩ : ∃ y, R.getD i 0 = y := ⟨_, rfl⟩
          have cy : wr.cell? ⟨b, o + i, none⟩ = some (.int .i64 y) := by rw [Below.cell X.out (p := ⟨b, o + i, none⟩) q1, q2 i (by rw [HN.out]; exact hin), hy]
          have hcu := count_upto R (x : Int) i (by rw [HN.out]; exact hin)
          rw [hy, hct.out] at hcu
          have LT := Lib.hid hin
          have ti : (t : Int) ≤ 64 := by omega
          by_cases hyx : y = (x : Int)
          · subst hyx
            rw [if_pos rfl] at hcu
            have HCU := Lib.hid hcu
            clear q2 hy hcu hct ht hi hin
            go_wp2_with fail
            exact ⟨⟨i + 1, t + 1, by go_num, by go_num, LT.out, Nat.succ_le_succ HT.out, HCU.out, X.out⟩, by simp [intOf]; have := LT.out; omega⟩
          · rw [if_neg hyx, Nat.add_zero] at hcu
            have HCU := Lib.hid hcu
            clear q2 hy hcu hct ht hi hin
            go_wp2_with fail
            exact ⟨⟨i + 1, t, by go_num, rfl, LT.out, Nat.le_succ_of_le HT.out, HCU.out, X.out⟩, by simp [intOf]; have := LT.out; omega⟩
        · obtain rfl : n = i := by omega
          have hct2 : R.count (x : Int) = t := by have := hct.out; rwa [List.take_of_length_le (by rw [HN.out]; exact Nat.le_refl _)] at this
          by_cases ht1 : t = 1
          · subst ht1
            have HC2 : Hid (∀ y : Nat, y < x + 1 → R.count (y : Int) = 1) := fun y hy => by
              rcases Nat.lt_or_ge y x with h | h
              · exact hc.out y h
              · obtain rfl : y = x := by omega
                exact hct2
            clear hct hct2 ht hi hin
            go_wp2_with fail
            exact ⟨⟨x + 1, by go_num, LX.out, HC2.out, X.out⟩, by simp [intOf]; have := LX.out; omega⟩
          · have HE : Hid (errR12 R = 3) := errR12_not (by rw [HN.out]; exact N64.out) (fun hp => ht1 (by rw [← hct2]; rw [HN.out] at hp; exact counts_of_perm hp LX.out))
            have t3 : ¬ (t : Int) = 1 := by omega
            have t4 : ((t : Int) != 1) = true := by rw [bne_iff_ne]; exact t3
            clear hct hct2 ht hi hin hc ht1
            go_wp2_with fail
            go_ret2
            exact ⟨.slice none 0 0, by rw [HE.out]; rfl, by rw [drL_no HE.out (by decide)]; exact ⟨OwnI.nil _ _ _, by decide⟩, X.out⟩
    · obtain rfl : n = x := by omega
      have HP : Hid (R.Perm (things n)) := perm_of_counts n R HN.out hc.out
      have HE : Hid (errR12 R = 0) := errR12_of (by rw [HN.out]; exact N64.out) (by rw [HN.out]; exact HP.out)
      clear hc hx hxn
      go_wp2_with (at_make; refine make_ints rfl _ _ 65 3 Tryz.underlying65 info_int rfl n _ rfl rfl rfl NL.out ?_; intro w2 hown hgrow; have X2 : Hid (Ext w w2) := X1.out.trans ((Ext.refl w1).grown hgrow (fun k hk => by cases hk)); have R2 : Hid (RowG 3 w1.heap.size n (List.replicate n 0) w2) := RowG.made hown (by simp); clear hown hgrow)
      obtain ⟨g, hg⟩ : ∃ g, w1.heap.size = g := ⟨_, rfl⟩
      have HG : Hid (w.heap.size ≤ g) := by have := X1.out.size; show _ ≤ g; omega
      rw [hg] at R2 ⊢
      clear hg
      go_loopw [9] (fun vk wr => ∃ k : Nat, vk = .int .i64 (k : Int) ∧ k ≤ n ∧ RowG 3 g n (thingsTo n k) wr ∧ Ext w wr) (fun vk _ => n - (intOf vk).toNat)
      case atStart => exact ⟨0, rfl, Nat.zero_le _, by rw [thingsTo_zero]; exact R2.out, X2.out⟩
      case round =>
        clear R2 X2 X1
        rename World => w3
        obtain ⟨k, rfl, hk, hr, hx⟩ := hrel
        have RR := Lib.hid hr
        have X3 := Lib.hid hx
        clear hr hx
        by_cases hkn : k < n
        · have hc := RR.out.cell (j := k) (by rw [thingsTo_length hk]; exact hkn)
          have hf := RR.out.free k
          have LT := Lib.hid hkn
          go_wp2_with fail
          refine ⟨⟨k + 1, by go_num, LT.out, ?_, X3.out.setCell HG.out _⟩, by simp [intOf]; have := LT.out; omega⟩
          rw [← thingsTo_set LT.out]; exact RR.out.set k _
        · obtain rfl : n = k := by omega
          have R3 : Hid (RowG 3 g n (things n) w3) := by have := RR.out; rwa [thingsTo_all] at this
          clear RR
          obtain ⟨m, hm⟩ : ∃ m, n = m + 1 := ⟨n - 1, by have := N1.out; omega⟩
          have hwm : IntKind.i64.wrap ((n : Int) - 1) = (m : Int) := by rw [IntWalk.i64_in _ (by omega)]; omega
          have HM : Hid (n = m + 1) := hm
          have hmn : (m : Int) + 1 ≤ n := by omega
          obtain ⟨B, hB⟩ : ∃ B, w3.heap.size = B := ⟨_, rfl⟩
          have D3 : Hid (DrMm w B g n [] (things n) (.slice none 0 0) w3) := ⟨R3.out, ⟨World.ownsRow_nil .., X3.out, by rw [← hB]; exact X3.out.size⟩, by rw [← hB]; exact R3.out.lt, HG.out, by rw [hB]; exact Nat.le_refl _⟩
          have S3 : Hid (DrIn R n m (things n) (things n)) := by have := DrIn.start HP.out; rwa [show n - 1 = m by omega] at this
          clear hB hm R3 X3 hk hkn
          go_wp2_with fail
          clear hwm
          go_loopw [10, 11] (fun vo vi wr => ∃ (i : Nat) (out : List Nat) (now row : List Int), vi = .int .i64 (i : Int) ∧ i ≤ m ∧ Hid (drawsF R m (things n) = out ++ drawsF R i row ∧ DrIn R n i now row ∧ out.length ≤ 64 - i) ∧ DrMm w B g n out now vo wr) (fun _ vi _ => (intOf vi).toNat)
          case atStart => exact ⟨m, [], things n, things n, rfl, Nat.le_refl _, ⟨rfl, S3.out, Nat.zero_le _⟩, D3.out⟩
          case round =>
            clear D3 S3
            rename World => w4
            obtain ⟨i, out, now, row, rfl, him, hp, hD⟩ := hrel
            have DM := Lib.hid hD
            have HIM := Lib.hid him
            obtain ⟨va, vc, rfl⟩ := row_sliceI hD.out_.own
            clear hD him
            rcases Nat.eq_zero_or_pos i with h0 | h0
            · subst h0
              have HF : Hid (drL R = intsOf out) := by show _ = _; rw [drL_ok HE.out, HN.out, show n - 1 = m by have := HM.out; omega, hp.out.1]; simp [drawsF]
              go_wp2_with fail
              go_ret2
              exact ⟨_, by rw [HE.out]; rfl, by rw [HF.out]; exact ⟨DM.out.out_.ownI.mono DM.out.out_.lo, by decide⟩, DM.out.out_.ext⟩
            · obtain ⟨q, rfl⟩ : ∃ q, i = q + 1 := ⟨i - 1, by omega⟩
              obtain ⟨hd1, hin, hol⟩ := hp.out
              have hq : q + 1 < n := by have := HIM.out; have := HM.out; omega
              obtain ⟨j, hj⟩ : ∃ j, posL row (R.getD (q + 1) 0) = j := ⟨_, rfl⟩
              obtain ⟨p1, p2, p3, p4⟩ := hin.pos hq hj
              obtain ⟨x, hx⟩ : ∃ x, R.getD (q + 1) 0 = x := ⟨_, rfl⟩
              obtain ⟨z, hz⟩ : ∃ z, now.getD (q + 1) 0 = z := ⟨_, rfl⟩
              obtain ⟨b, o, rfl, q1, q2⟩ := G3.out (q + 1) (by rw [HN.out]; exact hq)
              have HCX : Hid (At b (o + (q + 1)) (.int .i64 x) w) := ⟨by rw [q2 (q + 1) (by rw [HN.out]; exact hq), hx], q1⟩
              have HIN2 := Lib.hid (hin.step hq hj)
              have HREL : Hid (drawsF R m (things n) = (out ++ [j]) ++ drawsF R q (swapL row (q + 1) j) ∧ DrIn R n q (now.set j z) (swapL row (q + 1) j) ∧ (out ++ [j]).length ≤ 64 - q) := by
                refine ⟨?_, by rw [← hz]; exact HIN2.out, by simp; have := HIM.out; have := HM.out; have := N64.out; omega⟩
                rw [hd1, List.append_assoc]
                show _ ++ (posL row (R.getD (q + 1) 0) :: drawsF R q (swapL row (q + 1) (posL row (R.getD (q + 1) 0)))) = _
                rw [hj]; rfl
              have PJ := Lib.hid p1
              have PX : Hid (now.getD j 0 = x) := by show _ = _; rw [p2, hx]
              have PB : Hid (∀ k, k < j → now.getD k 0 ≠ x) := fun k hk => by rw [← hx]; exact p4 k hk
              have NLEN : Hid (now.length = n) := hin.len
              have HZ := Lib.hid hz
              have HQ := Lib.hid hq
              have HLN : Hid ((intsOf out).length + [((j : Nat) : Int)].length ≤ 100000) := by show _ ≤ 100000; simp [intsOf]; omega
              clear hd1 hin hol hj p1 p2 p3 p4 hx hz q1 q2 HIN2 hp h0
              have hqn : (q : Int) + 1 ≤ 63 := by have := HQ.out; omega
              go_wp2_with fail
              go_loopw [12] (fun vj wr => ∃ k : Nat, vj = .int .i64 (k : Int) ∧ k ≤ j ∧ DrMm w B g n out now (.slice va (intsOf out).length vc) wr) (fun vj _ => j - (intOf vj).toNat)
              case atStart => exact ⟨0, rfl, Nat.zero_le _, DM.out⟩
              case round =>
                clear DM
                rename World => w5
                obtain ⟨k, rfl, hkj, hD⟩ := hrel
                have DM := Lib.hid hD
                have KJ := Lib.hid hkj
                clear hD
                have hjn : j < n := by have := PJ.out; have := HQ.out; omega
                have hcx := (HCX.out.ext DM.out.out_.ext).1
                obtain ⟨y, hy⟩ : ∃ y, now.getD k 0 = y := ⟨_, rfl⟩
                have hcy := DM.out.row.cell (j := k) (by rw [NLEN.out]; omega)
                rw [hy] at hcy
                have hkn : k < n := by omega
                have HY := Lib.hid hy
                clear hy
                by_cases hke : k = j
                · subst hke
                  have e : y = x := by rw [← HY.out, PX.out]
                  subst e
                  clear hkj
                  go_wp2_with fail
                  go_quiet (fail)
                  obtain ⟨w6, hw6⟩ : ∃ W, W = w5.drewN nq := ⟨_, rfl⟩
                  have DM6 : Hid (DrMm w B g n out now (.slice va (intsOf out).length vc) w6) := by rw [hw6]; exact DM.out.drewN nq
                  rw [← hw6]
                  clear hw6 DM hcx hcy
                  have cz := DM6.out.row.cell (j := q + 1) (by rw [NLEN.out]; exact HQ.out)
                  rw [HZ.out] at cz
                  have ck := DM6.out.row.cell (j := k) (by rw [NLEN.out]; exact hkn)
                  rw [HY.out] at ck
                  have fk := DM6.out.row.free k
                  have hq2 : q + 1 < n := HQ.out
                  have DM7 := Lib.hid (DM6.out.store k z)
                  obtain ⟨W7, hW7⟩ : ∃ W, w6.setCell ⟨g, k, none⟩ (.int .i64 z) = W := ⟨_, rfl⟩
                  rw [hW7] at DM7
                  have HEX := Lib.hid ((Ext.refl W7).alloc (.cells #[.int .i64 (k : Int)] 3))
                  have HRW := Lib.hid (ownsRow_ext' DM7.out.out_.own HEX.out)
                  have HBS : Hid (B ≤ (W7.alloc (.cells #[.int .i64 (k : Int)] 3)).heap.size) := Nat.le_trans DM7.out.hB HEX.out.size
                  have HI7 : Hid (Ints (W7.alloc (.cells #[.int .i64 (k : Int)] 3)) (.slice (some ⟨w6.heap.size, 0, none⟩) 1 1) [(k : Int)]) := by
                    have := ints_lit (t := 3) W7 [(k : Int)] #[.int .i64 (k : Int)] rfl 1 rfl (by simp)
                    rwa [show W7.heap.size = w6.heap.size by rw [← hW7]; simp [World.setCell]] at this
                  have HW7 := Lib.hid hW7
                  clear hW7
                  go_wp2_with (at_builtin; rw [HW7.out]; refine append_ints rfl _ _ 65 3 Tryz.underlying65 info_int rfl B _ _ _ rfl HRW.out HBS.out _ [(k : Int)] rfl HI7.out HLN.out ?_; intro v' w' hown' hgrow; have HN2 := Lib.hid (DM7.out.grow HEX.out hown' rfl hgrow); clear hown' hgrow)
                  exact ⟨⟨q, out ++ [k], _, _, by first | rfl | go_num, by have := HIM.out; omega, HREL.out, HN2.out⟩, by simp [intOf]⟩
                · have hne : ¬ y = x := by rw [← HY.out]; exact PB.out k (by omega)
                  have hne2 : (y != x) = true := by rw [bne_iff_ne]; exact hne
                  have LT : Hid (k < j) := by show k < j; omega
                  clear hke hkj
                  go_wp2_with fail
                  go_quiet (fail)
                  go_wp2_with fail
                  exact ⟨⟨k + 1, by go_num, LT.out, DM.out.drewN _⟩, by simp [intOf]; have := LT.out; omega⟩

set_option maxHeartbeats 2000000 in
set_option maxRecDepth 100000 in
theorem rpdraws_none {w : World} {p : Option Addr} {cap : Nat} :
    Calls Tryz.prog 39 #[.slice p 0 cap] w fun e w' => e = .returned (.tuple #[.slice none 0 0, .int .i64 0]) ∧ Ext w w' := by
  go_enter Tryz.func39, Tryz.ntmps39
  go_wp2_with fail
  refine wp_loop_rounds 1 ?_
  rw [rounds_succ]
  go_wp2_with (at_make; refine make_ints rfl _ _ 65 3 Tryz.underlying65 info_int rfl 0 _ rfl rfl rfl (by decide) ?_; intro w2 hown hgrow; have X2 : Hid (Ext w w2) := (Ext.refl w).grown hgrow (fun k hk => by cases hk); clear hown hgrow)
  refine wp_loop_rounds 1 ?_
  rw [rounds_succ]
  go_wp2_with fail
  refine wp_loop_rounds 1 ?_
  rw [rounds_succ]
  go_wp2_with fail
  go_ret2
  exact ⟨rfl, X2.out⟩

theorem rpdraws_all {w : World} {v : Value} {R : List Int} (hR : Ints w v R) (c : Nat) (hc : errR12 R = c) (L : List Int) (hL : drL R = L) :
    Calls Tryz.prog 39 #[v] w fun e w' => ∃ r, e = .returned (.tuple #[r, .int .i64 (c : Int)]) ∧ OwnZ 3 w.heap.size w' r L ∧ Ext w w' := by
  subst hc hL
  by_cases h : 64 < R.length
  · refine (rpdraws_long hR h).mono ?_
    rintro e w' ⟨rfl, hx⟩
    exact ⟨_, by rw [errR12_long h]; rfl, by rw [drL_no (errR12_long h) (by decide)]; exact ⟨OwnI.nil _ _ _, by decide⟩, hx⟩
  · rcases Nat.eq_zero_or_pos R.length with h0 | h0
    · obtain ⟨a, cap, rfl⟩ := hR.slice
      have e := List.length_eq_zero_iff.1 h0
      subst e
      refine (rpdraws_none).mono ?_
      rintro e w' ⟨rfl, hx⟩
      have e0 : errR12 [] = 0 := errR12_of (by decide) (List.Perm.refl _)
      exact ⟨_, by rw [e0]; rfl, by rw [drL_ok e0]; exact ⟨OwnI.nil _ _ _, by decide⟩, hx⟩
    · exact rpdraws_main hR h0 (by omega)

/-- what perm.Draws tells -/
theorem pdraws_all {w : World} {v : Value} {R : List Int} (hR : Ints w v R) (c : Nat) (hc : errR12 R = c) (L : List Int) (hL : drL R = L) :
    Calls Tryz.prog 42 #[v] w fun e w' => ∃ r, e = .returned (.tuple #[r, .int .i64 (c : Int)]) ∧ OwnZ 3 w.heap.size w' r L ∧ Ext w w' := by
  subst hL
  by_cases h : c = 0
  · subst h
    refine (pdraws_z hR hc).mono ?_
    rintro e w' ⟨r, rfl, h1, h2⟩
    exact ⟨r, rfl, by rw [drL_ok hc]; exact h1, h2⟩
  · refine (pdraws_no hR c hc h).mono ?_
    rintro e w' ⟨rfl, hx⟩
    exact ⟨_, rfl, by rw [drL_no hc h]; exact ⟨OwnI.nil _ _ _, by decide⟩, hx⟩

set_option maxHeartbeats 2000000 in
set_option maxRecDepth 100000 in
theorem rrow_no {w : World} {v : Value} {D : List Int} (hD : Ints w v D) (hl2 : D.length ≤ 200) (k : Nat) (h : errP D = k) (h0 : k ≠ 0) :
    Calls Tryz.prog 38 #[v] w fun e w' => e = .returned (.tuple #[.slice none 0 0, .int .i64 (k : Int)]) ∧ Ext w w' := by
  obtain ⟨a, cap, rfl, h1, h2, h3⟩ := hD.open
  have H3 := Lib.hid h3
  obtain ⟨n, hn⟩ : ∃ n, D.length = n := ⟨_, rfl⟩
  have HN := Lib.hid hn
  rw [hn] at h1 ⊢
  obtain ⟨m, hm⟩ : ∃ m, n + 1 = m := ⟨_, rfl⟩
  have HM := Lib.hid hm
  have hw0 : IntKind.i64.wrap ((n : Int) + 1) = (m : Int) := by rw [IntWalk.i64_in _ (by omega)]; omega
  have tn : (n : Int) ≤ 200 := by omega
  have tm : (m : Int) ≤ 201 := by omega
  by_cases hl : 64 ≤ n
  · have HK : Hid (k = 5) := by show _ = _; rw [← h]; unfold errP; rw [hn, if_pos hl]
    have t1 : (65 : Int) ≤ m := by omega
    clear h3 hD h hn hl h0 h1 h2 hl2 hm
    go_enter Tryz.func38, Tryz.ntmps38
    go_wp2_with fail
    go_ret2
    exact ⟨by rw [HK.out]; rfl, Ext.refl _⟩
  have hk : k = 1 ∧ ¬ okI D := by
    unfold errP at h
    rw [hn, if_neg hl] at h
    split at h
    · exact absurd h.symm h0
    · rename_i g; exact ⟨h.symm, g⟩
  obtain ⟨rfl, hno⟩ := hk
  have HNO := Lib.hid hno
  have t1 : (m : Int) ≤ 64 := by omega
  clear h3 hD h hn hl h0 hno h1 h2 hl2 hm
  go_enter Tryz.func38, Tryz.ntmps38
  go_wp2_with fail
  clear hw0
  go_loopw [5] (fun v5 wr => ∃ k : Nat, v5 = .int .i64 (k : Int) ∧ k ≤ n ∧ Hid (∀ j, j < k → 0 ≤ D.getD j 0 ∧ D.getD j 0 ≤ ((D.length - j : Nat) : Int)) ∧ Ext w wr) (fun v5 _ => n - (intOf v5).toNat)
  case atStart => exact ⟨0, rfl, Nat.zero_le _, fun j hj => absurd hj (Nat.not_lt_zero _), Ext.refl _⟩
  case round =>
    obtain ⟨k, rfl, hk, hok, hx⟩ := hrel
    have X := Lib.hid hx
    clear hx
    by_cases hkn : k < n
    · obtain ⟨b, o, rfl, hb, hc⟩ := H3.out k (by rw [HN.out]; exact hkn)
      obtain ⟨z, hz⟩ : ∃ z, D.getD k 0 = z := ⟨_, rfl⟩
      obtain ⟨i, hi⟩ : ∃ i, m - k = i := ⟨_, rfl⟩
      have hmn := HM.out
      have hcd : wr.cell? ⟨b, o + k, none⟩ = some (.int .i64 z) := by rw [Below.cell X.out (p := ⟨b, o + k, none⟩) hb, hc k (by rw [HN.out]; exact hkn), hz]
      have hwr : IntKind.i64.wrap ((m : Int) - k) = (i : Int) := by rw [IntWalk.i64_in _ (by omega)]; omega
      have HKN := Lib.hid hkn
      by_cases hz0 : z < 0
      · clear hc hi hz hmn hok
        go_wp2_with fail
        go_ret2
        exact ⟨rfl, X.out⟩
      by_cases hzi : (i : Int) ≤ z
      · clear hc hi hz hmn hok
        go_wp2_with fail
        go_ret2
        exact ⟨rfl, X.out⟩
      have HOK : Hid (∀ j, j < k + 1 → 0 ≤ D.getD j 0 ∧ D.getD j 0 ≤ ((D.length - j : Nat) : Int)) := fun j hj => by
        by_cases e : j < k
        · exact hok.out j e
        · obtain rfl : j = k := by omega
          rw [hz, HN.out]; omega
      have hz1 : 0 ≤ z := by omega
      have hz2 : z + 1 ≤ (i : Int) := by omega
      clear hc hi hz hmn hok hz0 hzi
      go_wp2_with fail
      exact ⟨⟨k + 1, by go_num, HKN.out, HOK.out, X.out⟩, by simp [intOf]; have := HKN.out; omega⟩
    · obtain rfl : n = k := by omega
      exact absurd (okI_of (fun j hj => hok.out j (by rw [HN.out] at hj; exact hj))) HNO.out

/-- what Row tells -/
def rwL (D : List Int) : List Int := if errP D = 0 then permL D else []
theorem rwL_ok {D : List Int} (h : errP D = 0) : rwL D = permL D := if_pos h
theorem rwL_no {D : List Int} {k : Nat} (h : errP D = k) (h0 : k ≠ 0) : rwL D = [] := if_neg (by omega)
theorem rwL_length (D : List Int) : (rwL D).length ≤ 64 := by
  unfold rwL
  split
  · rename_i h
    have := (errP_ok h).1
    rw [permL_length]; omega
  · simp
theorem prow_all {w : World} {v : Value} {D : List Int} (hD : Ints w v D) (c : Nat) (hc : errP D = c) (L : List Int) (hL : rwL D = L) :
    Calls Tryz.prog 41 #[v] w fun e w' => ∃ r, e = .returned (.tuple #[r, .int .i64 (c : Int)]) ∧ OwnZ 3 w.heap.size w' r L ∧ Ext w w' := by
  subst hL
  by_cases h : c = 0
  · subst h
    rw [rwL_ok hc]
    exact prow_z hD hc
  · refine (prow_no hD c hc h).mono ?_
    rintro e w' ⟨rfl, hx⟩
    exact ⟨_, rfl, by rw [rwL_no hc h]; exact ⟨OwnI.nil _ _ _, by decide⟩, hx⟩
theorem rrow_all {w : World} {v : Value} {D : List Int} (hD : Ints w v D) (hl : D.length ≤ 200) (c : Nat) (hc : errP D = c) (L : List Int) (hL : rwL D = L) :
    Calls Tryz.prog 38 #[v] w fun e w' => ∃ r, e = .returned (.tuple #[r, .int .i64 (c : Int)]) ∧ OwnZ 3 w.heap.size w' r L ∧ Ext w w' := by
  subst hL
  by_cases h : c = 0
  · subst h
    rw [rwL_ok hc]
    refine (rrow_ok hD hc).mono ?_
    rintro e w' ⟨g, cap, rfl, h1, h2, h3⟩
    exact ⟨_, rfl, h2.z (by rw [rowF_length, things_length]) h1, h3⟩
  · refine (rrow_no hD hl c hc h).mono ?_
    rintro e w' ⟨rfl, hx⟩
    exact ⟨_, rfl, by rw [rwL_no hc h]; exact ⟨OwnI.nil _ _ _, by decide⟩, hx⟩
end Go.Proofs.YtkfioaoooodmnaaGreatDoor
