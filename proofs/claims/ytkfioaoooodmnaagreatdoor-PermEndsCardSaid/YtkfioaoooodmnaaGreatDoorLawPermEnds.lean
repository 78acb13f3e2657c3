/- PermEnds answers true at all numbers. -/
import Derived.Test.YtkfioaoooodmnaaGreatDoorPartI
import Derived.Test.YtkfioaoooodmnaaGreatDoorRegApp
namespace Go.Proofs.YtkfioaoooodmnaaGreatDoor
open Go Go.RowKit

/-- the greatest draws -/
def topL : Nat → List Int
  | 0 => []
  | m + 1 => ((m : Int) + 1) :: topL m
theorem topL_length : ∀ m, (topL m).length = m
  | 0 => rfl
  | m + 1 => by simp [topL, topL_length m]
theorem topL_get : ∀ {m k : Nat}, k < m → (topL m).getD k 0 = ((m - k : Nat) : Int)
  | m + 1, 0, _ => by simp [topL]
  | m + 1, k + 1, h => by
    have := topL_get (m := m) (k := k) (by omega)
    simpa [topL] using this
theorem okI_top : ∀ m, okI (topL m)
  | 0 => trivial
  | m + 1 => ⟨⟨by omega, by rw [topL_length]; omega⟩, okI_top m⟩
theorem okI_zero : ∀ m, okI (List.replicate m 0)
  | 0 => trivial
  | m + 1 => by
    rw [List.replicate_succ]
    exact ⟨⟨by omega, by omega⟩, okI_zero m⟩
theorem errP_small {D : List Int} (h : D.length ≤ 63) (k : okI D) : errP D = 0 := by
  unfold errP
  rw [if_neg (by omega), if_pos k]
theorem swapL_self {l : List Int} {i : Nat} (h : i < l.length) : swapL l i i = l := by
  refine ext_getD (swapL_length _ _ _) fun k _ => ?_
  rw [swapL_get h h]
  by_cases e : k = i
  · rw [if_pos e, e]
  · rw [if_neg e, if_neg e]
theorem rowF_top : ∀ (m : Nat) (l : List Int), m < l.length → rowF (natsOf (topL m)) l = l
  | 0, _, _ => rfl
  | m + 1, l, h => by
    have e : natsOf (topL (m + 1)) = (m + 1) :: natsOf (topL m) := by
      simp only [natsOf, topL, List.map_cons]
      rfl
    rw [e, rowF, natsOf_length, topL_length, swapL_self (by omega)]
    exact rowF_top m l (by omega)
theorem rowF_zero : ∀ (m : Nat) (l : List Int), m < l.length → ∀ k, (rowF (List.replicate m 0) l).getD k 0 = if k < m then l.getD (k + 1) 0 else if k = m then l.getD 0 0 else l.getD k 0
  | 0, l, _, k => by
    rw [if_neg (by omega)]
    by_cases e : k = 0
    · rw [if_pos e, e]; rfl
    · rw [if_neg e]; rfl
  | m + 1, l, h, k => by
    rw [List.replicate_succ, rowF, List.length_replicate, rowF_zero m _ (by rw [swapL_length]; omega)]
    have g := fun j => swapL_get (l := l) (i := m + 1) (j := 0) h (by omega) j
    rw [g, g, g]
    rcases Nat.lt_trichotomy k m with c | c | c
    · rw [if_pos c, if_neg (show ¬ k + 1 = 0 by omega), if_neg (show ¬ k + 1 = m + 1 by omega), if_pos (show k < m + 1 by omega)]
    · subst c
      rw [if_neg (Nat.lt_irrefl _), if_pos rfl, if_pos rfl, if_pos (show k < k + 1 by omega)]
    · rw [if_neg (show ¬ k < m by omega), if_neg (show ¬ k = m by omega), if_neg (show ¬ k = 0 by omega), if_neg (show ¬ k < m + 1 by omega)]
theorem permL_top (m : Nat) : rowF (natsOf (topL m)) (things (m + 1)) = things (m + 1) := rowF_top m _ (by rw [things_length]; omega)
theorem permL_zero {m k : Nat} (h : k < m + 1) : (rowF (natsOf (List.replicate m 0)) (things (m + 1))).getD k 0 = if k < m then ((k + 1 : Nat) : Int) else 0 := by
  have e : natsOf (List.replicate m 0) = List.replicate m 0 := by simp [natsOf]
  rw [e, rowF_zero m _ (by rw [things_length]; omega)]
  by_cases c : k < m
  · rw [if_pos c, if_pos c, things_get (by omega)]
  · rw [if_neg c, if_neg c, if_pos (by omega), things_get (by omega)]; rfl
/-- the first of the greatest draws are laid, the others are 0 -/
def topTo (m k : Nat) : List Int := (topL m).take k ++ List.replicate (m - k) 0
theorem topTo_length {m k : Nat} (h : k ≤ m) : (topTo m k).length = m := by simp [topTo, topL_length]; omega
theorem topTo_zero (m : Nat) : topTo m 0 = List.replicate m 0 := by simp [topTo]
theorem topTo_all (m : Nat) : topTo m m = topL m := by
  unfold topTo
  rw [List.take_of_length_le (by rw [topL_length]; exact Nat.le_refl _)]
  simp
theorem topTo_set {m k : Nat} (h : k < m) : (topTo m k).set k ((m - k : Nat) : Int) = topTo m (k + 1) := by
  have hl : ((topL m).take k).length = k := by simp [topL_length]; omega
  unfold topTo
  rw [List.set_append_right _ _ (by rw [hl]; exact Nat.le_refl _), hl, Nat.sub_self, List.take_succ_eq_append_getElem (by rw [topL_length]; exact h), List.append_assoc]
  obtain ⟨j, hj⟩ : ∃ j, m - k = j + 1 := ⟨m - k - 1, by omega⟩
  have e := topL_get h
  rw [getD_in (by rw [topL_length]; exact h)] at e
  rw [e, hj, show m - (k + 1) = j by omega]
  simp [List.replicate_succ]

set_option maxHeartbeats 4000000 in
set_option maxRecDepth 100000 in
theorem permEnds_calls (w : World) (n : Nat) (hn : n < 256) :
    Calls Tryz.prog 11 #[.int .u8 (n : Int)] w (Yes w) := by
  obtain ⟨m, hm⟩ : ∃ m, n % 64 = m := ⟨_, rfl⟩
  obtain ⟨k, hk⟩ : ∃ k, m + 1 = k := ⟨_, rfl⟩
  have n1 : (n : Int) ≤ 255 := by omega
  have hk1 : (n : Int) % 64 = (m : Int) := by omega
  have m1 : (m : Int) ≤ 63 := by omega
  have M63 : Hid (m ≤ 63) := by show m ≤ 63; omega
  have HK := Lib.hid hk
  have k1 : (k : Int) ≤ 64 := by omega
  have k0 : (1 : Int) ≤ (k : Int) := by omega
  have hw0 : IntKind.i64.wrap (1 + (m : Int)) = (k : Int) := by rw [IntWalk.i64_in _ (by omega)]; omega
  have hw1 : IntKind.i64.wrap ((k : Int) - 1) = (m : Int) := by rw [IntWalk.i64_in _ (by omega)]; omega
  clear hn hm hk
  go_enter Tryz.func11, Tryz.ntmps11
  go_wp2_with fail
  refine (awake12_calls _).mono ?_
  rintro e w1 ⟨rfl, x1⟩
  have X1 := Lib.hid x1
  clear x1
  go_wp2_with fail
  (try simp only [List.append_eq, List.cons_append, List.nil_append])
  refine wp_region_app ⟨[18, 19, 20, 21, 22, 23, 4, 5], fun i => ([Sa.val (.int .i64 (k : Int)), Sa.val (.int .i64 (m : Int)), Sa.made 3 w1.heap.size m (List.replicate m 0), Sa.val (.int .i64 (k : Int)), Sa.val (.int .i64 (m : Int)), Sa.made 3 w1.heap.size m (List.replicate m 0), Sa.made 3 w1.heap.size m (List.replicate m 0), Sa.made 3 w1.heap.size m (List.replicate m 0)] : List Sa).getD i (Sa.val undef), fun i => ([none, none, none, none, none, none, some 2, some 5] : List (Option Nat)).getD i none⟩ (by kernel_rfl) (by kernel_rfl) ?hs ?he
  case hs =>
    refine ⟨?_, ?_, ?_, ?_, ?_, ?_, ?_, ?_, trivial⟩
    · refine AStep.op rfl rfl (fun ac wk hp K hK => ?_)
      have t3_ : ac.tmps[3]?.getD undef = .int .i64 (k : Int) := hp.slot 3 rfl rfl
      clear hp
      go_simp
      exact hK.out _ _ rfl (Ext.refl _) (fun b h => h.elim)
    · refine AStep.op rfl rfl (fun ac wk hp K hK => ?_)
      have t18_ : ac.tmps[18]?.getD undef = .int .i64 (k : Int) := slot_is' (hp.get 0 (by decide +kernel) (by kernel_rfl))
      clear hp
      go_simp
      exact hK.out _ _ rfl (Ext.refl _) (fun b h => h.elim)
    · refine AStep.op rfl rfl (fun ac wk hp K hK => ?_)
      have t19_ : ac.eval (.tmp 19) = .int .i64 (m : Int) := hp.get 1 (by decide +kernel) (by kernel_rfl)
      have hsz := hp.ext.size
      clear hp
      refine wp_make_ints _ _ 65 3 Tryz.underlying65 info_int rfl m t19_ t19_ (by omega) fun w' hr hg => ?_
      exact hK.out _ _ ⟨_, rfl, hsz, by simp, hr⟩ ((Ext.refl wk).grown hg (fun k hk => by cases hk)) (fun b h => by have e : wk.heap.size = b := Option.some.inj h; omega)
    · refine AStep.op rfl rfl (fun ac wk hp K hK => ?_)
      have t3_ : ac.tmps[3]?.getD undef = .int .i64 (k : Int) := hp.slot 3 rfl rfl
      clear hp
      go_simp
      exact hK.out _ _ rfl (Ext.refl _) (fun b h => h.elim)
    · refine AStep.op rfl rfl (fun ac wk hp K hK => ?_)
      have t21_ : ac.tmps[21]?.getD undef = .int .i64 (k : Int) := slot_is' (hp.get 3 (by decide +kernel) (by kernel_rfl))
      clear hp
      go_simp
      exact hK.out _ _ rfl (Ext.refl _) (fun b h => h.elim)
    · refine AStep.op rfl rfl (fun ac wk hp K hK => ?_)
      have t22_ : ac.eval (.tmp 22) = .int .i64 (m : Int) := hp.get 4 (by decide +kernel) (by kernel_rfl)
      have hsz := hp.ext.size
      clear hp
      refine wp_make_ints _ _ 65 3 Tryz.underlying65 info_int rfl m t22_ t22_ (by omega) fun w' hr hg => ?_
      exact hK.out _ _ ⟨_, rfl, hsz, by simp, hr⟩ ((Ext.refl wk).grown hg (fun k hk => by cases hk)) (fun b h => by have e : wk.heap.size = b := Option.some.inj h; omega)
    · refine AStep.eat 2 rfl rfl (fun ac wk hp K hK => ?_)
      obtain ⟨g, he, h1, h2, h3⟩ := hp.get 2 (by decide +kernel) (by kernel_rfl)
      have t20_ : ac.tmps[20]?.getD undef = .slice (some ⟨g, 0, none⟩) m m := slot_is' he
      clear hp
      go_simp
      exact hK.out _ _ none ⟨g, rfl, h1, h2, h3⟩ (World.grownBy.refl _ _) (fun b h => by cases h) (fun b h => .inl (by show Value.ownBlock _ = _; rw [he]; exact h))
    · refine AStep.eat 5 rfl rfl (fun ac wk hp K hK => ?_)
      obtain ⟨g, he, h1, h2, h3⟩ := hp.get 5 (by decide +kernel) (by kernel_rfl)
      have t23_ : ac.tmps[23]?.getD undef = .slice (some ⟨g, 0, none⟩) m m := slot_is' he
      clear hp
      go_simp
      exact hK.out _ _ none ⟨g, rfl, h1, h2, h3⟩ (World.grownBy.refl _ _) (fun b h => by cases h) (fun b h => .inl (by show Value.ownBlock _ = _; rw [he]; exact h))
  case he =>
    intro ac w2 hag hx hpost hdis
    obtain ⟨gt, et, hbt, -, hrt⟩ := hpost 6 (by decide) (by kernel_rfl)
    obtain ⟨gl, el, hbl, -, hrl⟩ := hpost 7 (by decide) (by kernel_rfl)
    have hne : gl ≠ gt := fun e => hdis 6 7 gt (by decide) (by decide) (by decide) (by kernel_rfl) (by kernel_rfl) (by show Value.ownBlock _ = _; rw [et]; rfl) (by show Value.ownBlock _ = _; rw [el, e]; rfl)
    have z0_ : sl ac 18 = .int .i64 (k : Int) := hpost 0 (by decide) (by kernel_rfl)
    have z1_ : sl ac 19 = .int .i64 (m : Int) := hpost 1 (by decide) (by kernel_rfl)
    have z3_ : sl ac 21 = .int .i64 (k : Int) := hpost 3 (by decide) (by kernel_rfl)
    have z4_ : sl ac 22 = .int .i64 (m : Int) := hpost 4 (by decide) (by kernel_rfl)
    obtain ⟨v2, z2_⟩ : ∃ v, sl ac 20 = v := ⟨_, rfl⟩
    obtain ⟨v5, z5_⟩ : ∃ v, sl ac 23 = v := ⟨_, rfl⟩
    have z6_ : sl ac 4 = .slice (some ⟨gt, 0, none⟩) m m := et
    have z7_ : sl ac 5 = .slice (some ⟨gl, 0, none⟩) m m := el
    have HNE := Lib.hid hne
    have RT := Lib.hid hrt
    have RL := Lib.hid hrl
    have X2 := Lib.hid (X1.out.trans hx)
    have BT : Hid (w.heap.size ≤ gt) := Nat.le_trans X1.out.size hbt
    rw [hag.lay]
    simp only [lay, List.foldl_cons, List.foldl_nil, List.setIfInBounds_toArray, List.set_cons_zero, List.set_cons_succ, z0_, z1_, z2_, z3_, z4_, z5_, z6_, z7_]
    clear hag hx hpost hdis et el hbt hbl hrt hrl hne z0_ z1_ z2_ z3_ z4_ z5_ z6_ z7_
    go_wp2_with fail
    go_loopw [6] (fun v6 wr => ∃ j : Nat, v6 = .int .i64 (j : Int) ∧ j ≤ m ∧ RowG 3 gt m (topTo m j) wr ∧ RowG 3 gl m (List.replicate m 0) wr ∧ Ext w wr) (fun v6 _ => m - (intOf v6).toNat)
    case atStart => exact ⟨0, rfl, Nat.zero_le _, by rw [topTo_zero]; exact RT.out, RL.out, X2.out⟩
    case round =>
      clear RT RL X2
      rename World => w3
      obtain ⟨j, rfl, hj, hrt, hrl, hx⟩ := hrel
      have RT := Lib.hid hrt
      have RL := Lib.hid hrl
      have X3 := Lib.hid hx
      clear hrt hrl hx
      by_cases hjm : j < m
      · have LT := Lib.hid hjm
        have hc := RT.out.cell (j := j) (by rw [topTo_length hj]; exact hjm)
        have hf := RT.out.free j
        have hw2 : IntKind.i64.wrap ((m : Int) - (j : Int)) = ((m - j : Nat) : Int) := by rw [IntWalk.i64_in _ (by omega)]; omega
        go_wp2_with fail
        refine ⟨⟨j + 1, by go_num, LT.out, ?_, RL.out.other HNE.out _ _, X3.out.setCell BT.out _⟩, by simp [intOf]; have := LT.out; omega⟩
        rw [← topTo_set LT.out]; exact RT.out.set j _
      · have e : m = j := by omega
        subst e
        have IT : Hid (Ints w3 (.slice (some ⟨gt, 0, none⟩) m m) (topL m)) := by
          have h := RT.out
          rw [topTo_all] at h
          exact (RowZ.z ⟨h, by decide⟩ (topL_length m) (Nat.le_refl _)).ints
        have IL : Hid (Ints w3 (.slice (some ⟨gl, 0, none⟩) m m) (List.replicate m 0)) := (RowZ.z ⟨RL.out, by decide⟩ (by simp) (Nat.le_refl _)).ints
        clear RT RL
        have TL : Hid ((topL m).length = m) := topL_length m
        have ZL : Hid ((List.replicate m (0 : Int)).length = m) := by show _ = _; simp
        go_wp2_with fail
        refine (prow_ok IT.out (errP_small (by rw [topL_length]; exact M63.out) (okI_top m))).mono ?_
        rintro e w4 ⟨ga, ca, rfl, -, hra, x4⟩
        rw [TL.out, HK.out] at hra ⊢
        have RA : Hid (RowG 3 ga ca (things k) w4) := by
          have h := hra.1
          have e := HK.out
          subst e
          rwa [permL_top] at h
        have X4 := Lib.hid (X3.out.trans x4)
        have IL4 := Lib.hid (IL.out.ext x4)
        clear hra x4
        go_wp2_with fail
        refine (prow_ok IL4.out (errP_small (by simp; exact M63.out) (okI_zero m))).mono ?_
        rintro e w5 ⟨gb, cb, rfl, -, hrb, x5⟩
        rw [ZL.out, HK.out] at hrb ⊢
        have RB : Hid (RowG 3 gb cb (rowF (natsOf (List.replicate m 0)) (things k)) w5) := hrb.1
        have X5 := Lib.hid (X4.out.trans x5)
        have RA5 := Lib.hid (RA.out.ext x5)
        clear hrb x5
        go_wp2_with fail
        clear hw0 hw1
        go_loopw [11] (fun v11 wr => ∃ i : Nat, v11 = .int .i64 (i : Int) ∧ i ≤ k ∧ Ext w5 wr) (fun v11 _ => k - (intOf v11).toNat)
        case atStart => exact ⟨0, rfl, Nat.zero_le _, Ext.refl _⟩
        case round =>
          obtain ⟨i, rfl, hi, hxx⟩ := hrel
          have XI := Lib.hid hxx
          clear hxx
          by_cases hik : i < k
          · have LT := Lib.hid hik
            have hca := (RA5.out.ext XI.out).cell (j := i) (by rw [things_length]; exact hik)
            rw [things_get hik] at hca
            have hcb := (RB.out.ext XI.out).cell (j := i) (by rw [rowF_length, things_length]; exact hik)
            have hpz := permL_zero (m := m) (k := i) (by rw [HK.out]; exact hik)
            rw [HK.out] at hpz
            rw [hpz] at hcb
            clear hpz
            have hw3 : IntKind.i64.wrap ((i : Int) + 1) = ((i + 1 : Nat) : Int) := by rw [IntWalk.i64_in _ (by omega)]; omega
            have hkk := HK.out
            by_cases him : i < m
            · rw [if_pos him] at hcb
              have hmd : ((i + 1 : Nat) : Int) % (k : Int) = ((i + 1 : Nat) : Int) := Int.emod_eq_of_lt (by omega) (by omega)
              generalize hq : ((i + 1 : Nat) : Int) = q at *
              go_wp2_with fail
              go_quiet (fail)
              have E6 := Lib.hid ((Ext.refl wr).drewN nq)
              go_wp2_with fail
              exact ⟨⟨i + 1, by go_num, LT.out, XI.out.trans E6.out⟩, by simp [intOf]; have := LT.out; omega⟩
            · rw [if_neg him] at hcb
              have hmd : (k : Int) % (k : Int) = 0 := Int.emod_self
              rw [show i + 1 = k by omega] at hw3
              go_wp2_with fail
              go_quiet (fail)
              have E6 := Lib.hid ((Ext.refl wr).drewN nq)
              go_wp2_with fail
              exact ⟨⟨i + 1, by go_num, LT.out, XI.out.trans E6.out⟩, by simp [intOf]; have := LT.out; omega⟩
          · have e : k = i := by omega
            subst e
            go_wp2_with fail
            go_ret
            exact ⟨rfl, X5.out.trans XI.out⟩
end Go.Proofs.YtkfioaoooodmnaaGreatDoor
