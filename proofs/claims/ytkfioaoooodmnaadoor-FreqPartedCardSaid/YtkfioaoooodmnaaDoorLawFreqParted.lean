/- FreqParted answers true at all weights, places, parts, numbers. -/
import Derived.Test.YtkfioaoooodmnaaDoorRegApp3
namespace Go.Proofs.YtkfioaoooodmnaaDoor
open Go Go.RowKit

/-- what is picked of the weights, and of the weights of which one is in two parts -/
theorem part_both {W : List Int} (hE : errW W = 0) {k : Nat} {p : Int} (h : k < W.length) (h0 : 0 ≤ p) (h1 : p ≤ W.getD k 0) (hE2 : errW (partW W k p) = 0) (r : Int) : ∃ a d c : Int,
    (∀ (s : Nat) (q : Option Addr) (cap : Nat) (w : World), Tab W s q cap w → Calls Tryd.prog 12 #[.pointer (some ⟨s, 0, none⟩), .int .i64 r] w fun e w' => e = .returned (.tuple #[.int .i64 a, .int .i64 c]) ∧ Ext w w') ∧
    (∀ (s : Nat) (q : Option Addr) (cap : Nat) (w : World), Tab (partW W k p) s q cap w → Calls Tryd.prog 12 #[.pointer (some ⟨s, 0, none⟩), .int .i64 r] w fun e w' => e = .returned (.tuple #[.int .i64 d, .int .i64 c]) ∧ Ext w w') ∧
    (c = 1 ∨ (c = 0 ∧ a = (k : Int) ∧ d = (k : Int)) ∨ (c = 0 ∧ a = (k : Int) ∧ d = (k : Int) + 1) ∨ (c = 0 ∧ 0 ≤ a ∧ a < (k : Int) ∧ d = a) ∨ (c = 0 ∧ (k : Int) < a ∧ a ≤ 64 ∧ d = a + 1)) := by
  by_cases hr : r < 0 ∨ psum W W.length ≤ r
  · exact ⟨0, 0, 1, fun _ _ _ _ t => fpick_bad t hE r hr, fun _ _ _ _ t => fpick_bad t hE2 r (by rw [partW_sum p h]; exact hr), .inl rfl⟩
  · obtain ⟨i, hi⟩ := pick_exists (W := W) (r := r) (by omega) (by omega)
    obtain ⟨j, hj⟩ := pick_exists (W := partW W k p) (r := r) (by omega) (by rw [partW_sum p h]; omega)
    obtain ⟨c1, c2, c3⟩ := partW_pick (errW_ok hE).2.2.1 h h0 h1 hi hj
    refine ⟨i, j, 0, fun _ _ _ _ t => fpick_ok t hE r i hi, fun _ _ _ _ t => fpick_ok t hE2 r j hj, .inr ?_⟩
    have hl := hi.lt
    have hl2 := (errW_ok hE).2.1
    rcases Nat.lt_trichotomy i k with g | g | g
    · have := c2 g; exact .inr (.inr (.inl ⟨rfl, by omega, by omega, by omega⟩))
    · rcases c1 g with e | e
      · exact .inl ⟨rfl, by omega, by omega⟩
      · exact .inr (.inl ⟨rfl, by omega, by omega⟩)
    · have := c3 g; exact .inr (.inr (.inr ⟨rfl, by omega, by omega, by omega⟩))

set_option maxHeartbeats 1000000 in
set_option maxRecDepth 100000 in
theorem freqParted_main {w0 : World} {v : Value} {W : List Int} (hW : Ints w0 v W) (b : Nat) (hb2 : b < 256) (hE : errW W = 0) (hl : W.length < 64) (part r : Int) (hp0 : 0 ≤ part) (hp1 : part ≤ W.getD (b % W.length) 0) :
    Calls Tryd.prog 4 #[v, .int .u8 (b : Int), .int .i64 part, .int .i64 r] w0 (Yes w0) := by
  obtain ⟨k1, k2, k3, k4⟩ := errW_ok hE
  obtain ⟨pb, po, cw, rfl, hcell⟩ := ints_cell hW k1
  have HE := Lib.hid hE
  have hcw : W.length ≤ cw ∧ cw ≤ maxLen := by
    obtain ⟨-, ad, cap, e, hm, hc, -⟩ := hW
    injection e with _ _ e3
    exact ⟨by omega, by omega⟩
  unfold maxLen at hcw
  obtain ⟨hc1, hc2⟩ := hcw
  obtain ⟨k, hk⟩ : ∃ k, b % W.length = k := ⟨_, rfl⟩
  have hkn : k < W.length := by rw [← hk]; exact Nat.mod_lt _ k1
  have HC := Lib.hid (hcell k hkn)
  obtain ⟨x, hx⟩ : ∃ x, W.getD k 0 = x := ⟨_, rfl⟩
  have hxr := k3.get k
  rw [hk] at hp1
  have hE2 : errW (partW W k part) = 0 := errW_of (by rw [partW_length part hkn]; omega) (by rw [partW_length part hkn]; omega) (partW_okW k3 hkn hp0 hp1) (by rw [partW_sum part hkn]; omega)
  have hLP := partW_length (W := W) part hkn
  obtain ⟨a, d, c, hq1, hq2, hcs⟩ := part_both hE hkn hp0 hp1 hE2 r
  have P1 := Lib.hid hq1
  have P2 := Lib.hid hq2
  have CS := Lib.hid hcs
  have HEU := Lib.hid hE2
  rw [hx] at hp1
  rw [hx] at hxr
  obtain ⟨hx0, hx1⟩ := hxr
  obtain ⟨y, hy⟩ : ∃ y, x - part = y := ⟨_, rfl⟩
  have hy0 : IntKind.i64.wrap (x - part) = y := by rw [IntWalk.i64_in _ (by omega)]; exact hy
  obtain ⟨n, hn⟩ : ∃ n, W.length = n := ⟨_, rfl⟩
  have HN := Lib.hid hn
  have HX := Lib.hid hx
  have HY := Lib.hid hy
  have HK := Lib.hid k3
  have HB := Lib.hid hk
  rw [hx] at HC
  have q0 : IntKind.i64.wrap ((k : Int) + 1) = (k : Int) + 1 := IntWalk.i64_in _ (by omega)
  rw [hn] at hLP hc1 hW hl k1 hk hkn ⊢
  have HW := Lib.hid hW
  have q1 : (b : Int) % (n : Int) = (k : Int) := by omega
  have q2 : Int.tmod (b : Int) (n : Int) = (k : Int) := by rw [Int.tmod_eq_emod_of_nonneg (by omega)]; exact q1
  have t6 : (n : Int) ≤ (cw : Int) := by omega
  have t7 : (cw : Int) ≤ 9223372036854775807 := by omega
  have HW3 : Hid (Ints w0 (.slice (some ⟨pb, po, none⟩) k cw) (W.take k)) := by
    exact HW.out.take (n := k) (by rw [HN.out]; omega)
  have t8 : k ≤ cw := by omega
  obtain ⟨pd, hpd⟩ : ∃ q : Option Addr, (if cw = k + 1 then some ⟨pb, po, none⟩ else some ⟨pb, po + (k + 1), none⟩) = q := ⟨_, rfl⟩
  have HW4 : Hid (Ints w0 (.slice pd (n - (k + 1)) (cw - (k + 1))) (W.drop (k + 1))) := by
    show Ints _ _ _
    rw [← hpd]
    split
    · rename_i h
      have e1 : n - (k + 1) = 0 := by omega
      have e2 : cw - (k + 1) = 0 := by omega
      rw [e1, e2, List.drop_eq_nil_of_le (by rw [HN.out]; omega)]
      exact ⟨rfl, some ⟨pb, po, none⟩, 0, rfl, Nat.le_refl _, Nat.zero_le _, (fun h => by cases h), fun p _ h0 => absurd h0 (by simp)⟩
    · exact HW.out.drop (n := k + 1) (by rw [HN.out]; omega)
  have HP : Hid ((W.take k).map zv ++ [part, y].map zv ++ (W.drop (k + 1)).map zv = (partW W k part).map zv) := by
    show _ = _
    rw [partW, HX.out, HY.out, List.map_append, List.map_append]
  have HT1 : Hid ((W.take k).length = k) := by show _ = _; rw [List.length_take, HN.out]; omega
  have HT2 : Hid ((W.drop (k + 1)).length = n - (k + 1)) := by show _ = _; rw [List.length_drop, HN.out]
  have t2 : (b : Int) ≤ 255 := by omega
  have t3 : (n : Int) ≤ 63 := by omega
  have t4 : (1 : Int) ≤ (n : Int) := by omega
  have t5 : (k : Int) + 1 ≤ (n : Int) := by omega
  have KN := Lib.hid hkn
  have LP := Lib.hid hLP
  clear hE k1 k2 k3 k4 hW hb2 hn hk hx hy hcell hl hE2 hLP hq1 hq2 hcs
  go_enter Tryd.func4, Tryd.ntmps4
  go_wp2_with fail
  refine (fnew_ok HW.out HE.out).mono ?_
  rintro e w1 ⟨ts, tp, tc, rfl, tl, tt, x1⟩
  have T1 := Lib.hid tt
  have X1 := Lib.hid x1
  clear tt x1 tl
  go_wp2_with fail
  refine (awake10_calls _).mono ?_
  rintro e w2 ⟨rfl, x2⟩
  have T2 := Lib.hid (T1.out.ext x2)
  have X2 := Lib.hid (X1.out.trans x2)
  have c2 := (HC.out.ext X2.out).1
  clear x2
  go_wp2_with fail
  (try simp only [List.append_eq, List.cons_append, List.nil_append])
  refine wp_region_app ⟨[51, 52, 53, 54, 55, 56, 57, 58, 59, 60, 61, 62, 63, 64, 65, 66, 67, 68, 69, 12], fun i => ([Sa.row 2 w2.heap.size 0 [], Sa.val (.slice (some ⟨pb, po, none⟩) n cw), Sa.val (.int .i64 (k : Int)), Sa.val (.slice (some ⟨pb, po, none⟩) k cw), Sa.row 2 w2.heap.size k ((W.take k).map zv), Sa.val (.int .i64 part), Sa.val (.slice (some ⟨pb, po, none⟩) n cw), Sa.val (.int .i64 (k : Int)), Sa.val (.pointer (some ⟨pb, po + k, none⟩)), Sa.val (.int .i64 x), Sa.val (.int .i64 part), Sa.val (.int .i64 y), Sa.made 2 w2.heap.size 2 [part, y], Sa.row 2 w2.heap.size (k + 2) ((W.take k).map zv ++ [part, y].map zv), Sa.val (.slice (some ⟨pb, po, none⟩) n cw), Sa.val (.int .i64 (k : Int)), Sa.val (.int .i64 ((k : Int) + 1)), Sa.val (.slice pd (n - (k + 1)) (cw - (k + 1))), Sa.row 2 w2.heap.size (n + 1) ((partW W k part).map zv), Sa.row 2 w2.heap.size (n + 1) ((partW W k part).map zv)] : List Sa).getD i (Sa.val undef), fun i => ([none, none, none, none, some 0, none, none, none, none, none, none, none, none, some 4, none, none, none, none, some 13, some 18] : List (Option Nat)).getD i none⟩ (by kernel_rfl) (by kernel_rfl) ?hs ?he
  case hs =>
    refine ⟨?_, ?_, ?_, ?_, ?_, ?_, ?_, ?_, ?_, ?_, ?_, ?_, ?_, ?_, ?_, ?_, ?_, ?_, ?_, ?_, trivial⟩
    · refine AStep.op rfl rfl (fun ac wk hp K hK => ?_)
      have hsz := hp.ext.size
      clear hp
      go_simp
      exact hK.out _ _ (World.ownsRow_made wk #[] 0 hsz (Nat.zero_le _) rfl) ((Ext.refl _).alloc _) (fun b h => by have e : wk.heap.size = b := Option.some.inj h; omega)
    · refine AStep.op rfl rfl (fun ac wk hp K hK => ?_)
      have s0_ : ac.tmps[0]?.getD undef = .slice (some ⟨pb, po, none⟩) n cw := hp.slot 0 rfl rfl
      clear hp
      go_simp
      exact hK.out _ _ rfl (Ext.refl _) (fun b h => h.elim)
    · refine AStep.op rfl rfl (fun ac wk hp K hK => ?_)
      have s11_ : ac.tmps[11]?.getD undef = .int .i64 (k : Int) := hp.slot 11 rfl rfl
      clear hp
      go_simp
      exact hK.out _ _ rfl (Ext.refl _) (fun b h => h.elim)
    · refine AStep.op rfl rfl (fun ac wk hp K hK => ?_)
      have d1_ : ac.tmps[52]?.getD undef = .slice (some ⟨pb, po, none⟩) n cw := slot_is' (hp.get 1 (by decide +kernel) (by kernel_rfl))
      have d2_ : ac.tmps[53]?.getD undef = .int .i64 (k : Int) := slot_is' (hp.get 2 (by decide +kernel) (by kernel_rfl))
      clear hp
      go_simp
      exact hK.out _ _ rfl (Ext.refl _) (fun b h => h.elim)
    · refine AStep.eat 0 rfl rfl (fun ac wk hp K hK => ?_)
      have h0 := hp.get 0 (by decide +kernel) (by kernel_rfl)
      refine wp_append_ints (.tmp 51) (.tmp 54) 22 2 Tryd.underlying22 info_i64 rfl w2.heap.size _ 0 [] rfl h0 hp.ext.size (.slice (some ⟨pb, po, none⟩) k cw) (W.take k) (hp.get 3 (by decide +kernel) (by kernel_rfl)) (HW3.out.ext (X2.out.trans hp.ext)) (by rw [HT1.out]; omega) (fun v' w' r1 r2 r3 => ?_)
      rw [Nat.zero_add, HT1.out, List.nil_append] at r1
      exact hK.out v' w' _ r1 r2 (fun b h => h) (fun b h => r3 b h)
    · refine AStep.op rfl rfl (fun ac wk hp K hK => ?_)
      have s2_ : ac.tmps[2]?.getD undef = .int .i64 part := hp.slot 2 rfl rfl
      clear hp
      go_simp
      exact hK.out _ _ rfl (Ext.refl _) (fun b h => h.elim)
    · refine AStep.op rfl rfl (fun ac wk hp K hK => ?_)
      have s0_ : ac.tmps[0]?.getD undef = .slice (some ⟨pb, po, none⟩) n cw := hp.slot 0 rfl rfl
      clear hp
      go_simp
      exact hK.out _ _ rfl (Ext.refl _) (fun b h => h.elim)
    · refine AStep.op rfl rfl (fun ac wk hp K hK => ?_)
      have s11_ : ac.tmps[11]?.getD undef = .int .i64 (k : Int) := hp.slot 11 rfl rfl
      clear hp
      go_simp
      exact hK.out _ _ rfl (Ext.refl _) (fun b h => h.elim)
    · refine AStep.op rfl rfl (fun ac wk hp K hK => ?_)
      have d6_ : ac.tmps[57]?.getD undef = .slice (some ⟨pb, po, none⟩) n cw := slot_is' (hp.get 6 (by decide +kernel) (by kernel_rfl))
      have d7_ : ac.tmps[58]?.getD undef = .int .i64 (k : Int) := slot_is' (hp.get 7 (by decide +kernel) (by kernel_rfl))
      clear hp
      go_simp
      exact hK.out _ _ rfl (Ext.refl _) (fun b h => h.elim)
    · refine AStep.op rfl rfl (fun ac wk hp K hK => ?_)
      have d8_ : ac.tmps[59]?.getD undef = .pointer (some ⟨pb, po + k, none⟩) := slot_is' (hp.get 8 (by decide +kernel) (by kernel_rfl))
      have cc := (HC.out.ext (X2.out.trans hp.ext)).1
      clear hp
      go_simp
      exact hK.out _ _ rfl (Ext.refl _) (fun b h => h.elim)
    · refine AStep.op rfl rfl (fun ac wk hp K hK => ?_)
      have s2_ : ac.tmps[2]?.getD undef = .int .i64 part := hp.slot 2 rfl rfl
      clear hp
      go_simp
      exact hK.out _ _ rfl (Ext.refl _) (fun b h => h.elim)
    · refine AStep.op rfl rfl (fun ac wk hp K hK => ?_)
      have d9_ : ac.tmps[60]?.getD undef = .int .i64 x := slot_is' (hp.get 9 (by decide +kernel) (by kernel_rfl))
      have d10_ : ac.tmps[61]?.getD undef = .int .i64 part := slot_is' (hp.get 10 (by decide +kernel) (by kernel_rfl))
      clear hp
      go_simp
      exact hK.out _ _ rfl (Ext.refl _) (fun b h => h.elim)
    · refine AStep.op rfl rfl (fun ac wk hp K hK => ?_)
      have d5_ : ac.tmps[56]?.getD undef = .int .i64 part := slot_is' (hp.get 5 (by decide +kernel) (by kernel_rfl))
      have d11_ : ac.tmps[62]?.getD undef = .int .i64 y := slot_is' (hp.get 11 (by decide +kernel) (by kernel_rfl))
      have hsz := hp.ext.size
      clear hp
      go_simp
      exact hK.out _ _ ⟨_, rfl, hsz, rfl, RowG.made (w := wk) (n := 2) ⟨rfl, .inr ⟨_, _, _, rfl, Nat.le_refl _, heap_alloc_new _ _, Nat.le_refl _, by decide, rfl, rfl⟩⟩ rfl⟩ ((Ext.refl _).alloc _) (fun b h => by have e : wk.heap.size = b := Option.some.inj h; omega)
    · refine AStep.eat 4 rfl rfl (fun ac wk hp K hK => ?_)
      have h0 := hp.get 4 (by decide +kernel) (by kernel_rfl)
      obtain ⟨g6, e6, -, -, r6⟩ := hp.get 12 (by decide +kernel) (by kernel_rfl)
      have h6 : Ints wk (.slice (some ⟨g6, 0, none⟩) 2 2) [part, y] := r6.ownI.ints
      refine wp_append_ints (.tmp 55) (.tmp 63) 22 2 Tryd.underlying22 info_i64 rfl w2.heap.size _ k ((W.take k).map zv) rfl h0 hp.ext.size (.slice (some ⟨g6, 0, none⟩) 2 2) ([part, y]) e6 h6 (by show k + 2 ≤ 100000; omega) (fun v' w' r1 r2 r3 => ?_)
      skip
      exact hK.out v' w' _ r1 r2 (fun b h => h) (fun b h => r3 b h)
    · refine AStep.op rfl rfl (fun ac wk hp K hK => ?_)
      have s0_ : ac.tmps[0]?.getD undef = .slice (some ⟨pb, po, none⟩) n cw := hp.slot 0 rfl rfl
      clear hp
      go_simp
      exact hK.out _ _ rfl (Ext.refl _) (fun b h => h.elim)
    · refine AStep.op rfl rfl (fun ac wk hp K hK => ?_)
      have s11_ : ac.tmps[11]?.getD undef = .int .i64 (k : Int) := hp.slot 11 rfl rfl
      clear hp
      go_simp
      exact hK.out _ _ rfl (Ext.refl _) (fun b h => h.elim)
    · refine AStep.op rfl rfl (fun ac wk hp K hK => ?_)
      have d15_ : ac.tmps[66]?.getD undef = .int .i64 (k : Int) := slot_is' (hp.get 15 (by decide +kernel) (by kernel_rfl))
      clear hp
      go_simp
      exact hK.out _ _ rfl (Ext.refl _) (fun b h => h.elim)
    · refine AStep.op rfl rfl (fun ac wk hp K hK => ?_)
      have d14_ : ac.tmps[65]?.getD undef = .slice (some ⟨pb, po, none⟩) n cw := slot_is' (hp.get 14 (by decide +kernel) (by kernel_rfl))
      have d16_ : ac.tmps[67]?.getD undef = .int .i64 ((k : Int) + 1) := slot_is' (hp.get 16 (by decide +kernel) (by kernel_rfl))
      clear hp
      go_simp
      exact hK.out _ _ (by show _ = _; rw [← hpd]) (Ext.refl _) (fun b h => h.elim)
    · refine AStep.eat 13 rfl rfl (fun ac wk hp K hK => ?_)
      have h0 := hp.get 13 (by decide +kernel) (by kernel_rfl)
      refine wp_append_ints (.tmp 64) (.tmp 68) 22 2 Tryd.underlying22 info_i64 rfl w2.heap.size _ (k + 2) ((W.take k).map zv ++ [part, y].map zv) rfl h0 hp.ext.size (.slice pd (n - (k + 1)) (cw - (k + 1))) (W.drop (k + 1)) (hp.get 17 (by decide +kernel) (by kernel_rfl)) (HW4.out.ext (X2.out.trans hp.ext)) (by rw [HT2.out]; omega) (fun v' w' r1 r2 r3 => ?_)
      rw [HT2.out, show k + 2 + (n - (k + 1)) = n + 1 by have := KN.out; omega, HP.out] at r1
      exact hK.out v' w' _ r1 r2 (fun b h => h) (fun b h => r3 b h)
    · refine AStep.eat 18 rfl rfl (fun ac wk hp K hK => ?_)
      have h0 := hp.get 18 (by decide +kernel) (by kernel_rfl)
      obtain ⟨v0, hv0, h1⟩ : ∃ v, at_ _ ac 18 = v ∧ wk.ownsRow w2.heap.size 2 1 v (n + 1) ((partW W k part).map zv) := ⟨_, rfl, h0⟩
      have d69_ : ac.tmps[69]?.getD undef = v0 := slot_is' hv0
      clear hp
      go_simp
      exact hK.out _ _ none h1 (World.grownBy.refl _ _) (fun b h => by cases h) (fun b h => .inl (by show Value.ownBlock _ = _; rw [hv0]; exact h))
  case he =>
    intro ac w3 hag hx hpost hdis
    obtain ⟨g6, e6, -, -, -⟩ := hpost 12 (by decide) (by kernel_rfl)
    obtain ⟨vx, e12, h12⟩ : ∃ v, at_ _ ac 19 = v ∧ w3.ownsRow w2.heap.size 2 1 v (n + 1) ((partW W k part).map zv) := ⟨_, rfl, hpost 19 (by decide) (by kernel_rfl)⟩
    have z1_ : sl ac 52 = .slice (some ⟨pb, po, none⟩) n cw := hpost 1 (by decide) (by kernel_rfl)
    have z2_ : sl ac 53 = .int .i64 (k : Int) := hpost 2 (by decide) (by kernel_rfl)
    have z3_ : sl ac 54 = .slice (some ⟨pb, po, none⟩) k cw := hpost 3 (by decide) (by kernel_rfl)
    have z5_ : sl ac 56 = .int .i64 part := hpost 5 (by decide) (by kernel_rfl)
    have z6_ : sl ac 57 = .slice (some ⟨pb, po, none⟩) n cw := hpost 6 (by decide) (by kernel_rfl)
    have z7_ : sl ac 58 = .int .i64 (k : Int) := hpost 7 (by decide) (by kernel_rfl)
    have z8_ : sl ac 59 = .pointer (some ⟨pb, po + k, none⟩) := hpost 8 (by decide) (by kernel_rfl)
    have z9_ : sl ac 60 = .int .i64 x := hpost 9 (by decide) (by kernel_rfl)
    have z10_ : sl ac 61 = .int .i64 part := hpost 10 (by decide) (by kernel_rfl)
    have z11_ : sl ac 62 = .int .i64 y := hpost 11 (by decide) (by kernel_rfl)
    have z14_ : sl ac 65 = .slice (some ⟨pb, po, none⟩) n cw := hpost 14 (by decide) (by kernel_rfl)
    have z15_ : sl ac 66 = .int .i64 (k : Int) := hpost 15 (by decide) (by kernel_rfl)
    have z16_ : sl ac 67 = .int .i64 ((k : Int) + 1) := hpost 16 (by decide) (by kernel_rfl)
    have z17_ : sl ac 68 = .slice pd (n - (k + 1)) (cw - (k + 1)) := hpost 17 (by decide) (by kernel_rfl)
    obtain ⟨v0, z0_⟩ : ∃ v, sl ac 51 = v := ⟨_, rfl⟩
    obtain ⟨v4, z4_⟩ : ∃ v, sl ac 55 = v := ⟨_, rfl⟩
    obtain ⟨v13, z13_⟩ : ∃ v, sl ac 64 = v := ⟨_, rfl⟩
    obtain ⟨v18, z18_⟩ : ∃ v, sl ac 69 = v := ⟨_, rfl⟩
    have z12_ : sl ac 63 = .slice (some ⟨g6, 0, none⟩) 2 2 := e6
    have z19_ : sl ac 12 = vx := e12
    obtain ⟨g, cap, rfl, hB, R⟩ := RowG.of (L := partW W k part) (by rw [LP.out]; exact h12) (by rw [LP.out]; omega)
    have HU : Hid (Ints w3 (.slice (some ⟨g, 0, none⟩) (partW W k part).length cap) (partW W k part)) := R.ownI.ints
    have X3 := Lib.hid (X2.out.trans hx)
    have T3 := Lib.hid (T2.out.ext hx)
    rw [hag.lay]
    simp only [lay, List.foldl_cons, List.foldl_nil, List.setIfInBounds_toArray, List.set_cons_zero, List.set_cons_succ, z0_, z1_, z2_, z3_, z4_, z5_, z6_, z7_, z8_, z9_, z10_, z11_, z12_, z13_, z14_, z15_, z16_, z17_, z18_, z19_]
    clear hag hx hpost hdis e6 e12 h12 hB R z0_ z1_ z2_ z3_ z4_ z5_ z6_ z7_ z8_ z9_ z10_ z11_ z12_ z13_ z14_ z15_ z16_ z17_ z18_ z19_
    rw [LP.out] at HU ⊢
    go_wp2_with fail
    refine (fnew_ok HU.out HEU.out).mono ?_
    rintro e w4 ⟨us, up, uc, rfl, ul, ut, x4⟩
    have U4 := Lib.hid ut
    have T4 := Lib.hid (T3.out.ext x4)
    have X4 := Lib.hid (X3.out.trans x4)
    clear ut ul x4
    have hcs := CS.out
    clear CS
    rcases hcs with rfl | ⟨rfl, rfl, rfl⟩ | ⟨rfl, rfl, rfl⟩ | ⟨rfl, ha0, hak, rfl⟩ | ⟨rfl, hak, ha64, rfl⟩
    · skip
      go_wp2_with fail
      refine (P1.out _ _ _ _ T4.out).mono ?_
      rintro e w5 ⟨rfl, x5⟩
      have U5 := Lib.hid (U4.out.ext x5)
      have X5 := Lib.hid (X4.out.trans x5)
      clear x5
      go_wp2_with fail
      refine (P2.out _ _ _ _ U5.out).mono ?_
      rintro e w6 ⟨rfl, x6⟩
      have X6 := Lib.hid (X5.out.trans x6)
      clear x6
      go_wp2_with fail
      go_ret
      exact ⟨rfl, X6.out⟩
    · have s1 : ((k : Int) == (k : Int)) = true := by simp
      go_wp2_with fail
      refine (P1.out _ _ _ _ T4.out).mono ?_
      rintro e w5 ⟨rfl, x5⟩
      have U5 := Lib.hid (U4.out.ext x5)
      have X5 := Lib.hid (X4.out.trans x5)
      clear x5
      go_wp2_with fail
      refine (P2.out _ _ _ _ U5.out).mono ?_
      rintro e w6 ⟨rfl, x6⟩
      have X6 := Lib.hid (X5.out.trans x6)
      clear x6
      go_wp2_with fail
      go_ret
      exact ⟨rfl, X6.out⟩
    · have s1 : ((k : Int) + 1 == (k : Int)) = false := by rw [beq_eq_false_iff_ne]; omega
      go_wp2_with fail
      refine (P1.out _ _ _ _ T4.out).mono ?_
      rintro e w5 ⟨rfl, x5⟩
      have U5 := Lib.hid (U4.out.ext x5)
      have X5 := Lib.hid (X4.out.trans x5)
      clear x5
      go_wp2_with fail
      refine (P2.out _ _ _ _ U5.out).mono ?_
      rintro e w6 ⟨rfl, x6⟩
      have X6 := Lib.hid (X5.out.trans x6)
      clear x6
      go_wp2_with fail
      go_ret
      exact ⟨rfl, X6.out⟩
    · have s1 : (d == (k : Int)) = false := by rw [beq_eq_false_iff_ne]; omega
      go_wp2_with fail
      refine (P1.out _ _ _ _ T4.out).mono ?_
      rintro e w5 ⟨rfl, x5⟩
      have U5 := Lib.hid (U4.out.ext x5)
      have X5 := Lib.hid (X4.out.trans x5)
      clear x5
      go_wp2_with fail
      refine (P2.out _ _ _ _ U5.out).mono ?_
      rintro e w6 ⟨rfl, x6⟩
      have X6 := Lib.hid (X5.out.trans x6)
      clear x6
      go_wp2_with fail
      go_ret
      exact ⟨rfl, X6.out⟩
    · have s1 : (a == (k : Int)) = false := by rw [beq_eq_false_iff_ne]; omega
      have s2 : IntKind.i64.wrap (a + 1) = a + 1 := IntWalk.i64_in _ (by omega)
      go_wp2_with fail
      refine (P1.out _ _ _ _ T4.out).mono ?_
      rintro e w5 ⟨rfl, x5⟩
      have U5 := Lib.hid (U4.out.ext x5)
      have X5 := Lib.hid (X4.out.trans x5)
      clear x5
      go_wp2_with fail
      refine (P2.out _ _ _ _ U5.out).mono ?_
      rintro e w6 ⟨rfl, x6⟩
      have X6 := Lib.hid (X5.out.trans x6)
      clear x6
      go_wp2_with fail
      go_ret
      exact ⟨rfl, X6.out⟩

set_option maxHeartbeats 1000000 in
set_option maxRecDepth 100000 in
theorem freqParted_no {w : World} {v : Value} {W : List Int} (hW : Ints w v W) (b : Nat) (part r : Int) (hE : errW W ≠ 0) :
    Calls Tryd.prog 4 #[v, .int .u8 (b : Int), .int .i64 part, .int .i64 r] w (Yes w) := by
  obtain ⟨pw, cw, rfl⟩ := hW.slice
  have HW := Lib.hid hW
  obtain ⟨n, hn⟩ : ∃ n, errW W = n := ⟨_, rfl⟩
  have t1 : ((n : Int) != 0) = true := by rw [bne_iff_ne]; omega
  have N0 : Hid (n ≠ 0) := by show n ≠ 0; omega
  have HE := Lib.hid hn
  clear hn hE hW
  go_enter Tryd.func4, Tryd.ntmps4
  go_wp2_with fail
  refine (fnew_no HW.out n HE.out N0.out).mono ?_
  rintro e w1 ⟨rfl, x1⟩
  have e1_ : Ext w w1 := Ext.trans (Ext.refl w) x1
  go_wp2_with fail
  refine (awake10_calls _).mono ?_
  rintro e w2 ⟨rfl, x2⟩
  have e2_ : Ext w w2 := Ext.trans e1_ x2
  go_wp2_with fail
  go_ret
  exact ⟨rfl, e2_⟩

set_option maxHeartbeats 1000000 in
set_option maxRecDepth 100000 in
theorem freqParted_long {w : World} {v : Value} {W : List Int} (hW : Ints w v W) (b : Nat) (part r : Int) (hE : errW W = 0) (hl : 64 ≤ W.length) :
    Calls Tryd.prog 4 #[v, .int .u8 (b : Int), .int .i64 part, .int .i64 r] w (Yes w) := by
  obtain ⟨pw, cw, rfl⟩ := hW.slice
  have h64 : W.length = 64 := by have := (errW_ok hE).2.1; omega
  rw [h64] at hW ⊢
  have HW := Lib.hid hW
  have HE := Lib.hid hE
  clear hE hW hl h64
  go_enter Tryd.func4, Tryd.ntmps4
  go_wp2_with fail
  refine (fnew_ok HW.out HE.out).mono ?_
  rintro e w1 ⟨ts, tp, tc, rfl, tl, tt, x1⟩
  have e1_ : Ext w w1 := Ext.trans (Ext.refl w) x1
  clear tt tl
  go_wp2_with fail
  refine (awake10_calls _).mono ?_
  rintro e w2 ⟨rfl, x2⟩
  have e2_ : Ext w w2 := Ext.trans e1_ x2
  go_wp2_with fail
  go_ret
  exact ⟨rfl, e2_⟩

set_option maxHeartbeats 1000000 in
set_option maxRecDepth 100000 in
theorem freqParted_out {w0 : World} {v : Value} {W : List Int} (hW : Ints w0 v W) (b : Nat) (hb2 : b < 256) (hE : errW W = 0) (hl : W.length < 64) (part r : Int) (hp : part < 0 ∨ 0 ≤ part ∧ W.getD (b % W.length) 0 < part) :
    Calls Tryd.prog 4 #[v, .int .u8 (b : Int), .int .i64 part, .int .i64 r] w0 (Yes w0) := by
  obtain ⟨k1, k2, k3, k4⟩ := errW_ok hE
  obtain ⟨pb, po, cw, rfl, hcell⟩ := ints_cell hW k1
  have HE := Lib.hid hE
  obtain ⟨k, hk⟩ : ∃ k, b % W.length = k := ⟨_, rfl⟩
  have hkn : k < W.length := by rw [← hk]; exact Nat.mod_lt _ k1
  have HC := Lib.hid (hcell k hkn)
  obtain ⟨x, hx⟩ : ∃ x, W.getD k 0 = x := ⟨_, rfl⟩
  rw [hk, hx] at hp
  rw [hx] at HC
  obtain ⟨n, hn⟩ : ∃ n, W.length = n := ⟨_, rfl⟩
  rw [hn] at hW hl k1 hk hkn ⊢
  have HW := Lib.hid hW
  have q1 : (b : Int) % (n : Int) = (k : Int) := by omega
  have q2 : Int.tmod (b : Int) (n : Int) = (k : Int) := by rw [Int.tmod_eq_emod_of_nonneg (by omega)]; exact q1
  have t2 : (b : Int) ≤ 255 := by omega
  have t3 : (n : Int) ≤ 63 := by omega
  have t4 : (1 : Int) ≤ (n : Int) := by omega
  have t5 : (k : Int) + 1 ≤ (n : Int) := by omega
  clear hE k1 k2 k3 k4 hW hb2 hn hk hx hcell hl
  rcases hp with hp | ⟨hp, hp2⟩
  · go_enter Tryd.func4, Tryd.ntmps4
    go_wp2_with fail
    refine (fnew_ok HW.out HE.out).mono ?_
    rintro e w1 ⟨ts, tp, tc, rfl, tl, tt, x1⟩
    have e1_ : Ext w0 w1 := Ext.trans (Ext.refl w0) x1
    clear tt tl
    go_wp2_with fail
    refine (awake10_calls _).mono ?_
    rintro e w2 ⟨rfl, x2⟩
    have e2_ : Ext w0 w2 := Ext.trans e1_ x2
    go_wp2_with fail
    go_ret
    exact ⟨rfl, e2_⟩
  · go_enter Tryd.func4, Tryd.ntmps4
    go_wp2_with fail
    refine (fnew_ok HW.out HE.out).mono ?_
    rintro e w1 ⟨ts, tp, tc, rfl, tl, tt, x1⟩
    have e1_ : Ext w0 w1 := Ext.trans (Ext.refl w0) x1
    clear tt tl
    go_wp2_with fail
    refine (awake10_calls _).mono ?_
    rintro e w2 ⟨rfl, x2⟩
    have e2_ : Ext w0 w2 := Ext.trans e1_ x2
    have c2 := (HC.out.ext e2_).1
    go_wp2_with fail
    go_ret
    exact ⟨rfl, e2_⟩
theorem freqParted_calls {w : World} {v : Value} {W : List Int} (hW : Ints w v W) (b : Nat) (hb : b < 256) (part r : Int) :
    Calls Tryd.prog 4 #[v, .int .u8 (b : Int), .int .i64 part, .int .i64 r] w (Yes w) := by
  by_cases hE : errW W = 0
  · by_cases hl : 64 ≤ W.length
    · exact freqParted_long hW b part r hE hl
    · by_cases hp : part < 0 ∨ 0 ≤ part ∧ W.getD (b % W.length) 0 < part
      · exact freqParted_out hW b hb hE (by omega) part r hp
      · exact freqParted_main hW b hb hE (by omega) part r (by omega) (by omega)
  · exact freqParted_no hW b part r hE
end Go.Proofs.YtkfioaoooodmnaaDoor
