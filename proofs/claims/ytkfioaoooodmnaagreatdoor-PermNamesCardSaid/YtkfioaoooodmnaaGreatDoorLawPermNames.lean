/- PermNames answers true: the examples; all rows of four; what is refused; numbers at their ends. -/
import Derived.Test.YtkfioaoooodmnaaGreatDoorRegTab
import Derived.Test.YtkfioaoooodmnaaGreatDoorPermDr
namespace Go.Proofs.YtkfioaoooodmnaaGreatDoor
open Go Go.RowKit

/-- the draws of number k of 24 -/
def nmD (k : Nat) : List Int := [((k / 6 : Nat) : Int), ((k / 2 % 3 : Nat) : Int), ((k % 2 : Nat) : Int)]
/-- a row as a number -/
def nmTo (L : List Int) : Nat → Int
  | 0 => 0
  | i + 1 => 4 * nmTo L i + L.getD i 0
def nmAt (k : Nat) : Nat := (nmTo (permL (nmD k)) 4).toNat
/-- which rows have been seen -/
def nmSeen : Nat → List Int
  | 0 => List.replicate 256 0
  | k + 1 => (nmSeen k).set (nmAt k) 1
theorem nm_ok : ∀ k, k < 24 → errP (nmD k) = 0 ∧ (permL (nmD k)).length = 4 ∧ ∀ i, i < 4 → 0 ≤ (permL (nmD k)).getD i 0 ∧ (permL (nmD k)).getD i 0 ≤ 3 := by decide +kernel
theorem nm_to : ∀ k, k < 24 → ∀ i, i < 5 → 0 ≤ nmTo (permL (nmD k)) i ∧ nmTo (permL (nmD k)) i ≤ 255 := by decide +kernel
theorem nm_at : ∀ k, k < 24 → (nmSeen k).getD (nmAt k) 0 = 0 := by decide +kernel
theorem nmSeen_length : ∀ k, (nmSeen k).length = 256
  | 0 => by rw [nmSeen, List.length_replicate]
  | k + 1 => by rw [nmSeen, List.length_set, nmSeen_length k]
theorem prow_e {w : World} {v : Value} {D : List Int} (hD : Ints w v D) (c : Nat) (hc : errP D = c) :
    Calls Tryz.prog 41 #[v] w fun e w' => ∃ p n k, e = .returned (.tuple #[.slice p n k, .int .i64 (c : Int)]) ∧ Ext w w' := by
  by_cases h : c = 0
  · subst h
    refine (prow_z hD hc).mono ?_
    rintro e w' ⟨r, rfl, h1, h2⟩
    obtain ⟨p, k, rfl⟩ := h1.slice
    exact ⟨_, _, _, rfl, h2⟩
  · refine (prow_no hD c hc h).mono ?_
    rintro e w' ⟨rfl, hx⟩
    exact ⟨_, _, _, rfl, hx⟩
/-- the first table: draws, and why they are none -/
def tabA : List (List Int × Value) := [([(-1 : Int)], .int .i64 1), ([(2 : Int)], .int .i64 1), ([(0 : Int), 2], .int .i64 1), ([(3 : Int), 0], .int .i64 1), ((List.replicate 63 0), .int .i64 0), ((List.replicate 64 0), .int .i64 5)]
theorem tabA_get : ∀ i, i < 6 → ∃ L, ∃ c : Nat, tabA[i]? = some (L, .int .i64 (c : Int)) ∧ errP L = c
  | 0, _ => ⟨_, 1, rfl, by decide +kernel⟩
  | 1, _ => ⟨_, 1, rfl, by decide +kernel⟩
  | 2, _ => ⟨_, 1, rfl, by decide +kernel⟩
  | 3, _ => ⟨_, 1, rfl, by decide +kernel⟩
  | 4, _ => ⟨_, 0, rfl, by decide +kernel⟩
  | 5, _ => ⟨_, 5, rfl, by decide +kernel⟩
  | n + 6, h => absurd h (by omega)

/-- the second table: rows, and why they are none -/
def tabB : List (List Int × Value) := [([], .int .i64 0), ([0], .int .i64 0), ([1], .int .i64 3), ([0, 2], .int .i64 3), ([1, 0], .int .i64 0), ([-1, 0], .int .i64 3), (List.replicate 65 0, .int .i64 5)]
theorem tabB_get : ∀ i, i < 7 → ∃ L, ∃ c : Nat, tabB[i]? = some (L, .int .i64 (c : Int)) ∧ errR12 L = c
  | 0, _ => ⟨_, 0, rfl, errR12_of (by decide) (by decide)⟩
  | 1, _ => ⟨_, 0, rfl, errR12_of (by decide) (by decide)⟩
  | 2, _ => ⟨_, 3, rfl, errR12_not (by decide) (by decide)⟩
  | 3, _ => ⟨_, 3, rfl, errR12_not (by decide) (by decide)⟩
  | 4, _ => ⟨_, 0, rfl, errR12_of (by decide) (by decide)⟩
  | 5, _ => ⟨_, 3, rfl, errR12_not (by decide) (by decide)⟩
  | 6, _ => ⟨_, 5, rfl, if_pos (by rw [List.length_replicate]; decide)⟩
  | n + 7, h => absurd h (by omega)
theorem tabB_len : ∀ i, i < 7 → ∀ {r : List Int × Value}, tabB[i]? = some r → r.1.length ≤ 65 := by
  intro i hi r h
  have : ∀ q ∈ tabB, q.1.length ≤ 65 := by decide +kernel
  exact this r (List.mem_of_getElem? h)
theorem litz_at {t : TypeId} {w : World} (L : List Int) (C : Array Value) (hC : C.toList = L.map zv) (n : Nat) (hn : n = L.length) (hl : L.length ≤ 100000) (s : Nat) (hs : w.heap.size = s) (ht : t ∈ notBox := by decide) : OwnZ t 0 (w.alloc (.cells C t)) (.slice (some ⟨s, 0, none⟩) n n) L := by
  subst hs
  exact litz_n0 L C hC n hn hl (Nat.zero_le _) ht
theorem pdraws_e {w : World} {v : Value} {R : List Int} (hR : Ints w v R) (c : Nat) (hc : errR12 R = c) :
    Calls Tryz.prog 42 #[v] w fun e w' => ∃ p n k, e = .returned (.tuple #[.slice p n k, .int .i64 (c : Int)]) ∧ (c = 0 → n = R.length - 1) ∧ Ext w w' := by
  by_cases h : c = 0
  · subst h
    refine (pdraws_z hR hc).mono ?_
    rintro e w' ⟨r, rfl, h1, h2⟩
    obtain ⟨p, k, rfl⟩ := h1.slice
    exact ⟨_, _, _, rfl, fun _ => by unfold intsOf; rw [List.length_map, drawsF_length], h2⟩
  · refine (pdraws_no hR c hc h).mono ?_
    rintro e w' ⟨rfl, hx⟩
    exact ⟨_, _, _, rfl, fun e => absurd e h, hx⟩

set_option maxHeartbeats 800000 in
set_option maxRecDepth 100000 in
theorem pdraw_nil2 (w : World) : Calls Tryz.prog 46 #[.pointer none, .int .i64 2] w fun e w' => e = .returned (.tuple #[.slice none 0 0, .bool false]) ∧ Ext w w' := by
  go_enter Tryz.func46, Tryz.ntmps46
  go_wp2_with fail
  refine wp_loop_rounds 1 ?_
  rw [rounds_succ]
  go_wp2_with fail
  refine (bdraw_nil _ 2 (by rw [Bs_def]; decide)).mono ?_
  rintro e w1 ⟨rfl, x1⟩
  go_wp2_with fail
  go_ret2
  exact ⟨rfl, x1⟩

set_option maxHeartbeats 1600000 in
set_option maxRecDepth 100000 in
theorem permNames_calls (w : World) : Calls Tryz.prog 8 #[] w (Yes w) := by
  go_enter Tryz.func8, Tryz.ntmps8
  go_wp2_with fail
  refine (awake12_calls _).mono ?_
  rintro e w1 ⟨rfl, x1⟩
  have X1 := Lib.hid x1
  clear x1
  go_wp2_with (at_make; refine make_ints rfl _ _ 65 3 Tryz.underlying65 info_int rfl 256 _ rfl rfl rfl (by decide) ?_; intro w2 hown hgrow; have X2 : Hid (Ext w w2) := X1.out.trans ((Ext.refl w1).grown hgrow (fun k hk => by cases hk)); have R2 : Hid (RowG 3 w1.heap.size 256 (List.replicate 256 0) w2) := RowG.made hown (by simp); clear hown hgrow)
  obtain ⟨g, hg⟩ : ∃ g, w1.heap.size = g := ⟨_, rfl⟩
  have HG : Hid (w.heap.size ≤ g) := by have := X1.out.size; show _ ≤ g; omega
  rw [hg] at R2 ⊢
  clear hg X1
  go_loopw [2] (fun v2 wr => ∃ k : Nat, v2 = .int .i64 (k : Int) ∧ k ≤ 24 ∧ RowG 3 g 256 (nmSeen k) wr ∧ Ext w wr) (fun v2 _ => 24 - (intOf v2).toNat)
  case atStart => exact ⟨0, rfl, Nat.zero_le _, R2.out, X2.out⟩
  case round =>
    clear R2 X2
    rename World => w3
    obtain ⟨k, rfl, hk, hr, hx⟩ := hrel
    have RR := Lib.hid hr
    have X3 := Lib.hid hx
    clear hr hx
    by_cases hk24 : k < 24
    · have LT := Lib.hid hk24
      obtain ⟨n1, n2, n3⟩ := nm_ok k hk24
      have N3 := Lib.hid n3
      have N4 := Lib.hid (nm_to k hk24)
      have N5 := Lib.hid (nm_at k hk24)
      obtain ⟨L, hL⟩ : ∃ L, permL (nmD k) = L := ⟨_, rfl⟩
      obtain ⟨p, hp⟩ : ∃ p, nmAt k = p := ⟨_, rfl⟩
      obtain ⟨a, ha⟩ : ∃ a, k / 6 = a := ⟨_, rfl⟩
      obtain ⟨m, hm⟩ : ∃ m, k / 2 = m := ⟨_, rfl⟩
      obtain ⟨b, hb⟩ : ∃ b, m % 3 = b := ⟨_, rfl⟩
      obtain ⟨c, hc⟩ : ∃ c, k % 2 = c := ⟨_, rfl⟩
      have hD : nmD k = [(a : Int), (b : Int), (c : Int)] := by unfold nmD; rw [ha, hm, hb, hc]
      rw [hL] at n2 N3 N4
      rw [hD] at n1 hL
      have HE := Lib.hid n1
      have HL := Lib.hid hL
      have HN := Lib.hid n2
      have P1 : Hid (nmTo L 4 = (p : Int)) := by show _ = _; rw [← hp, nmAt, hD, hL]; have := (N4.out 4 (by decide)).1; omega
      have P2 : Hid (p < 256) := by have := (N4.out 4 (by decide)).2; have := P1.out; show p < 256; omega
      have P3 : Hid ((nmSeen k).getD p 0 = 0) := by rw [← hp]; exact N5.out
      have P4 : Hid ((nmSeen k).set p 1 = nmSeen (k + 1)) := by show _ = _; rw [nmSeen, hp]
      have k23 : (k : Int) ≤ 23 := by omega
      have q1 : (k : Int) / 6 = (a : Int) := by omega
      have q2 : (k : Int) / 2 = (m : Int) := by omega
      have q3 : (m : Int) % 3 = (b : Int) := by omega
      have q4 : (k : Int) % 2 = (c : Int) := by omega
      have a3 : (a : Int) ≤ 3 := by omega
      have b2 : (b : Int) ≤ 2 := by omega
      have c1 : (c : Int) ≤ 1 := by omega
      clear n1 n2 n3 hL hp ha hm hb hc hD hk
      go_wp2_with fail
      refine (prow_zl (D := [(a : Int), (b : Int), (c : Int)]) (ints_lit w3 [(a : Int), (b : Int), (c : Int)] _ rfl 3 rfl (by simp)) HE.out HL.out).mono ?_
      rintro e w4 ⟨r4, rfl, o4, x4⟩
      have X4 : Hid (Ext w3 w4) := ((Ext.refl w3).alloc _).trans x4
      obtain ⟨rb, ro, rc, rfl, hcells⟩ := ints_cell o4.ints (by rw [HN.out]; decide)
      have HCE := Lib.hid hcells
      have R4 := Lib.hid (RR.out.ext X4.out)
      clear o4 x4 hcells RR
      rw [HN.out]
      go_wp2_with fail
      go_loopw [5, 6] (fun v5 v6 wr => ∃ i : Nat, v6 = .int .i64 (i : Int) ∧ i ≤ 4 ∧ v5 = .int .i64 (nmTo L i) ∧ wr = w4) (fun _ v6 _ => 4 - (intOf v6).toNat)
      case atStart => exact ⟨0, rfl, Nat.zero_le _, rfl, rfl⟩
      case round =>
        obtain ⟨i, rfl, hi, rfl, rfl⟩ := hrel
        by_cases hi4 : i < 4
        · have L4 := Lib.hid hi4
          obtain ⟨x, hx⟩ : ∃ x, L.getD i 0 = x := ⟨_, rfl⟩
          obtain ⟨y, hy⟩ : ∃ y, nmTo L i = y := ⟨_, rfl⟩
          obtain ⟨z, hz⟩ : ∃ z, nmTo L (i + 1) = z := ⟨_, rfl⟩
          have hx3 := N3.out i hi4
          have hy3 := N4.out i (by omega)
          have hz3 := N4.out (i + 1) (by omega)
          have hcx := (HCE.out i (by rw [HN.out]; exact hi4)).1
          have e1 : 4 * y + x = z := by rw [← hz, nmTo, hx, hy]
          rw [hx] at hx3 hcx
          rw [hy] at hy3 ⊢
          rw [hz] at hz3
          obtain ⟨hx0, hx3⟩ := hx3
          obtain ⟨u, hu⟩ : ∃ u, 4 * y = u := ⟨_, rfl⟩
          have hw1 : IntKind.i64.wrap (4 * y) = u := by rw [IntWalk.i64_in _ (by omega)]; exact hu
          have hw2 : IntKind.i64.wrap (u + x) = z := by rw [IntWalk.i64_in _ (by omega)]; omega
          have HZ := Lib.hid hz
          clear hx hy hz hy3 hz3 e1 hu hi
          go_wp2_with fail
          exact ⟨⟨i + 1, by go_num, L4.out, by rw [HZ.out], by first | trivial | rfl⟩, by simp [intOf]; have := L4.out; omega⟩
        · obtain rfl : i = 4 := by omega
          have hp2 := P2.out
          have hpi : (p : Int) ≤ 255 := by omega
          have hc0 := R4.out.cell (j := p) (by rw [nmSeen_length]; exact P2.out)
          rw [P3.out] at hc0
          have hf0 := R4.out.free p
          have R5 : Hid (RowG 3 g 256 (nmSeen (k + 1)) (wr.setCell ⟨g, p, none⟩ (.int .i64 1))) := by rw [← P4.out]; exact R4.out.set p 1
          have hc5 := R5.out.cell (j := p) (by rw [nmSeen_length]; exact P2.out)
          rw [show (nmSeen (k + 1)).getD p 0 = 1 by rw [← P4.out, List.getD_eq_getElem?_getD, List.getElem?_set_self (by rw [nmSeen_length]; exact P2.out)]; rfl] at hc5
          rw [P1.out]
          clear hi hi4
          go_wp2_with fail
          exact ⟨⟨k + 1, by go_num, LT.out, R5.out, (X3.out.trans X4.out).setCell (p := ⟨g, p, none⟩) HG.out _⟩, by simp [intOf]; have := LT.out; omega⟩
    · have k24 : (24 : Int) ≤ (k : Int) := by omega
      clear RR hk hk24 HG
      go_wp2_with fail
      (try simp only [List.append_eq, List.cons_append, List.nil_append])
      refine wp_region_gen ⟨[97, 98, 99, 100, 101, 102, 103, 104, 105, 106, 107, 108, 109, 110, 111], fun _ => false, fun i => ([none, none, none, none, none, none, none, none, none, none, none, none, none, none, none] : List (Option (BoxRef × Nat))).getD i none, fun i => ([Sg.z 3 [(-1 : Int)], Sg.agg2 3 [(-1 : Int)] (.int .i64 1), Sg.z 3 [(2 : Int)], Sg.agg2 3 [(2 : Int)] (.int .i64 1), Sg.z 3 [(0 : Int), 2], Sg.agg2 3 [(0 : Int), 2] (.int .i64 1), Sg.z 3 [(3 : Int), 0], Sg.agg2 3 [(3 : Int), 0] (.int .i64 1), Sg.z 3 (List.replicate 63 0), Sg.agg2 3 (List.replicate 63 0) (.int .i64 0), Sg.z 3 (List.replicate 64 0), Sg.agg2 3 (List.replicate 64 0) (.int .i64 5), Sg.tab2 3 6 [([(-1 : Int)], .int .i64 1), ([(2 : Int)], .int .i64 1), ([(0 : Int), 2], .int .i64 1), ([(3 : Int), 0], .int .i64 1), ((List.replicate 63 0), .int .i64 0), ((List.replicate 64 0), .int .i64 5)], Sg.val (.int .i64 6), Sg.val (.int .i64 0)] : List Sg).getD i Sg.any, [], []⟩ w.heap.size (by kernel_rfl) (by kernel_rfl) X3.out.size ?hfr (AllAt'.nil _) trivial trivial ?hs ?he
      case hfr =>
        intro i v wk hi hst hv
        exact absurd hi (by simp)
      case hs =>
        refine ⟨?_, ?_, ?_, ?_, ?_, ?_, ?_, ?_, ?_, ?_, ?_, ?_, ?_, ?_, ?_, trivial⟩
        · refine RStep.op rfl rfl (fun ac wk hp K hK => ?_)
          clear hp
          go_simp
          exact hK.out _ _ (lit_z [(-1 : Int)] _ rfl 1 rfl (by simp)) ((Ext.refl _).alloc _) (fun h => absurd h (by simp))
        · refine RStep.op rfl rfl (fun ac wk hp K hK => ?_)
          obtain ⟨ua, un, uc, ue, uz⟩ := hp.get 0 (by decide +kernel) rfl
          have t_ : ac.tmps[97]?.getD undef = .slice ua un uc := slot_is' ue
          clear hp
          go_simp
          exact hK.out _ _ ⟨_, _, _, rfl, uz⟩ (Ext.refl _) (fun h => absurd h (by simp))
        · refine RStep.op rfl rfl (fun ac wk hp K hK => ?_)
          clear hp
          go_simp
          exact hK.out _ _ (lit_z [(2 : Int)] _ rfl 1 rfl (by simp)) ((Ext.refl _).alloc _) (fun h => absurd h (by simp))
        · refine RStep.op rfl rfl (fun ac wk hp K hK => ?_)
          obtain ⟨ua, un, uc, ue, uz⟩ := hp.get 2 (by decide +kernel) rfl
          have t_ : ac.tmps[99]?.getD undef = .slice ua un uc := slot_is' ue
          clear hp
          go_simp
          exact hK.out _ _ ⟨_, _, _, rfl, uz⟩ (Ext.refl _) (fun h => absurd h (by simp))
        · refine RStep.op rfl rfl (fun ac wk hp K hK => ?_)
          clear hp
          go_simp
          exact hK.out _ _ (lit_z [(0 : Int), 2] _ rfl 2 rfl (by simp)) ((Ext.refl _).alloc _) (fun h => absurd h (by simp))
        · refine RStep.op rfl rfl (fun ac wk hp K hK => ?_)
          obtain ⟨ua, un, uc, ue, uz⟩ := hp.get 4 (by decide +kernel) rfl
          have t_ : ac.tmps[101]?.getD undef = .slice ua un uc := slot_is' ue
          clear hp
          go_simp
          exact hK.out _ _ ⟨_, _, _, rfl, uz⟩ (Ext.refl _) (fun h => absurd h (by simp))
        · refine RStep.op rfl rfl (fun ac wk hp K hK => ?_)
          clear hp
          go_simp
          exact hK.out _ _ (lit_z [(3 : Int), 0] _ rfl 2 rfl (by simp)) ((Ext.refl _).alloc _) (fun h => absurd h (by simp))
        · refine RStep.op rfl rfl (fun ac wk hp K hK => ?_)
          obtain ⟨ua, un, uc, ue, uz⟩ := hp.get 6 (by decide +kernel) rfl
          have t_ : ac.tmps[103]?.getD undef = .slice ua un uc := slot_is' ue
          clear hp
          go_simp
          exact hK.out _ _ ⟨_, _, _, rfl, uz⟩ (Ext.refl _) (fun h => absurd h (by simp))
        · refine RStep.op rfl rfl (fun ac wk hp K hK => ?_)
          clear hp
          refine wp_make_ints _ _ 65 3 Tryz.underlying65 info_int rfl 63 rfl rfl (by decide) fun w' hr hg => ?_
          exact hK.out _ _ (made_z hr) ((Ext.refl wk).grown hg (fun k hk => by cases hk)) (fun h => absurd h (by simp))
        · refine RStep.op rfl rfl (fun ac wk hp K hK => ?_)
          obtain ⟨ua, un, uc, ue, uz⟩ := hp.get 8 (by decide +kernel) rfl
          have t_ : ac.tmps[105]?.getD undef = .slice ua un uc := slot_is' ue
          clear hp
          go_simp
          exact hK.out _ _ ⟨_, _, _, rfl, uz⟩ (Ext.refl _) (fun h => absurd h (by simp))
        · refine RStep.op rfl rfl (fun ac wk hp K hK => ?_)
          clear hp
          refine wp_make_ints _ _ 65 3 Tryz.underlying65 info_int rfl 64 rfl rfl (by decide) fun w' hr hg => ?_
          exact hK.out _ _ (made_z hr) ((Ext.refl wk).grown hg (fun k hk => by cases hk)) (fun h => absurd h (by simp))
        · refine RStep.op rfl rfl (fun ac wk hp K hK => ?_)
          obtain ⟨ua, un, uc, ue, uz⟩ := hp.get 10 (by decide +kernel) rfl
          have t_ : ac.tmps[107]?.getD undef = .slice ua un uc := slot_is' ue
          clear hp
          go_simp
          exact hK.out _ _ ⟨_, _, _, rfl, uz⟩ (Ext.refl _) (fun h => absurd h (by simp))
        · refine RStep.op rfl rfl (fun ac wk hp K hK => ?_)
          obtain ⟨u1a, u1n, u1c, u1e, u1z⟩ := hp.get 1 (by decide +kernel) rfl
          have t1_ : ac.tmps[98]?.getD undef = .agg #[.slice u1a u1n u1c, .int .i64 1] := slot_is' u1e
          obtain ⟨u3a, u3n, u3c, u3e, u3z⟩ := hp.get 3 (by decide +kernel) rfl
          have t3_ : ac.tmps[100]?.getD undef = .agg #[.slice u3a u3n u3c, .int .i64 1] := slot_is' u3e
          obtain ⟨u5a, u5n, u5c, u5e, u5z⟩ := hp.get 5 (by decide +kernel) rfl
          have t5_ : ac.tmps[102]?.getD undef = .agg #[.slice u5a u5n u5c, .int .i64 1] := slot_is' u5e
          obtain ⟨u7a, u7n, u7c, u7e, u7z⟩ := hp.get 7 (by decide +kernel) rfl
          have t7_ : ac.tmps[104]?.getD undef = .agg #[.slice u7a u7n u7c, .int .i64 1] := slot_is' u7e
          obtain ⟨u9a, u9n, u9c, u9e, u9z⟩ := hp.get 9 (by decide +kernel) rfl
          have t9_ : ac.tmps[106]?.getD undef = .agg #[.slice u9a u9n u9c, .int .i64 0] := slot_is' u9e
          obtain ⟨u11a, u11n, u11c, u11e, u11z⟩ := hp.get 11 (by decide +kernel) rfl
          have t11_ : ac.tmps[108]?.getD undef = .agg #[.slice u11a u11n u11c, .int .i64 5] := slot_is' u11e
          clear hp
          go_simp
          exact hK.out _ _ ⟨_, rfl, Tab2.new (by simp) (Rows2.cons (u1z.ext ((Ext.refl _).alloc _)) (Rows2.cons (u3z.ext ((Ext.refl _).alloc _)) (Rows2.cons (u5z.ext ((Ext.refl _).alloc _)) (Rows2.cons (u7z.ext ((Ext.refl _).alloc _)) (Rows2.cons (u9z.ext ((Ext.refl _).alloc _)) (Rows2.cons (u11z.ext ((Ext.refl _).alloc _)) (Rows2.nil _ _)))))))⟩ ((Ext.refl _).alloc _) (fun h => absurd h (by simp))
        · refine RStep.op rfl rfl (fun ac wk hp K hK => ?_)
          obtain ⟨ug, ue, -⟩ := hp.get 12 (by decide +kernel) rfl
          have t_ : ac.tmps[109]?.getD undef = .slice (some ⟨ug, 0, none⟩) 6 6 := slot_is' ue
          clear hp
          go_simp
          exact hK.out _ _ rfl (Ext.refl _) (fun h => absurd h (by simp))
        · refine RStep.op rfl rfl (fun ac wk hp K hK => ?_)
          clear hp
          go_simp
          exact hK.out _ _ rfl (Ext.refl _) (fun h => absurd h (by simp))
      case he =>
        intro ac w5 hM
        obtain ⟨y0a, y0n, y0c, y0e, -⟩ := hM.post 0 rfl rfl
        obtain ⟨y1a, y1n, y1c, y1e, -⟩ := hM.post 1 rfl rfl
        obtain ⟨y2a, y2n, y2c, y2e, -⟩ := hM.post 2 rfl rfl
        obtain ⟨y3a, y3n, y3c, y3e, -⟩ := hM.post 3 rfl rfl
        obtain ⟨y4a, y4n, y4c, y4e, -⟩ := hM.post 4 rfl rfl
        obtain ⟨y5a, y5n, y5c, y5e, -⟩ := hM.post 5 rfl rfl
        obtain ⟨y6a, y6n, y6c, y6e, -⟩ := hM.post 6 rfl rfl
        obtain ⟨y7a, y7n, y7c, y7e, -⟩ := hM.post 7 rfl rfl
        obtain ⟨y8a, y8n, y8c, y8e, -⟩ := hM.post 8 rfl rfl
        obtain ⟨y9a, y9n, y9c, y9e, -⟩ := hM.post 9 rfl rfl
        obtain ⟨y10a, y10n, y10c, y10e, -⟩ := hM.post 10 rfl rfl
        obtain ⟨y11a, y11n, y11c, y11e, -⟩ := hM.post 11 rfl rfl
        obtain ⟨tg, y12e, htab⟩ := hM.post 12 rfl rfl
        have y13e := hM.post 13 rfl rfl
        have y14e := hM.post 14 rfl rfl
        have TB := Lib.hid htab
        have EX : Hid (Ext w w5) := Ext.below X3.out hM.blw
        have z0_ : sl ac 97 = .slice y0a y0n y0c := y0e
        have z1_ : sl ac 98 = .agg #[.slice y1a y1n y1c, .int .i64 1] := y1e
        have z2_ : sl ac 99 = .slice y2a y2n y2c := y2e
        have z3_ : sl ac 100 = .agg #[.slice y3a y3n y3c, .int .i64 1] := y3e
        have z4_ : sl ac 101 = .slice y4a y4n y4c := y4e
        have z5_ : sl ac 102 = .agg #[.slice y5a y5n y5c, .int .i64 1] := y5e
        have z6_ : sl ac 103 = .slice y6a y6n y6c := y6e
        have z7_ : sl ac 104 = .agg #[.slice y7a y7n y7c, .int .i64 1] := y7e
        have z8_ : sl ac 105 = .slice y8a y8n y8c := y8e
        have z9_ : sl ac 106 = .agg #[.slice y9a y9n y9c, .int .i64 0] := y9e
        have z10_ : sl ac 107 = .slice y10a y10n y10c := y10e
        have z11_ : sl ac 108 = .agg #[.slice y11a y11n y11c, .int .i64 5] := y11e
        have z12_ : sl ac 109 = .slice (some ⟨tg, 0, none⟩) 6 6 := y12e
        have z13_ : sl ac 110 = .int .i64 6 := y13e
        have z14_ : sl ac 111 = .int .i64 0 := y14e
        rw [hM.ag.lay]
        simp only [lay, List.foldl_cons, List.foldl_nil, List.setIfInBounds_toArray, List.set_cons_zero, List.set_cons_succ, z0_, z1_, z2_, z3_, z4_, z5_, z6_, z7_, z8_, z9_, z10_, z11_, z12_, z13_, z14_]
        clear hM htab z0_ z1_ z2_ z3_ z4_ z5_ z6_ z7_ z8_ z9_ z10_ z11_ z12_ z13_ z14_ y0e y1e y2e y3e y4e y5e y6e y7e y8e y9e y10e y11e y12e y13e y14e
        go_wp2_with fail
        go_loopw [111] (fun v111 wr => ∃ i : Nat, v111 = .int .i64 (i : Int) ∧ i ≤ 6 ∧ Ext w5 wr) (fun v111 _ => 6 - (intOf v111).toNat)
        case atStart => exact ⟨0, rfl, Nat.zero_le _, Ext.refl _⟩
        case round =>
          rename World => w6
          obtain ⟨i, rfl, hi, hx⟩ := hrel
          have X6 := Lib.hid hx
          clear hx
          by_cases hi6 : i < 6
          · have LT := Lib.hid hi6
            obtain ⟨L, c, h1, h2⟩ := tabA_get i hi6
            obtain ⟨ta, tn, tc, k1, k2, k3⟩ := (TB.out.ext X6.out).cell h1
            have HC := Lib.hid h2
            have HZ := Lib.hid k3
            have hcc : ((c : Int) != (c : Int)) = false := by simp
            have hi5 : (i : Int) ≤ 5 := by omega
            clear h1 h2 k3 hi
            go_wp2_with fail
            have C0 : Hid (At w6.heap.size 0 (.slice ta tn tc) (w6.alloc (.cells #[.slice ta tn tc, .int .i64 (c : Int)] 75))) := At.n0 (by rfl)
            have C1 : Hid (At w6.heap.size 1 (.int .i64 (c : Int)) (w6.alloc (.cells #[.slice ta tn tc, .int .i64 (c : Int)] 75))) := At.n0 (by rfl)
            have X7 : Hid (Ext w6 (w6.alloc (.cells #[.slice ta tn tc, .int .i64 (c : Int)] 75))) := (Ext.refl _).alloc _
            refine (prow_e (HZ.out.ints.ext X7.out) c HC.out).mono ?_
            rintro e w8 ⟨p8, n8, c8, rfl, x8⟩
            have g1 := (C1.out.ext x8).1
            have X8 := Lib.hid (X6.out.trans (X7.out.trans x8))
            clear x8 X6
            go_wp2_with fail
            exact ⟨⟨i + 1, by go_num, LT.out, X8.out⟩, by simp [intOf]; have := LT.out; omega⟩
          · have i6 : (6 : Int) ≤ (i : Int) := by omega
            have X7 := Lib.hid (EX.out.trans X6.out)
            clear hi hi6 TB EX X6
            go_wp2_with (at_make; refine make_ints rfl _ _ 65 3 Tryz.underlying65 info_int rfl 65 _ rfl rfl rfl (by decide) ?_; intro w7 hown hgrow; have HW7 := Lib.hid hown; have HG7 := Lib.hid hgrow; clear hown hgrow)
            have X57 : Hid (Ext (((((w6.alloc (.cells #[.int .i64 0] 3)).alloc (.cells #[.int .i64 1] 3)).alloc (.cells #[.int .i64 0, .int .i64 2] 3)).alloc (.cells #[.int .i64 1, .int .i64 0] 3)).alloc (.cells #[.int .i64 (-1), .int .i64 0] 3)) w7) := (Ext.refl _).grown HG7.out (fun k hk => by cases hk)
            have Y7 : Hid (Ext w7 (w7.alloc (.cells #[.slice none 0 0, .int .i64 0, .slice (some ⟨w6.heap.size, 0, none⟩) 1 1, .int .i64 0, .slice (some ⟨w6.heap.size + 1, 0, none⟩) 1 1, .int .i64 3, .slice (some ⟨w6.heap.size + 1 + 1, 0, none⟩) 2 2, .int .i64 3, .slice (some ⟨w6.heap.size + 1 + 1 + 1, 0, none⟩) 2 2, .int .i64 0, .slice (some ⟨w6.heap.size + 1 + 1 + 1 + 1, 0, none⟩) 2 2, .int .i64 3, .slice (some ⟨w6.heap.size + 1 + 1 + 1 + 1 + 1, 0, none⟩) 65 65, .int .i64 5] 77))) := (Ext.refl _).alloc _
            have Z0 : Hid (OwnZ 3 0 (w7.alloc (.cells #[.slice none 0 0, .int .i64 0, .slice (some ⟨w6.heap.size, 0, none⟩) 1 1, .int .i64 0, .slice (some ⟨w6.heap.size + 1, 0, none⟩) 1 1, .int .i64 3, .slice (some ⟨w6.heap.size + 1 + 1, 0, none⟩) 2 2, .int .i64 3, .slice (some ⟨w6.heap.size + 1 + 1 + 1, 0, none⟩) 2 2, .int .i64 0, .slice (some ⟨w6.heap.size + 1 + 1 + 1 + 1, 0, none⟩) 2 2, .int .i64 3, .slice (some ⟨w6.heap.size + 1 + 1 + 1 + 1 + 1, 0, none⟩) 65 65, .int .i64 5] 77)) (.slice (some ⟨w6.heap.size, 0, none⟩) 1 1) [(0 : Int)]) := (((litz_at (w := w6) [(0 : Int)] _ rfl 1 rfl (by decide) (w6.heap.size) (by simp)).ext (((((Ext.refl _).alloc _).alloc _).alloc _).alloc _)).ext X57.out).ext Y7.out
            have Z1 : Hid (OwnZ 3 0 (w7.alloc (.cells #[.slice none 0 0, .int .i64 0, .slice (some ⟨w6.heap.size, 0, none⟩) 1 1, .int .i64 0, .slice (some ⟨w6.heap.size + 1, 0, none⟩) 1 1, .int .i64 3, .slice (some ⟨w6.heap.size + 1 + 1, 0, none⟩) 2 2, .int .i64 3, .slice (some ⟨w6.heap.size + 1 + 1 + 1, 0, none⟩) 2 2, .int .i64 0, .slice (some ⟨w6.heap.size + 1 + 1 + 1 + 1, 0, none⟩) 2 2, .int .i64 3, .slice (some ⟨w6.heap.size + 1 + 1 + 1 + 1 + 1, 0, none⟩) 65 65, .int .i64 5] 77)) (.slice (some ⟨w6.heap.size + 1, 0, none⟩) 1 1) [(1 : Int)]) := (((litz_at (w := (w6.alloc (.cells #[.int .i64 0] 3))) [(1 : Int)] _ rfl 1 rfl (by decide) (w6.heap.size + 1) (by simp)).ext ((((Ext.refl _).alloc _).alloc _).alloc _)).ext X57.out).ext Y7.out
            have Z2 : Hid (OwnZ 3 0 (w7.alloc (.cells #[.slice none 0 0, .int .i64 0, .slice (some ⟨w6.heap.size, 0, none⟩) 1 1, .int .i64 0, .slice (some ⟨w6.heap.size + 1, 0, none⟩) 1 1, .int .i64 3, .slice (some ⟨w6.heap.size + 1 + 1, 0, none⟩) 2 2, .int .i64 3, .slice (some ⟨w6.heap.size + 1 + 1 + 1, 0, none⟩) 2 2, .int .i64 0, .slice (some ⟨w6.heap.size + 1 + 1 + 1 + 1, 0, none⟩) 2 2, .int .i64 3, .slice (some ⟨w6.heap.size + 1 + 1 + 1 + 1 + 1, 0, none⟩) 65 65, .int .i64 5] 77)) (.slice (some ⟨w6.heap.size + 1 + 1, 0, none⟩) 2 2) [(0 : Int), 2]) := (((litz_at (w := ((w6.alloc (.cells #[.int .i64 0] 3)).alloc (.cells #[.int .i64 1] 3))) [(0 : Int), 2] _ rfl 2 rfl (by decide) (w6.heap.size + 1 + 1) (by simp)).ext (((Ext.refl _).alloc _).alloc _)).ext X57.out).ext Y7.out
            have Z3 : Hid (OwnZ 3 0 (w7.alloc (.cells #[.slice none 0 0, .int .i64 0, .slice (some ⟨w6.heap.size, 0, none⟩) 1 1, .int .i64 0, .slice (some ⟨w6.heap.size + 1, 0, none⟩) 1 1, .int .i64 3, .slice (some ⟨w6.heap.size + 1 + 1, 0, none⟩) 2 2, .int .i64 3, .slice (some ⟨w6.heap.size + 1 + 1 + 1, 0, none⟩) 2 2, .int .i64 0, .slice (some ⟨w6.heap.size + 1 + 1 + 1 + 1, 0, none⟩) 2 2, .int .i64 3, .slice (some ⟨w6.heap.size + 1 + 1 + 1 + 1 + 1, 0, none⟩) 65 65, .int .i64 5] 77)) (.slice (some ⟨w6.heap.size + 1 + 1 + 1, 0, none⟩) 2 2) [(1 : Int), 0]) := (((litz_at (w := (((w6.alloc (.cells #[.int .i64 0] 3)).alloc (.cells #[.int .i64 1] 3)).alloc (.cells #[.int .i64 0, .int .i64 2] 3))) [(1 : Int), 0] _ rfl 2 rfl (by decide) (w6.heap.size + 1 + 1 + 1) (by simp)).ext ((Ext.refl _).alloc _)).ext X57.out).ext Y7.out
            have Z4 : Hid (OwnZ 3 0 (w7.alloc (.cells #[.slice none 0 0, .int .i64 0, .slice (some ⟨w6.heap.size, 0, none⟩) 1 1, .int .i64 0, .slice (some ⟨w6.heap.size + 1, 0, none⟩) 1 1, .int .i64 3, .slice (some ⟨w6.heap.size + 1 + 1, 0, none⟩) 2 2, .int .i64 3, .slice (some ⟨w6.heap.size + 1 + 1 + 1, 0, none⟩) 2 2, .int .i64 0, .slice (some ⟨w6.heap.size + 1 + 1 + 1 + 1, 0, none⟩) 2 2, .int .i64 3, .slice (some ⟨w6.heap.size + 1 + 1 + 1 + 1 + 1, 0, none⟩) 65 65, .int .i64 5] 77)) (.slice (some ⟨w6.heap.size + 1 + 1 + 1 + 1, 0, none⟩) 2 2) [(-1 : Int), 0]) := (((litz_at (w := ((((w6.alloc (.cells #[.int .i64 0] 3)).alloc (.cells #[.int .i64 1] 3)).alloc (.cells #[.int .i64 0, .int .i64 2] 3)).alloc (.cells #[.int .i64 1, .int .i64 0] 3))) [(-1 : Int), 0] _ rfl 2 rfl (by decide) (w6.heap.size + 1 + 1 + 1 + 1) (by simp)).ext (Ext.refl _)).ext X57.out).ext Y7.out
            have Z5 : Hid (OwnZ 3 0 (w7.alloc (.cells #[.slice none 0 0, .int .i64 0, .slice (some ⟨w6.heap.size, 0, none⟩) 1 1, .int .i64 0, .slice (some ⟨w6.heap.size + 1, 0, none⟩) 1 1, .int .i64 3, .slice (some ⟨w6.heap.size + 1 + 1, 0, none⟩) 2 2, .int .i64 3, .slice (some ⟨w6.heap.size + 1 + 1 + 1, 0, none⟩) 2 2, .int .i64 0, .slice (some ⟨w6.heap.size + 1 + 1 + 1 + 1, 0, none⟩) 2 2, .int .i64 3, .slice (some ⟨w6.heap.size + 1 + 1 + 1 + 1 + 1, 0, none⟩) 65 65, .int .i64 5] 77)) (.slice (some ⟨w6.heap.size + 1 + 1 + 1 + 1 + 1, 0, none⟩) 65 65) (List.replicate 65 0)) := by
              have h := (RowG.made HW7.out (L := List.replicate 65 0) (by rw [List.length_replicate])).ownZ (Nat.zero_le _) (by decide)
              rw [show ((((((w6.alloc (.cells #[.int .i64 0] 3)).alloc (.cells #[.int .i64 1] 3)).alloc (.cells #[.int .i64 0, .int .i64 2] 3)).alloc (.cells #[.int .i64 1, .int .i64 0] 3)).alloc (.cells #[.int .i64 (-1), .int .i64 0] 3))).heap.size = w6.heap.size + 1 + 1 + 1 + 1 + 1 by simp, List.length_replicate] at h
              exact h.ext Y7.out
            have TBB : Hid (Tab2 3 w7.heap.size tabB (w7.alloc (.cells #[.slice none 0 0, .int .i64 0, .slice (some ⟨w6.heap.size, 0, none⟩) 1 1, .int .i64 0, .slice (some ⟨w6.heap.size + 1, 0, none⟩) 1 1, .int .i64 3, .slice (some ⟨w6.heap.size + 1 + 1, 0, none⟩) 2 2, .int .i64 3, .slice (some ⟨w6.heap.size + 1 + 1 + 1, 0, none⟩) 2 2, .int .i64 0, .slice (some ⟨w6.heap.size + 1 + 1 + 1 + 1, 0, none⟩) 2 2, .int .i64 3, .slice (some ⟨w6.heap.size + 1 + 1 + 1 + 1 + 1, 0, none⟩) 65 65, .int .i64 5] 77))) := Tab2.new (by simp) (Rows2.cons ⟨OwnI.nil _ _ _, by decide⟩ (Rows2.cons Z0.out (Rows2.cons Z1.out (Rows2.cons Z2.out (Rows2.cons Z3.out (Rows2.cons Z4.out (Rows2.cons Z5.out (Rows2.nil _ _))))))))
            have XV : Hid (Ext w (w7.alloc (.cells #[.slice none 0 0, .int .i64 0, .slice (some ⟨w6.heap.size, 0, none⟩) 1 1, .int .i64 0, .slice (some ⟨w6.heap.size + 1, 0, none⟩) 1 1, .int .i64 3, .slice (some ⟨w6.heap.size + 1 + 1, 0, none⟩) 2 2, .int .i64 3, .slice (some ⟨w6.heap.size + 1 + 1 + 1, 0, none⟩) 2 2, .int .i64 0, .slice (some ⟨w6.heap.size + 1 + 1 + 1 + 1, 0, none⟩) 2 2, .int .i64 3, .slice (some ⟨w6.heap.size + 1 + 1 + 1 + 1 + 1, 0, none⟩) 65 65, .int .i64 5] 77))) := X7.out.trans (((((((Ext.refl w6).alloc _).alloc _).alloc _).alloc _).alloc _ : Ext w6 (((((w6.alloc (.cells #[.int .i64 0] 3)).alloc (.cells #[.int .i64 1] 3)).alloc (.cells #[.int .i64 0, .int .i64 2] 3)).alloc (.cells #[.int .i64 1, .int .i64 0] 3)).alloc (.cells #[.int .i64 (-1), .int .i64 0] 3))).trans (X57.out.trans Y7.out))
            obtain ⟨tg2, htg2⟩ : ∃ s, w7.heap.size = s := ⟨_, rfl⟩
            obtain ⟨w8, hw8⟩ : ∃ W, W = (w7.alloc (.cells #[.slice none 0 0, .int .i64 0, .slice (some ⟨w6.heap.size, 0, none⟩) 1 1, .int .i64 0, .slice (some ⟨w6.heap.size + 1, 0, none⟩) 1 1, .int .i64 3, .slice (some ⟨w6.heap.size + 1 + 1, 0, none⟩) 2 2, .int .i64 3, .slice (some ⟨w6.heap.size + 1 + 1 + 1, 0, none⟩) 2 2, .int .i64 0, .slice (some ⟨w6.heap.size + 1 + 1 + 1 + 1, 0, none⟩) 2 2, .int .i64 3, .slice (some ⟨w6.heap.size + 1 + 1 + 1 + 1 + 1, 0, none⟩) 65 65, .int .i64 5] 77)) := ⟨_, rfl⟩
            rw [← hw8] at TBB XV ⊢
            rw [htg2] at TBB ⊢
            clear hw8 htg2 Z0 Z1 Z2 Z3 Z4 Z5 X57 Y7 HW7 HG7 X7
            go_loopw [141] (fun v141 wr => ∃ i : Nat, v141 = .int .i64 (i : Int) ∧ i ≤ 7 ∧ Ext w8 wr) (fun v141 _ => 7 - (intOf v141).toNat)
            case atStart => exact ⟨0, rfl, Nat.zero_le _, Ext.refl _⟩
            case round =>
              rename World => w9
              obtain ⟨i, rfl, hi, hx⟩ := hrel
              have X9 := Lib.hid hx
              clear hx
              by_cases hi7 : i < 7
              · have LT := Lib.hid hi7
                obtain ⟨L, c, h1, h2⟩ := tabB_get i hi7
                obtain ⟨ta, tn, tc, k1, k2, k3⟩ := (TBB.out.ext X9.out).cell h1
                obtain rfl : tn = L.length := k3.ints.len_le
                obtain ⟨l, hl⟩ : ∃ l, L.length = l := ⟨_, rfl⟩
                have hl65 : l ≤ 65 := by rw [← hl]; exact tabB_len i hi7 h1
                have HC := Lib.hid h2
                have HZ := Lib.hid k3
                have HL := Lib.hid hl
                rw [hl] at HZ k1
                have hcc : ((c : Int) != (c : Int)) = false := by simp
                have hi6 : (i : Int) ≤ 6 := by omega
                have hl65i : (l : Int) ≤ 65 := by omega
                obtain ⟨z, hz⟩ : ∃ z, (l : Int) - 1 = z := ⟨_, rfl⟩
                have hwz : IntKind.i64.wrap ((l : Int) - 1) = z := by rw [IntWalk.i64_in _ (by omega)]; exact hz
                have hmz : max 0 z = ((l - 1 : Nat) : Int) := by omega
                clear h1 h2 k3 hi hl hl65 hz
                go_wp2_with fail
                have C0 : Hid (At w9.heap.size 0 (.slice ta l tc) (w9.alloc (.cells #[.slice ta l tc, .int .i64 (c : Int)] 77))) := At.n0 (by rfl)
                have C1 : Hid (At w9.heap.size 1 (.int .i64 (c : Int)) (w9.alloc (.cells #[.slice ta l tc, .int .i64 (c : Int)] 77))) := At.n0 (by rfl)
                have X10 : Hid (Ext w9 (w9.alloc (.cells #[.slice ta l tc, .int .i64 (c : Int)] 77))) := (Ext.refl _).alloc _
                refine (pdraws_e (HZ.out.ints.ext X10.out) c HC.out).mono ?_
                rintro e wa ⟨pa, na, ca, rfl, hna, xa⟩
                have g0 := (C0.out.ext xa).1
                have g1 := (C1.out.ext xa).1
                have XA := Lib.hid (X9.out.trans (X10.out.trans xa))
                rw [HL.out] at hna
                clear xa X9
                by_cases hc0 : c = 0
                · subst hc0
                  obtain rfl := hna rfl
                  have hb : ((((l - 1 : Nat) : Int)) != (((l - 1 : Nat) : Int))) = false := by simp
                  go_wp2_with fail
                  exact ⟨⟨i + 1, by go_num, LT.out, XA.out⟩, by simp [intOf]; have := LT.out; omega⟩
                · have hc1 : ((c : Int) == 0) = false := by rw [beq_eq_false_iff_ne]; omega
                  clear hna
                  go_wp2_with fail
                  exact ⟨⟨i + 1, by go_num, LT.out, XA.out⟩, by simp [intOf]; have := LT.out; omega⟩
              · have i7 : (7 : Int) ≤ (i : Int) := by omega
                have X9 := Lib.hid (XV.out.trans X9.out)
                clear hi hi7 TBB XV
                go_wp2_with fail
                refine (cnew_ok (⟨#[48, 49, 48, 49]⟩ : ByteArray) _ (by decide) (by decide +kernel)).mono ?_
                rintro e wa ⟨cs, rfl, lc, cc, xa⟩
                have C0 := Lib.hid cc
                have LC : Hid (w.heap.size ≤ cs) := Nat.le_trans X9.out.size lc
                have X10 := Lib.hid (X9.out.trans xa)
                clear cc lc xa X9
                go_wp2_with fail
                refine (pdraw_all C0.out (by decide +kernel) (Nat.zero_le _) 0 (L := ([] : List Int)) (y := true) (a' := 0) (ov' := false) (by decide +kernel)).mono ?_
                rintro e wd0 ⟨r0, rfl, o0, m0, c0⟩
                obtain ⟨pa0, pc0, rfl⟩ := o0.slice
                have GR0 : Hid (Gr wa wd0) := C0.out.mvgr m0 c0
                have CU0 := Lib.hid c0
                have XD0 := Lib.hid (m0.ext X10.out LC.out)
                clear o0 m0 c0 C0 X10 GR0
                go_wp2_with fail
                refine (pdraw_all CU0.out (by decide +kernel) (Nat.zero_le _) 1 (L := ([0] : List Int)) (y := true) (a' := 0) (ov' := false) (by decide +kernel)).mono ?_
                rintro e wd1 ⟨r1, rfl, o1, m1, c1⟩
                obtain ⟨pa1, pc1, rfl⟩ := o1.slice
                have GR1 : Hid (Gr wd0 wd1) := CU0.out.mvgr m1 c1
                have RB1 := Lib.hid o1
                have CU1 := Lib.hid c1
                have XD1 := Lib.hid (m1.ext XD0.out LC.out)
                clear o1 m1 c1 CU0 XD0 GR1
                go_wp2_with fail
                refine (pdraw_all CU1.out (by decide +kernel) (Nat.zero_le _) (-1) (L := ([] : List Int)) (y := false) (a' := 0) (ov' := false) (by decide +kernel)).mono ?_
                rintro e wd2 ⟨r2, rfl, o2, m2, c2⟩
                obtain ⟨pa2, pc2, rfl⟩ := o2.slice
                have GR2 : Hid (Gr wd1 wd2) := CU1.out.mvgr m2 c2
                have RB2 := Lib.hid (RB1.out.gr GR2.out)
                have CU2 := Lib.hid c2
                have XD2 := Lib.hid (m2.ext XD1.out LC.out)
                clear o2 m2 c2 CU1 XD1 GR2 RB1
                go_wp2_with fail
                refine (pdraw_all CU2.out (by decide +kernel) (Nat.zero_le _) 65 (L := ([] : List Int)) (y := false) (a' := 0) (ov' := false) (by decide +kernel)).mono ?_
                rintro e wd3 ⟨r3, rfl, o3, m3, c3⟩
                obtain ⟨pa3, pc3, rfl⟩ := o3.slice
                have GR3 : Hid (Gr wd2 wd3) := CU2.out.mvgr m3 c3
                have RB3 := Lib.hid (RB2.out.gr GR3.out)
                have CU3 := Lib.hid c3
                have XD3 := Lib.hid (m3.ext XD2.out LC.out)
                clear o3 m3 c3 CU2 XD2 GR3 RB2
                go_wp2_with fail
                have Y0 : Hid (Ext wd3 (wd3.alloc (.cells #[.int .i64 0] 3))) := (Ext.refl _).alloc _
                refine (same12_calls (RB3.out.ints.ext Y0.out) (ints_lit wd3 [(0 : Int)] _ rfl 1 rfl (by decide)) true (by decide)).mono ?_
                rintro e we ⟨rfl, xe⟩
                have CU4 := Lib.hid (CU3.out.ext (Y0.out.trans xe))
                have X4 := Lib.hid (XD3.out.trans (Y0.out.trans xe))
                clear xe Y0 RB3 XD3 CU3
                go_wp2_with fail
                refine (cat_calls CU4.out).mono ?_
                rintro e wf ⟨rfl, xf⟩
                have CU5 := Lib.hid (CU4.out.ext xf)
                have X5 := Lib.hid (X4.out.trans xf)
                clear xf X4 CU4
                go_wp2_with fail
                refine (cover_calls CU5.out).mono ?_
                rintro e wg ⟨rfl, xg⟩
                have X6 := Lib.hid (X5.out.trans xg)
                clear xg X5 CU5 LC
                go_wp2_with fail
                refine (pcost_is _ 0 (by decide)).mono ?_
                rintro e wh ⟨b0, v0, u0_, m0, d0, rfl, i0, -, xh⟩
                obtain ⟨q1, q2, q3, q4, q5, q6, rfl, rfl⟩ := i0.slice
                have Y1 : Hid (Ext wh (wh.alloc (.cells #[.bool b0, .slice q1 q2 q3, .slice q4 q5 q6] 37))) := (Ext.refl _).alloc _
                have I1 := Lib.hid (i0.ext Y1.out)
                have X7 := Lib.hid (X6.out.trans (xh.trans Y1.out))
                obtain ⟨s, hs⟩ : ∃ s, wh.heap.size = s := ⟨_, rfl⟩
                have D0 : Hid (At s 0 (.bool b0) (wh.alloc (.cells #[.bool b0, .slice q1 q2 q3, .slice q4 q5 q6] 37))) := by rw [← hs]; exact At.n0 (by rfl)
                have D1 : Hid (At s 1 (.slice q1 q2 q3) (wh.alloc (.cells #[.bool b0, .slice q1 q2 q3, .slice q4 q5 q6] 37))) := by rw [← hs]; exact At.n0 (by rfl)
                have D2 : Hid (At s 2 (.slice q4 q5 q6) (wh.alloc (.cells #[.bool b0, .slice q1 q2 q3, .slice q4 q5 q6] 37))) := by rw [← hs]; exact At.n0 (by rfl)
                clear i0 xh X6 Y1
                go_wp2_with fail
                (try rw [hs])
                obtain ⟨w10, hw10⟩ : ∃ W, W = (wh.alloc (.cells #[.bool b0, .slice q1 q2 q3, .slice q4 q5 q6] 37)) := ⟨_, rfl⟩
                rw [← hw10] at I1 X7 D0 D1 D2 ⊢
                clear hw10 hs
                refine (pcost_bad _ (-1) (.inl (by decide))).mono ?_
                rintro e w11 ⟨rfl, x11⟩
                have X11 : Hid (Ext w10 (w11.alloc (.cells #[.bool false, .slice none 0 0, .slice none 0 0] 37))) := x11.trans ((Ext.refl _).alloc _)
                clear x11
                go_wp2_with fail
                refine (pcost_bad _ 65 (.inr (by decide))).mono ?_
                rintro e w12 ⟨rfl, x12⟩
                have X12 : Hid (Ext w10 (w12.alloc (.cells #[.bool false, .slice none 0 0, .slice none 0 0] 37))) := X11.out.trans (x12.trans ((Ext.refl _).alloc _))
                clear x12 X11
                go_wp2_with fail
                refine (pcost_is _ 64 (by decide)).mono ?_
                rintro e w13 ⟨b1, v1, u1_, m1, d1, rfl, i1, -, x13⟩
                obtain ⟨s1, s2, s3, s4, s5, s6, rfl, rfl⟩ := i1.slice
                have X13 : Hid (Ext w10 (w13.alloc (.cells #[.bool b1, .slice s1 s2 s3, .slice s4 s5 s6] 37))) := X12.out.trans (x13.trans ((Ext.refl _).alloc _))
                clear x13 i1 X12
                go_wp2_with fail
                refine (pdraw_nil2 _).mono ?_
                rintro e w14 ⟨rfl, x14⟩
                have X14 := Lib.hid (X13.out.trans x14)
                have g0 := (D0.out.ext X14.out).1
                have g1 := (D1.out.ext X14.out).1
                have g2 := (D2.out.ext X14.out).1
                clear x14 X13
                go_wp2_with fail
                refine (rshow_is ((I1.out.ext X14.out).inR (k := 1) (pcostQ_len (n := 0) (by rw [Bs_def]; decide))) (by decide) ⟨#[48]⟩ (showR_of (by decide +kernel) (by decide +kernel))).mono ?_
                rintro e w15 ⟨rfl, x15⟩
                have X15 := Lib.hid (X7.out.trans (X14.out.trans x15))
                clear x15 X14 g0 g1 g2 I1 D0 D1 D2
                go_wp2_with fail
                go_ret
                exact ⟨rfl, X15.out⟩
end Go.Proofs.YtkfioaoooodmnaaGreatDoor
