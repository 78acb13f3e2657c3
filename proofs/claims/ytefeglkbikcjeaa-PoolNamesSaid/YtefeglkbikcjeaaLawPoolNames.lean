/- PoolNames answers true: the examples; numbers at their ends; each error in its row. -/
import Derived.Test.YtefeglkbikcjeaaRegTab4
import Derived.Test.YtefeglkbikcjeaaRefPool
namespace Go.Proofs.Ytefeglkbikcjeaa
open Go Go.RowKit

def tabP : List Row4 := [((-1), 0, ([] : List Int), 1), (0, (-1), ([] : List Int), 1), (1, 0, ([] : List Int), 1), (0, 65, (List.replicate 70 0), 1), (0, 0, ([] : List Int), 0), (0, 0, [(0 : Int)], 5), (2, 4, [(0 : Int)], 4), (2, 4, [(9 : Int), 9, 9], 5), (2, 4, [(3 : Int), 0], 1), (2, 4, [(2 : Int), 4], 1), (2, 4, [(2 : Int), 3], 0), (2, 4, [(-1 : Int), 3], 1), (0, 2, [(0 : Int), 1], 0), (0, 64, (List.replicate 64 0), 0), (64, 64, ([] : List Int), 0), ((-9223372036854775808), 9223372036854775807, ([] : List Int), 1)]
theorem tabP_get : ∀ i, i < 16 → ∃ k n L, ∃ c : Nat, tabP[i]? = some (k, n, L, (c : Int)) ∧ errPool k n L = c
  | 0, _ => ⟨_, _, _, 1, rfl, by decide⟩
  | 1, _ => ⟨_, _, _, 1, rfl, by decide⟩
  | 2, _ => ⟨_, _, _, 1, rfl, by decide⟩
  | 3, _ => ⟨_, _, _, 1, rfl, by decide⟩
  | 4, _ => ⟨_, _, _, 0, rfl, by decide⟩
  | 5, _ => ⟨_, _, _, 5, rfl, by decide⟩
  | 6, _ => ⟨_, _, _, 4, rfl, by decide⟩
  | 7, _ => ⟨_, _, _, 5, rfl, by decide⟩
  | 8, _ => ⟨_, _, _, 1, rfl, by decide⟩
  | 9, _ => ⟨_, _, _, 1, rfl, by decide⟩
  | 10, _ => ⟨_, _, _, 0, rfl, by decide⟩
  | 11, _ => ⟨_, _, _, 1, rfl, by decide⟩
  | 12, _ => ⟨_, _, _, 0, rfl, by decide⟩
  | 13, _ => ⟨_, _, _, 0, rfl, by decide⟩
  | 14, _ => ⟨_, _, _, 0, rfl, by decide⟩
  | 15, _ => ⟨_, _, _, 1, rfl, by decide⟩
  | n + 16, h => absurd h (by omega)
theorem choose_c (w : World) (k n : Int) (b : Bool) (hb : decide (mayP k n) = b) (f : Int) (hf : (if b then 0 else 1) = f) :
    Calls Try.prog 6 #[.int .i64 k, .int .i64 n] w fun e w' => ∃ p m c, e = .returned (.tuple #[.slice p m c, .int .i64 f]) ∧ Ext w w' := by
  subst hf
  cases b with
  | true =>
    have h := of_decide_eq_true hb
    have h' := h
    unfold mayP at h'
    obtain ⟨kk, rfl⟩ : ∃ kk : Nat, k = (kk : Int) := ⟨k.toNat, by omega⟩
    obtain ⟨nn, rfl⟩ : ∃ nn : Nat, n = (nn : Int) := ⟨n.toNat, by omega⟩
    refine (choose_ok w kk nn (by omega) (by omega)).mono ?_
    rintro e w' ⟨r, rfl, o, x⟩
    obtain ⟨p, m, c, rfl⟩ := o.slice'
    exact ⟨_, _, _, rfl, x⟩
  | false =>
    refine (choose_bad w k n (of_decide_eq_false hb)).mono ?_
    rintro e w' ⟨rfl, x⟩
    exact ⟨_, _, _, rfl, x⟩
theorem plcost_c (w : World) (k n : Int) (b : Bool) (hb : decide (mayP k n) = b) (f : Int) (hf : (if b then 0 else 1) = f) :
    Calls Try.prog 7 #[.int .i64 k, .int .i64 n] w fun e w' => ∃ s p m c p' m' c', e = .returned (.tuple #[.agg #[.bool s, .slice p m c, .slice p' m' c'], .int .i64 f]) ∧ Ext w w' := by
  subst hf
  cases b with
  | true =>
    have h := of_decide_eq_true hb
    have h' := h
    unfold mayP at h'
    obtain ⟨kk, rfl⟩ : ∃ kk : Nat, k = (kk : Int) := ⟨k.toNat, by omega⟩
    obtain ⟨nn, rfl⟩ : ∃ nn : Nat, n = (nn : Int) := ⟨n.toNat, by omega⟩
    refine (plcost_is w kk nn (by omega) (by omega) _ rfl).mono ?_
    rintro e w' ⟨s, v, u, m, d, rfl, i, -, x⟩
    obtain ⟨q1, q2, q3, q4, q5, q6, rfl, rfl⟩ := i.slice
    exact ⟨_, _, _, _, _, _, _, rfl, x⟩
  | false =>
    refine (plcost_bad w k n (of_decide_eq_false hb)).mono ?_
    rintro e w' ⟨rfl, x⟩
    exact ⟨_, _, _, _, _, _, _, rfl, x⟩
/-- the choices, row by row -/
def nextL : List Nat → List Nat
  | [] => []
  | [a] => [a]
  | a :: b :: l => (a + b) :: nextL (b :: l)
theorem nextL_get : ∀ (L : List Nat) (j : Nat), (nextL L).getD j 0 = L.getD j 0 + L.getD (j + 1) 0
  | [], j => by simp [nextL]
  | [a], j => by cases j <;> simp [nextL]
  | a :: b :: l, 0 => by simp [nextL]
  | a :: b :: l, j + 1 => by
    have h := nextL_get (b :: l) j
    simpa [nextL] using h
def rowL : Nat → List Nat
  | 0 => [1]
  | r + 1 => 1 :: nextL (rowL r)
theorem rowL_bin : ∀ r j, (rowL r).getD j 0 = bin r j
  | 0, 0 => rfl
  | 0, j + 1 => by simp [rowL, bin]
  | r + 1, 0 => by simp [rowL, bin]
  | r + 1, j + 1 => by
    rw [bin, ← rowL_bin r j, ← rowL_bin r (j + 1), ← nextL_get]
    simp [rowL]
theorem bin_big : bin 64 32 = 1832624140942590534 := by rw [← rowL_bin]; decide +kernel
theorem plR_len {k n : Int} {J : List Int} (h : errPool k n J = 0) : ((plR k n J).length : Int) = k := by
  rw [plR_ok h, poolF_length]
  have := (errPool_ok h).1
  unfold mayP at this
  omega
/-- a table of draws and of pools -/
def TabJ (g : Nat) (w : World) : Prop := ∃ (C : Array Value) (ty : TypeId), w.heap[g]? = some (.cells C ty (0, 0)) ∧
  ∀ i, i < 6 → ∃ (p q : Option Addr) (J M : List Int), C[i * 2]? = some (.slice p 2 2) ∧ C[i * 2 + 1]? = some (.slice q 2 2) ∧ Ints w (.slice p 2 2) J ∧ Ints w (.slice q 2 2) M ∧ errPool 2 4 J = 0 ∧ plR 2 4 J = M
theorem TabJ.ext {g : Nat} {w w' : World} (h : TabJ g w) (x : Ext w w') : TabJ g w' := by
  obtain ⟨C, ty, h1, h2⟩ := h
  refine ⟨C, ty, by rw [x.block g (Array.getElem?_eq_some_iff.1 h1).1]; exact h1, fun i hi => ?_⟩
  obtain ⟨p, q, J, M, e1, e2, e3, e4, e5⟩ := h2 i hi
  exact ⟨p, q, J, M, e1, e2, e3.ext x, e4.ext x, e5⟩
theorem TabJ.cell {g : Nat} {w : World} (h : TabJ g w) {i : Nat} (hi : i < 6) : ∃ (p q : Option Addr) (J M : List Int), w.cell? ⟨g, i * 2, none⟩ = some (.slice p 2 2) ∧ w.cell? ⟨g, i * 2 + 1, none⟩ = some (.slice q 2 2) ∧ Ints w (.slice p 2 2) J ∧ Ints w (.slice q 2 2) M ∧ errPool 2 4 J = 0 ∧ plR 2 4 J = M := by
  obtain ⟨C, ty, h1, h2⟩ := h
  obtain ⟨p, q, J, M, e1, e2, e3⟩ := h2 i hi
  exact ⟨p, q, J, M, by rw [cell_of_row w g _ C ty (0, 0) h1]; exact e1, by rw [cell_of_row w g _ C ty (0, 0) h1]; exact e2, e3⟩
theorem litz_at3 {t : TypeId} {w : World} (L : List Int) (C : Array Value) (hC : C.toList = L.map zv) (n : Nat) (hn : n = L.length) (hl : L.length ≤ 100000) (s : Nat) (hs : w.heap.size = s) (ht : t ∈ notBox := by decide) : Ints (w.alloc (.cells C t)) (.slice (some ⟨s, 0, none⟩) n n) L := by
  subst hs
  exact (litz_n0 (B := 0) L C hC n hn hl (Nat.zero_le _) ht).ints

set_option maxHeartbeats 4000000 in
set_option maxRecDepth 1000000 in
theorem poolNames_calls (w : World) : Calls Try.prog 3 #[] w (Yes w) := by
  go_enter Try.func3, Try.ntmps3
  go_wp2_with fail
  refine (awake13_calls _).mono ?_
  rintro e w1 ⟨rfl, x1⟩
  go_wp2_with fail
  (try simp only [List.append_eq, List.cons_append, List.nil_append])
  refine wp_region_gen ⟨[31, 32, 33, 34, 35, 36, 37, 38, 39, 40, 41, 42, 43, 44, 45, 46, 47, 48, 49, 50, 51, 52, 53, 54, 55, 56, 57, 58, 59], fun _ => false, fun i => ([none, none, none, none, none, none, none, none, none, none, none, none, none, none, none, none, none, none, none, none, none, none, none, none, none, none, none, none, none] : List (Option (BoxRef × Nat))).getD i none, fun i => ([Sg.agg4 3 (-1) 0 ([] : List Int) 1, Sg.agg4 3 0 (-1) ([] : List Int) 1, Sg.agg4 3 1 0 ([] : List Int) 1, Sg.z 3 (List.replicate 70 0), Sg.agg4 3 0 65 (List.replicate 70 0) 1, Sg.agg4 3 0 0 ([] : List Int) 0, Sg.z 3 [(0 : Int)], Sg.agg4 3 0 0 [(0 : Int)] 5, Sg.z 3 [(0 : Int)], Sg.agg4 3 2 4 [(0 : Int)] 4, Sg.z 3 [(9 : Int), 9, 9], Sg.agg4 3 2 4 [(9 : Int), 9, 9] 5, Sg.z 3 [(3 : Int), 0], Sg.agg4 3 2 4 [(3 : Int), 0] 1, Sg.z 3 [(2 : Int), 4], Sg.agg4 3 2 4 [(2 : Int), 4] 1, Sg.z 3 [(2 : Int), 3], Sg.agg4 3 2 4 [(2 : Int), 3] 0, Sg.z 3 [(-1 : Int), 3], Sg.agg4 3 2 4 [(-1 : Int), 3] 1, Sg.z 3 [(0 : Int), 1], Sg.agg4 3 0 2 [(0 : Int), 1] 0, Sg.z 3 (List.replicate 64 0), Sg.agg4 3 0 64 (List.replicate 64 0) 0, Sg.agg4 3 64 64 ([] : List Int) 0, Sg.agg4 3 (-9223372036854775808) 9223372036854775807 ([] : List Int) 1, Sg.tab4 3 16 tabP, Sg.val (.int .i64 16), Sg.val (.int .i64 0)] : List Sg).getD i Sg.any, [], []⟩ w.heap.size (by kernel_rfl) (by kernel_rfl) x1.size ?hfr (AllAt'.nil _) trivial trivial ?hs ?he
  case hfr =>
    intro i v wk hi hst hv
    exact absurd hi (by simp)
  case hs =>
    refine ⟨?_, ?_, ?_, ?_, ?_, ?_, ?_, ?_, ?_, ?_, ?_, ?_, ?_, ?_, ?_, ?_, ?_, ?_, ?_, ?_, ?_, ?_, ?_, ?_, ?_, ?_, ?_, ?_, ?_, trivial⟩
    · refine RStep.op rfl rfl (fun ac wk hp K hK => ?_)
      clear hp
      go_simp
      exact hK.out _ _ ⟨_, _, _, rfl, ⟨OwnI.nil _ _ _, by decide⟩⟩ (Ext.refl _) (fun h => absurd h (by simp))
    · refine RStep.op rfl rfl (fun ac wk hp K hK => ?_)
      clear hp
      go_simp
      exact hK.out _ _ ⟨_, _, _, rfl, ⟨OwnI.nil _ _ _, by decide⟩⟩ (Ext.refl _) (fun h => absurd h (by simp))
    · refine RStep.op rfl rfl (fun ac wk hp K hK => ?_)
      clear hp
      go_simp
      exact hK.out _ _ ⟨_, _, _, rfl, ⟨OwnI.nil _ _ _, by decide⟩⟩ (Ext.refl _) (fun h => absurd h (by simp))
    · refine RStep.op rfl rfl (fun ac wk hp K hK => ?_)
      clear hp
      refine wp_make_ints _ _ 24 3 Try.underlying24 info_int rfl 70 rfl rfl (by decide) fun w' hr hg => ?_
      exact hK.out _ _ (made_z hr) ((Ext.refl wk).grown hg (fun k hk => by cases hk)) (fun h => absurd h (by simp))
    · refine RStep.op rfl rfl (fun ac wk hp K hK => ?_)
      obtain ⟨ua, un, uc, ue, uz⟩ := hp.get 3 (by decide +kernel) rfl
      have t_ : ac.tmps[34]?.getD undef = .slice ua un uc := slot_is' ue
      clear hp
      go_simp
      exact hK.out _ _ ⟨_, _, _, rfl, uz⟩ (Ext.refl _) (fun h => absurd h (by simp))
    · refine RStep.op rfl rfl (fun ac wk hp K hK => ?_)
      clear hp
      go_simp
      exact hK.out _ _ ⟨_, _, _, rfl, ⟨OwnI.nil _ _ _, by decide⟩⟩ (Ext.refl _) (fun h => absurd h (by simp))
    · refine RStep.op rfl rfl (fun ac wk hp K hK => ?_)
      clear hp
      go_simp
      exact hK.out _ _ (lit_z [(0 : Int)] _ rfl 1 rfl (by simp)) ((Ext.refl _).alloc _) (fun h => absurd h (by simp))
    · refine RStep.op rfl rfl (fun ac wk hp K hK => ?_)
      obtain ⟨ua, un, uc, ue, uz⟩ := hp.get 6 (by decide +kernel) rfl
      have t_ : ac.tmps[37]?.getD undef = .slice ua un uc := slot_is' ue
      clear hp
      go_simp
      exact hK.out _ _ ⟨_, _, _, rfl, uz⟩ (Ext.refl _) (fun h => absurd h (by simp))
    · refine RStep.op rfl rfl (fun ac wk hp K hK => ?_)
      clear hp
      go_simp
      exact hK.out _ _ (lit_z [(0 : Int)] _ rfl 1 rfl (by simp)) ((Ext.refl _).alloc _) (fun h => absurd h (by simp))
    · refine RStep.op rfl rfl (fun ac wk hp K hK => ?_)
      obtain ⟨ua, un, uc, ue, uz⟩ := hp.get 8 (by decide +kernel) rfl
      have t_ : ac.tmps[39]?.getD undef = .slice ua un uc := slot_is' ue
      clear hp
      go_simp
      exact hK.out _ _ ⟨_, _, _, rfl, uz⟩ (Ext.refl _) (fun h => absurd h (by simp))
    · refine RStep.op rfl rfl (fun ac wk hp K hK => ?_)
      clear hp
      go_simp
      exact hK.out _ _ (lit_z [(9 : Int), 9, 9] _ rfl 3 rfl (by simp)) ((Ext.refl _).alloc _) (fun h => absurd h (by simp))
    · refine RStep.op rfl rfl (fun ac wk hp K hK => ?_)
      obtain ⟨ua, un, uc, ue, uz⟩ := hp.get 10 (by decide +kernel) rfl
      have t_ : ac.tmps[41]?.getD undef = .slice ua un uc := slot_is' ue
      clear hp
      go_simp
      exact hK.out _ _ ⟨_, _, _, rfl, uz⟩ (Ext.refl _) (fun h => absurd h (by simp))
    · refine RStep.op rfl rfl (fun ac wk hp K hK => ?_)
      clear hp
      go_simp
      exact hK.out _ _ (lit_z [(3 : Int), 0] _ rfl 2 rfl (by simp)) ((Ext.refl _).alloc _) (fun h => absurd h (by simp))
    · refine RStep.op rfl rfl (fun ac wk hp K hK => ?_)
      obtain ⟨ua, un, uc, ue, uz⟩ := hp.get 12 (by decide +kernel) rfl
      have t_ : ac.tmps[43]?.getD undef = .slice ua un uc := slot_is' ue
      clear hp
      go_simp
      exact hK.out _ _ ⟨_, _, _, rfl, uz⟩ (Ext.refl _) (fun h => absurd h (by simp))
    · refine RStep.op rfl rfl (fun ac wk hp K hK => ?_)
      clear hp
      go_simp
      exact hK.out _ _ (lit_z [(2 : Int), 4] _ rfl 2 rfl (by simp)) ((Ext.refl _).alloc _) (fun h => absurd h (by simp))
    · refine RStep.op rfl rfl (fun ac wk hp K hK => ?_)
      obtain ⟨ua, un, uc, ue, uz⟩ := hp.get 14 (by decide +kernel) rfl
      have t_ : ac.tmps[45]?.getD undef = .slice ua un uc := slot_is' ue
      clear hp
      go_simp
      exact hK.out _ _ ⟨_, _, _, rfl, uz⟩ (Ext.refl _) (fun h => absurd h (by simp))
    · refine RStep.op rfl rfl (fun ac wk hp K hK => ?_)
      clear hp
      go_simp
      exact hK.out _ _ (lit_z [(2 : Int), 3] _ rfl 2 rfl (by simp)) ((Ext.refl _).alloc _) (fun h => absurd h (by simp))
    · refine RStep.op rfl rfl (fun ac wk hp K hK => ?_)
      obtain ⟨ua, un, uc, ue, uz⟩ := hp.get 16 (by decide +kernel) rfl
      have t_ : ac.tmps[47]?.getD undef = .slice ua un uc := slot_is' ue
      clear hp
      go_simp
      exact hK.out _ _ ⟨_, _, _, rfl, uz⟩ (Ext.refl _) (fun h => absurd h (by simp))
    · refine RStep.op rfl rfl (fun ac wk hp K hK => ?_)
      clear hp
      go_simp
      exact hK.out _ _ (lit_z [(-1 : Int), 3] _ rfl 2 rfl (by simp)) ((Ext.refl _).alloc _) (fun h => absurd h (by simp))
    · refine RStep.op rfl rfl (fun ac wk hp K hK => ?_)
      obtain ⟨ua, un, uc, ue, uz⟩ := hp.get 18 (by decide +kernel) rfl
      have t_ : ac.tmps[49]?.getD undef = .slice ua un uc := slot_is' ue
      clear hp
      go_simp
      exact hK.out _ _ ⟨_, _, _, rfl, uz⟩ (Ext.refl _) (fun h => absurd h (by simp))
    · refine RStep.op rfl rfl (fun ac wk hp K hK => ?_)
      clear hp
      go_simp
      exact hK.out _ _ (lit_z [(0 : Int), 1] _ rfl 2 rfl (by simp)) ((Ext.refl _).alloc _) (fun h => absurd h (by simp))
    · refine RStep.op rfl rfl (fun ac wk hp K hK => ?_)
      obtain ⟨ua, un, uc, ue, uz⟩ := hp.get 20 (by decide +kernel) rfl
      have t_ : ac.tmps[51]?.getD undef = .slice ua un uc := slot_is' ue
      clear hp
      go_simp
      exact hK.out _ _ ⟨_, _, _, rfl, uz⟩ (Ext.refl _) (fun h => absurd h (by simp))
    · refine RStep.op rfl rfl (fun ac wk hp K hK => ?_)
      clear hp
      refine wp_make_ints _ _ 24 3 Try.underlying24 info_int rfl 64 rfl rfl (by decide) fun w' hr hg => ?_
      exact hK.out _ _ (made_z hr) ((Ext.refl wk).grown hg (fun k hk => by cases hk)) (fun h => absurd h (by simp))
    · refine RStep.op rfl rfl (fun ac wk hp K hK => ?_)
      obtain ⟨ua, un, uc, ue, uz⟩ := hp.get 22 (by decide +kernel) rfl
      have t_ : ac.tmps[53]?.getD undef = .slice ua un uc := slot_is' ue
      clear hp
      go_simp
      exact hK.out _ _ ⟨_, _, _, rfl, uz⟩ (Ext.refl _) (fun h => absurd h (by simp))
    · refine RStep.op rfl rfl (fun ac wk hp K hK => ?_)
      clear hp
      go_simp
      exact hK.out _ _ ⟨_, _, _, rfl, ⟨OwnI.nil _ _ _, by decide⟩⟩ (Ext.refl _) (fun h => absurd h (by simp))
    · refine RStep.op rfl rfl (fun ac wk hp K hK => ?_)
      clear hp
      go_simp
      exact hK.out _ _ ⟨_, _, _, rfl, ⟨OwnI.nil _ _ _, by decide⟩⟩ (Ext.refl _) (fun h => absurd h (by simp))
    · refine RStep.op rfl rfl (fun ac wk hp K hK => ?_)
      obtain ⟨u0a, u0n, u0c, u0e, u0z⟩ := hp.get 0 (by decide +kernel) rfl
      have t0_ : ac.tmps[31]?.getD undef = .agg #[.int .i64 (-1), .int .i64 0, .slice u0a u0n u0c, .int .i64 1] := slot_is' u0e
      obtain ⟨u1a, u1n, u1c, u1e, u1z⟩ := hp.get 1 (by decide +kernel) rfl
      have t1_ : ac.tmps[32]?.getD undef = .agg #[.int .i64 0, .int .i64 (-1), .slice u1a u1n u1c, .int .i64 1] := slot_is' u1e
      obtain ⟨u2a, u2n, u2c, u2e, u2z⟩ := hp.get 2 (by decide +kernel) rfl
      have t2_ : ac.tmps[33]?.getD undef = .agg #[.int .i64 1, .int .i64 0, .slice u2a u2n u2c, .int .i64 1] := slot_is' u2e
      obtain ⟨u4a, u4n, u4c, u4e, u4z⟩ := hp.get 4 (by decide +kernel) rfl
      have t4_ : ac.tmps[35]?.getD undef = .agg #[.int .i64 0, .int .i64 65, .slice u4a u4n u4c, .int .i64 1] := slot_is' u4e
      obtain ⟨u5a, u5n, u5c, u5e, u5z⟩ := hp.get 5 (by decide +kernel) rfl
      have t5_ : ac.tmps[36]?.getD undef = .agg #[.int .i64 0, .int .i64 0, .slice u5a u5n u5c, .int .i64 0] := slot_is' u5e
      obtain ⟨u7a, u7n, u7c, u7e, u7z⟩ := hp.get 7 (by decide +kernel) rfl
      have t7_ : ac.tmps[38]?.getD undef = .agg #[.int .i64 0, .int .i64 0, .slice u7a u7n u7c, .int .i64 5] := slot_is' u7e
      obtain ⟨u9a, u9n, u9c, u9e, u9z⟩ := hp.get 9 (by decide +kernel) rfl
      have t9_ : ac.tmps[40]?.getD undef = .agg #[.int .i64 2, .int .i64 4, .slice u9a u9n u9c, .int .i64 4] := slot_is' u9e
      obtain ⟨u11a, u11n, u11c, u11e, u11z⟩ := hp.get 11 (by decide +kernel) rfl
      have t11_ : ac.tmps[42]?.getD undef = .agg #[.int .i64 2, .int .i64 4, .slice u11a u11n u11c, .int .i64 5] := slot_is' u11e
      obtain ⟨u13a, u13n, u13c, u13e, u13z⟩ := hp.get 13 (by decide +kernel) rfl
      have t13_ : ac.tmps[44]?.getD undef = .agg #[.int .i64 2, .int .i64 4, .slice u13a u13n u13c, .int .i64 1] := slot_is' u13e
      obtain ⟨u15a, u15n, u15c, u15e, u15z⟩ := hp.get 15 (by decide +kernel) rfl
      have t15_ : ac.tmps[46]?.getD undef = .agg #[.int .i64 2, .int .i64 4, .slice u15a u15n u15c, .int .i64 1] := slot_is' u15e
      obtain ⟨u17a, u17n, u17c, u17e, u17z⟩ := hp.get 17 (by decide +kernel) rfl
      have t17_ : ac.tmps[48]?.getD undef = .agg #[.int .i64 2, .int .i64 4, .slice u17a u17n u17c, .int .i64 0] := slot_is' u17e
      obtain ⟨u19a, u19n, u19c, u19e, u19z⟩ := hp.get 19 (by decide +kernel) rfl
      have t19_ : ac.tmps[50]?.getD undef = .agg #[.int .i64 2, .int .i64 4, .slice u19a u19n u19c, .int .i64 1] := slot_is' u19e
      obtain ⟨u21a, u21n, u21c, u21e, u21z⟩ := hp.get 21 (by decide +kernel) rfl
      have t21_ : ac.tmps[52]?.getD undef = .agg #[.int .i64 0, .int .i64 2, .slice u21a u21n u21c, .int .i64 0] := slot_is' u21e
      obtain ⟨u23a, u23n, u23c, u23e, u23z⟩ := hp.get 23 (by decide +kernel) rfl
      have t23_ : ac.tmps[54]?.getD undef = .agg #[.int .i64 0, .int .i64 64, .slice u23a u23n u23c, .int .i64 0] := slot_is' u23e
      obtain ⟨u24a, u24n, u24c, u24e, u24z⟩ := hp.get 24 (by decide +kernel) rfl
      have t24_ : ac.tmps[55]?.getD undef = .agg #[.int .i64 64, .int .i64 64, .slice u24a u24n u24c, .int .i64 0] := slot_is' u24e
      obtain ⟨u25a, u25n, u25c, u25e, u25z⟩ := hp.get 25 (by decide +kernel) rfl
      have t25_ : ac.tmps[56]?.getD undef = .agg #[.int .i64 (-9223372036854775808), .int .i64 9223372036854775807, .slice u25a u25n u25c, .int .i64 1] := slot_is' u25e
      clear hp
      go_simp
      exact hK.out _ _ ⟨_, rfl, Tab4.new (by simp) (Rows4.cons (u0z.ext ((Ext.refl _).alloc _)) (Rows4.cons (u1z.ext ((Ext.refl _).alloc _)) (Rows4.cons (u2z.ext ((Ext.refl _).alloc _)) (Rows4.cons (u4z.ext ((Ext.refl _).alloc _)) (Rows4.cons (u5z.ext ((Ext.refl _).alloc _)) (Rows4.cons (u7z.ext ((Ext.refl _).alloc _)) (Rows4.cons (u9z.ext ((Ext.refl _).alloc _)) (Rows4.cons (u11z.ext ((Ext.refl _).alloc _)) (Rows4.cons (u13z.ext ((Ext.refl _).alloc _)) (Rows4.cons (u15z.ext ((Ext.refl _).alloc _)) (Rows4.cons (u17z.ext ((Ext.refl _).alloc _)) (Rows4.cons (u19z.ext ((Ext.refl _).alloc _)) (Rows4.cons (u21z.ext ((Ext.refl _).alloc _)) (Rows4.cons (u23z.ext ((Ext.refl _).alloc _)) (Rows4.cons (u24z.ext ((Ext.refl _).alloc _)) (Rows4.cons (u25z.ext ((Ext.refl _).alloc _)) (Rows4.nil _ _)))))))))))))))))⟩ ((Ext.refl _).alloc _) (fun h => absurd h (by simp))
    · refine RStep.op rfl rfl (fun ac wk hp K hK => ?_)
      obtain ⟨ug, ue, -⟩ := hp.get 26 (by decide +kernel) rfl
      have t_ : ac.tmps[57]?.getD undef = .slice (some ⟨ug, 0, none⟩) 16 16 := slot_is' ue
      clear hp
      go_simp
      exact hK.out _ _ rfl (Ext.refl _) (fun h => absurd h (by simp))
    · refine RStep.op rfl rfl (fun ac wk hp K hK => ?_)
      clear hp
      go_simp
      exact hK.out _ _ rfl (Ext.refl _) (fun h => absurd h (by simp))
  case he =>
    intro ac W3 hM
    obtain ⟨y0a, y0n, y0c, y0e, -⟩ := hM.post 0 rfl rfl
    obtain ⟨y1a, y1n, y1c, y1e, -⟩ := hM.post 1 rfl rfl
    obtain ⟨y2a, y2n, y2c, y2e, -⟩ := hM.post 2 rfl rfl
    obtain ⟨y3a, y3n, y3c, y3e, -⟩ := hM.post 3 rfl rfl
    obtain ⟨y4a, y4n, y4c, y4e, -⟩ := hM.post 4 rfl rfl
    obtain ⟨y5a, y5n, y5c, y5e, -⟩ := hM.post 5 rfl rfl
    obtain ⟨y6a, y6n, y6c, y6e, -⟩ := hM.post 6 rfl rfl
    obtain ⟨y7a, y7n, y7c, y7e, -⟩ := hM.post 7 rfl rfl
    obtain ⟨y8a, y8n, y8c, y8e, -⟩ := hM.post 8 rfl rfl
    obtain ⟨y9a, y9n, y9c, y9e, -⟩ := hM.post 9 rfl rfl
    obtain ⟨y10a, y10n, y10c, y10e, -⟩ := hM.post 10 rfl rfl
    obtain ⟨y11a, y11n, y11c, y11e, -⟩ := hM.post 11 rfl rfl
    obtain ⟨y12a, y12n, y12c, y12e, -⟩ := hM.post 12 rfl rfl
    obtain ⟨y13a, y13n, y13c, y13e, -⟩ := hM.post 13 rfl rfl
    obtain ⟨y14a, y14n, y14c, y14e, -⟩ := hM.post 14 rfl rfl
    obtain ⟨y15a, y15n, y15c, y15e, -⟩ := hM.post 15 rfl rfl
    obtain ⟨y16a, y16n, y16c, y16e, -⟩ := hM.post 16 rfl rfl
    obtain ⟨y17a, y17n, y17c, y17e, -⟩ := hM.post 17 rfl rfl
    obtain ⟨y18a, y18n, y18c, y18e, -⟩ := hM.post 18 rfl rfl
    obtain ⟨y19a, y19n, y19c, y19e, -⟩ := hM.post 19 rfl rfl
    obtain ⟨y20a, y20n, y20c, y20e, -⟩ := hM.post 20 rfl rfl
    obtain ⟨y21a, y21n, y21c, y21e, -⟩ := hM.post 21 rfl rfl
    obtain ⟨y22a, y22n, y22c, y22e, -⟩ := hM.post 22 rfl rfl
    obtain ⟨y23a, y23n, y23c, y23e, -⟩ := hM.post 23 rfl rfl
    obtain ⟨y24a, y24n, y24c, y24e, -⟩ := hM.post 24 rfl rfl
    obtain ⟨y25a, y25n, y25c, y25e, -⟩ := hM.post 25 rfl rfl
    obtain ⟨tg, y26e, htab⟩ := hM.post 26 rfl rfl
    have y27e := hM.post 27 rfl rfl
    have y28e := hM.post 28 rfl rfl
    have TB := Lib.hid htab
    have EX : Hid (Ext w W3) := Ext.below x1 hM.blw
    have z0_ : sl ac 31 = .agg #[.int .i64 (-1), .int .i64 0, .slice y0a y0n y0c, .int .i64 1] := y0e
    have z1_ : sl ac 32 = .agg #[.int .i64 0, .int .i64 (-1), .slice y1a y1n y1c, .int .i64 1] := y1e
    have z2_ : sl ac 33 = .agg #[.int .i64 1, .int .i64 0, .slice y2a y2n y2c, .int .i64 1] := y2e
    have z3_ : sl ac 34 = .slice y3a y3n y3c := y3e
    have z4_ : sl ac 35 = .agg #[.int .i64 0, .int .i64 65, .slice y4a y4n y4c, .int .i64 1] := y4e
    have z5_ : sl ac 36 = .agg #[.int .i64 0, .int .i64 0, .slice y5a y5n y5c, .int .i64 0] := y5e
    have z6_ : sl ac 37 = .slice y6a y6n y6c := y6e
    have z7_ : sl ac 38 = .agg #[.int .i64 0, .int .i64 0, .slice y7a y7n y7c, .int .i64 5] := y7e
    have z8_ : sl ac 39 = .slice y8a y8n y8c := y8e
    have z9_ : sl ac 40 = .agg #[.int .i64 2, .int .i64 4, .slice y9a y9n y9c, .int .i64 4] := y9e
    have z10_ : sl ac 41 = .slice y10a y10n y10c := y10e
    have z11_ : sl ac 42 = .agg #[.int .i64 2, .int .i64 4, .slice y11a y11n y11c, .int .i64 5] := y11e
    have z12_ : sl ac 43 = .slice y12a y12n y12c := y12e
    have z13_ : sl ac 44 = .agg #[.int .i64 2, .int .i64 4, .slice y13a y13n y13c, .int .i64 1] := y13e
    have z14_ : sl ac 45 = .slice y14a y14n y14c := y14e
    have z15_ : sl ac 46 = .agg #[.int .i64 2, .int .i64 4, .slice y15a y15n y15c, .int .i64 1] := y15e
    have z16_ : sl ac 47 = .slice y16a y16n y16c := y16e
    have z17_ : sl ac 48 = .agg #[.int .i64 2, .int .i64 4, .slice y17a y17n y17c, .int .i64 0] := y17e
    have z18_ : sl ac 49 = .slice y18a y18n y18c := y18e
    have z19_ : sl ac 50 = .agg #[.int .i64 2, .int .i64 4, .slice y19a y19n y19c, .int .i64 1] := y19e
    have z20_ : sl ac 51 = .slice y20a y20n y20c := y20e
    have z21_ : sl ac 52 = .agg #[.int .i64 0, .int .i64 2, .slice y21a y21n y21c, .int .i64 0] := y21e
    have z22_ : sl ac 53 = .slice y22a y22n y22c := y22e
    have z23_ : sl ac 54 = .agg #[.int .i64 0, .int .i64 64, .slice y23a y23n y23c, .int .i64 0] := y23e
    have z24_ : sl ac 55 = .agg #[.int .i64 64, .int .i64 64, .slice y24a y24n y24c, .int .i64 0] := y24e
    have z25_ : sl ac 56 = .agg #[.int .i64 (-9223372036854775808), .int .i64 9223372036854775807, .slice y25a y25n y25c, .int .i64 1] := y25e
    have z26_ : sl ac 57 = .slice (some ⟨tg, 0, none⟩) 16 16 := y26e
    have z27_ : sl ac 58 = .int .i64 16 := y27e
    have z28_ : sl ac 59 = .int .i64 0 := y28e
    rw [hM.ag.lay]
    simp only [lay, List.foldl_cons, List.foldl_nil, List.setIfInBounds_toArray, List.set_cons_zero, List.set_cons_succ, z0_, z1_, z2_, z3_, z4_, z5_, z6_, z7_, z8_, z9_, z10_, z11_, z12_, z13_, z14_, z15_, z16_, z17_, z18_, z19_, z20_, z21_, z22_, z23_, z24_, z25_, z26_, z27_, z28_]
    clear hM htab z0_ z1_ z2_ z3_ z4_ z5_ z6_ z7_ z8_ z9_ z10_ z11_ z12_ z13_ z14_ z15_ z16_ z17_ z18_ z19_ z20_ z21_ z22_ z23_ z24_ z25_ z26_ z27_ z28_ y0e y1e y2e y3e y4e y5e y6e y7e y8e y9e y10e y11e y12e y13e y14e y15e y16e y17e y18e y19e y20e y21e y22e y23e y24e y25e y26e y27e y28e
    go_wp2_with fail
    go_loopw [59] (fun v59 wr => ∃ i : Nat, v59 = .int .i64 (i : Int) ∧ i ≤ 16 ∧ Ext W3 wr) (fun v59 _ => 16 - (intOf v59).toNat)
    case atStart => exact ⟨0, rfl, Nat.zero_le _, Ext.refl _⟩
    case round =>
      rename World => wr
      obtain ⟨i, rfl, hi, hx⟩ := hrel
      have XX := Lib.hid hx
      clear hx
      by_cases hi16 : i < 16
      · have LT := Lib.hid hi16
        obtain ⟨k, n, J, c, h1, h2⟩ := tabP_get i hi16
        obtain ⟨ja, jn, jc, k1, k2, k3, k4, k5⟩ := (TB.out.ext XX.out).cell h1
        have HJ : Hid (Ints wr (.slice ja jn jc) J) := k5.ints
        have hi15 : (i : Int) ≤ 15 := by omega
        have hcc : ((c : Int) != (c : Int)) = false := by simp
        obtain ⟨b, hb⟩ : ∃ b, decide (mayP k n) = b := ⟨_, rfl⟩
        have HB := Lib.hid hb
        clear h1 k5 hi hi16
        by_cases hc0 : c = 0
        · subst hc0
          obtain ⟨R, hR⟩ : ∃ R, plR k n J = R := ⟨_, rfl⟩
          have hl := plR_len h2
          rw [hR] at hl
          have HR := Lib.hid hR
          obtain ⟨l, hl2⟩ : ∃ l : Nat, R.length = l := ⟨_, rfl⟩
          rw [hl2] at hl
          have HL := Lib.hid hl2
          have hlk : ((l : Int) != k) = false := by rw [hl]; simp
          have HE : Hid (((errPool k n J : Nat) : Int) = 0) := by show _ = _; rw [h2]; rfl
          obtain rfl : b = true := by rw [← hb]; exact decide_eq_true (errPool_ok h2).1
          have k4 : wr.cell? ⟨tg, i * 4 + 3, none⟩ = some (.int .i64 0) := k4
          clear hb h2 hl hR hl2
          go_wp2_with fail
          obtain ⟨v1, hv1⟩ : ∃ W, W = (wr.alloc (.cells #[.int .i64 k, .int .i64 n, .slice ja jn jc, .int .i64 0] 25)) := ⟨_, rfl⟩
          have y1 : Ext wr v1 := by rw [hv1]; exact ((Ext.refl _).alloc _)
          have b20_0 : Hid (At (wr.heap.size) 0 (.int .i64 k) v1) := by rw [hv1]; exact At.ext (At.n0 (by rfl)) (Ext.refl _)
          have b20_1 : Hid (At (wr.heap.size) 1 (.int .i64 n) v1) := by rw [hv1]; exact At.ext (At.n0 (by rfl)) (Ext.refl _)
          have b20_2 : Hid (At (wr.heap.size) 2 (.slice ja jn jc) v1) := by rw [hv1]; exact At.ext (At.n0 (by rfl)) (Ext.refl _)
          have b20_3 : Hid (At (wr.heap.size) 3 (.int .i64 0) v1) := by rw [hv1]; exact At.ext (At.n0 (by rfl)) (Ext.refl _)
          have u20 : Hid (wr.heap.size < v1.heap.size) := b20_0.out.2
          have e1_ : Ext W3 v1 := Ext.trans XX.out y1
          rw [← hv1]
          clear hv1
          refine (plrow_c (HJ.out.ext y1) k n 0 HE.out R HR.out).mono ?_
          rintro e w2 ⟨zr51, rfl, zo51, x2⟩
          have e2_ : Ext W3 w2 := Ext.trans e1_ x2
          obtain ⟨zp51, zc51, rfl⟩ := zo51.slice13
          rw [HL.out]
          have g20_0 := (b20_0.out.ext x2).1
          have g20_1 := (b20_1.out.ext x2).1
          have f20 : wr.heap.size < w2.heap.size := (b20_0.out.ext x2).2
          go_wp2_with fail
          refine (choose_c _ k n true HB.out 0 rfl).mono ?_
          rintro e w3 ⟨hp52, hn52, hc52, rfl, x3⟩
          have e3_ : Ext W3 w3 := Ext.trans e2_ x3
          clear g20_0 g20_1 f20
          have g20_0 := (b20_0.out.ext (x2.trans x3)).1
          have g20_1 := (b20_1.out.ext (x2.trans x3)).1
          have f20 : wr.heap.size < w3.heap.size := (b20_0.out.ext (x2.trans x3)).2
          go_wp2_with fail
          refine (plcost_c _ k n true HB.out 0 rfl).mono ?_
          rintro e w4 ⟨qb53, qp53, qn53, qc53, rp53, rn53, rc53, rfl, x4⟩
          have e4_ : Ext W3 w4 := Ext.trans e3_ x4
          clear g20_0 g20_1 f20
          have g20_3 := (b20_3.out.ext (x2.trans (x3.trans x4))).1
          have g20_0 := (b20_0.out.ext (x2.trans (x3.trans x4))).1
          have g20_1 := (b20_1.out.ext (x2.trans (x3.trans x4))).1
          have f20 : wr.heap.size < w4.heap.size := (b20_0.out.ext (x2.trans (x3.trans x4))).2
          have ff20 : wr.heap.size < w4.heap.size + 1 := by omega
          go_wp2_with fail
          obtain ⟨v5, hv5⟩ : ∃ W, W = (w4.alloc (.cells #[.bool qb53, .slice qp53 qn53 qc53, .slice rp53 rn53 rc53] 36)) := ⟨_, rfl⟩
          have y5 : Ext w4 v5 := by rw [hv5]; exact ((Ext.refl _).alloc _)
          have b21_0 : Hid (At (w4.heap.size) 0 (.bool qb53) v5) := by rw [hv5]; exact At.ext (At.n0 (by rfl)) (Ext.refl _)
          have b21_1 : Hid (At (w4.heap.size) 1 (.slice qp53 qn53 qc53) v5) := by rw [hv5]; exact At.ext (At.n0 (by rfl)) (Ext.refl _)
          have b21_2 : Hid (At (w4.heap.size) 2 (.slice rp53 rn53 rc53) v5) := by rw [hv5]; exact At.ext (At.n0 (by rfl)) (Ext.refl _)
          have k21 : Hid (Bx 3 (w4.heap.size) v5) := by rw [hv5]; exact Bx.gr (Bx.n0 3 ⟨rfl, by decide⟩ (by decide) noI_s3) (Ext.gr (Ext.refl _))
          have u21 : Hid (w4.heap.size < v5.heap.size) := b21_0.out.2
          have e5_ : Ext W3 v5 := Ext.trans e4_ y5
          rw [← hv5]
          clear hv5
          refine (rmay13_calls _ k n true HB.out).mono ?_
          rintro e w6 ⟨rfl, x6⟩
          have e6_ : Ext W3 w6 := Ext.trans e5_ x6
          clear g20_3 g20_0 g20_1 f20 ff20
          go_wp2_with fail
          exact ⟨⟨i + 1, by first | rfl | go_num, LT.out, e6_⟩, by simp [intOf]; have := LT.out; omega⟩
        · have HR : Hid (plR k n J = []) := plR_no (by omega)
          have HE : Hid (((errPool k n J : Nat) : Int) = (c : Int)) := by show _ = _; rw [h2]
          have hc1 : ((c : Int) != 0) = true := by rw [bne_iff_ne]; omega
          have hc2 : ((c : Int) == 0) = false := by rw [beq_eq_false_iff_ne]; omega
          clear h2 hb hc0
          cases b with
          | true =>
            go_wp2_with fail
            obtain ⟨v1, hv1⟩ : ∃ W, W = (wr.alloc (.cells #[.int .i64 k, .int .i64 n, .slice ja jn jc, .int .i64 (c : Int)] 25)) := ⟨_, rfl⟩
            have y1 : Ext wr v1 := by rw [hv1]; exact ((Ext.refl _).alloc _)
            have b20_0 : Hid (At (wr.heap.size) 0 (.int .i64 k) v1) := by rw [hv1]; exact At.ext (At.n0 (by rfl)) (Ext.refl _)
            have b20_1 : Hid (At (wr.heap.size) 1 (.int .i64 n) v1) := by rw [hv1]; exact At.ext (At.n0 (by rfl)) (Ext.refl _)
            have b20_2 : Hid (At (wr.heap.size) 2 (.slice ja jn jc) v1) := by rw [hv1]; exact At.ext (At.n0 (by rfl)) (Ext.refl _)
            have b20_3 : Hid (At (wr.heap.size) 3 (.int .i64 (c : Int)) v1) := by rw [hv1]; exact At.ext (At.n0 (by rfl)) (Ext.refl _)
            have u20 : Hid (wr.heap.size < v1.heap.size) := b20_0.out.2
            have e1_ : Ext W3 v1 := Ext.trans XX.out y1
            rw [← hv1]
            clear hv1
            refine (plrow_c (HJ.out.ext y1) k n (c : Int) HE.out ([] : List Int) HR.out).mono ?_
            rintro e w2 ⟨zr51, rfl, zo51, x2⟩
            have e2_ : Ext W3 w2 := Ext.trans e1_ x2
            obtain ⟨zp51, zc51, rfl⟩ := zo51.slice13
            simp only [List.length_nil]
            have g20_0 := (b20_0.out.ext x2).1
            have g20_1 := (b20_1.out.ext x2).1
            have f20 : wr.heap.size < w2.heap.size := (b20_0.out.ext x2).2
            go_wp2_with fail
            refine (choose_c _ k n true HB.out 0 rfl).mono ?_
            rintro e w3 ⟨hp52, hn52, hc52, rfl, x3⟩
            have e3_ : Ext W3 w3 := Ext.trans e2_ x3
            clear g20_0 g20_1 f20
            have g20_0 := (b20_0.out.ext (x2.trans x3)).1
            have g20_1 := (b20_1.out.ext (x2.trans x3)).1
            have f20 : wr.heap.size < w3.heap.size := (b20_0.out.ext (x2.trans x3)).2
            go_wp2_with fail
            refine (plcost_c _ k n true HB.out 0 rfl).mono ?_
            rintro e w4 ⟨qb53, qp53, qn53, qc53, rp53, rn53, rc53, rfl, x4⟩
            have e4_ : Ext W3 w4 := Ext.trans e3_ x4
            clear g20_0 g20_1 f20
            have g20_3 := (b20_3.out.ext (x2.trans (x3.trans x4))).1
            have g20_0 := (b20_0.out.ext (x2.trans (x3.trans x4))).1
            have g20_1 := (b20_1.out.ext (x2.trans (x3.trans x4))).1
            have f20 : wr.heap.size < w4.heap.size := (b20_0.out.ext (x2.trans (x3.trans x4))).2
            have ff20 : wr.heap.size < w4.heap.size + 1 := by omega
            go_wp2_with fail
            obtain ⟨v5, hv5⟩ : ∃ W, W = (w4.alloc (.cells #[.bool qb53, .slice qp53 qn53 qc53, .slice rp53 rn53 rc53] 36)) := ⟨_, rfl⟩
            have y5 : Ext w4 v5 := by rw [hv5]; exact ((Ext.refl _).alloc _)
            have b21_0 : Hid (At (w4.heap.size) 0 (.bool qb53) v5) := by rw [hv5]; exact At.ext (At.n0 (by rfl)) (Ext.refl _)
            have b21_1 : Hid (At (w4.heap.size) 1 (.slice qp53 qn53 qc53) v5) := by rw [hv5]; exact At.ext (At.n0 (by rfl)) (Ext.refl _)
            have b21_2 : Hid (At (w4.heap.size) 2 (.slice rp53 rn53 rc53) v5) := by rw [hv5]; exact At.ext (At.n0 (by rfl)) (Ext.refl _)
            have k21 : Hid (Bx 3 (w4.heap.size) v5) := by rw [hv5]; exact Bx.gr (Bx.n0 3 ⟨rfl, by decide⟩ (by decide) noI_s3) (Ext.gr (Ext.refl _))
            have u21 : Hid (w4.heap.size < v5.heap.size) := b21_0.out.2
            have e5_ : Ext W3 v5 := Ext.trans e4_ y5
            rw [← hv5]
            clear hv5
            refine (rmay13_calls _ k n true HB.out).mono ?_
            rintro e w6 ⟨rfl, x6⟩
            have e6_ : Ext W3 w6 := Ext.trans e5_ x6
            clear g20_3 g20_0 g20_1 f20 ff20
            go_wp2_with fail
            exact ⟨⟨i + 1, by first | rfl | go_num, LT.out, e6_⟩, by simp [intOf]; have := LT.out; omega⟩
          | false =>
            go_wp2_with fail
            obtain ⟨v1, hv1⟩ : ∃ W, W = (wr.alloc (.cells #[.int .i64 k, .int .i64 n, .slice ja jn jc, .int .i64 (c : Int)] 25)) := ⟨_, rfl⟩
            have y1 : Ext wr v1 := by rw [hv1]; exact ((Ext.refl _).alloc _)
            have b20_0 : Hid (At (wr.heap.size) 0 (.int .i64 k) v1) := by rw [hv1]; exact At.ext (At.n0 (by rfl)) (Ext.refl _)
            have b20_1 : Hid (At (wr.heap.size) 1 (.int .i64 n) v1) := by rw [hv1]; exact At.ext (At.n0 (by rfl)) (Ext.refl _)
            have b20_2 : Hid (At (wr.heap.size) 2 (.slice ja jn jc) v1) := by rw [hv1]; exact At.ext (At.n0 (by rfl)) (Ext.refl _)
            have b20_3 : Hid (At (wr.heap.size) 3 (.int .i64 (c : Int)) v1) := by rw [hv1]; exact At.ext (At.n0 (by rfl)) (Ext.refl _)
            have u20 : Hid (wr.heap.size < v1.heap.size) := b20_0.out.2
            have e1_ : Ext W3 v1 := Ext.trans XX.out y1
            rw [← hv1]
            clear hv1
            refine (plrow_c (HJ.out.ext y1) k n (c : Int) HE.out ([] : List Int) HR.out).mono ?_
            rintro e w2 ⟨zr51, rfl, zo51, x2⟩
            have e2_ : Ext W3 w2 := Ext.trans e1_ x2
            obtain ⟨zp51, zc51, rfl⟩ := zo51.slice13
            simp only [List.length_nil]
            have g20_0 := (b20_0.out.ext x2).1
            have g20_1 := (b20_1.out.ext x2).1
            have f20 : wr.heap.size < w2.heap.size := (b20_0.out.ext x2).2
            go_wp2_with fail
            refine (choose_c _ k n false HB.out 1 rfl).mono ?_
            rintro e w3 ⟨hp52, hn52, hc52, rfl, x3⟩
            have e3_ : Ext W3 w3 := Ext.trans e2_ x3
            clear g20_0 g20_1 f20
            have g20_0 := (b20_0.out.ext (x2.trans x3)).1
            have g20_1 := (b20_1.out.ext (x2.trans x3)).1
            have f20 : wr.heap.size < w3.heap.size := (b20_0.out.ext (x2.trans x3)).2
            go_wp2_with fail
            refine (plcost_c _ k n false HB.out 1 rfl).mono ?_
            rintro e w4 ⟨qb53, qp53, qn53, qc53, rp53, rn53, rc53, rfl, x4⟩
            have e4_ : Ext W3 w4 := Ext.trans e3_ x4
            clear g20_0 g20_1 f20
            have g20_3 := (b20_3.out.ext (x2.trans (x3.trans x4))).1
            have g20_0 := (b20_0.out.ext (x2.trans (x3.trans x4))).1
            have g20_1 := (b20_1.out.ext (x2.trans (x3.trans x4))).1
            have f20 : wr.heap.size < w4.heap.size := (b20_0.out.ext (x2.trans (x3.trans x4))).2
            have ff20 : wr.heap.size < w4.heap.size + 1 := by omega
            go_wp2_with fail
            obtain ⟨v5, hv5⟩ : ∃ W, W = (w4.alloc (.cells #[.bool qb53, .slice qp53 qn53 qc53, .slice rp53 rn53 rc53] 36)) := ⟨_, rfl⟩
            have y5 : Ext w4 v5 := by rw [hv5]; exact ((Ext.refl _).alloc _)
            have b21_0 : Hid (At (w4.heap.size) 0 (.bool qb53) v5) := by rw [hv5]; exact At.ext (At.n0 (by rfl)) (Ext.refl _)
            have b21_1 : Hid (At (w4.heap.size) 1 (.slice qp53 qn53 qc53) v5) := by rw [hv5]; exact At.ext (At.n0 (by rfl)) (Ext.refl _)
            have b21_2 : Hid (At (w4.heap.size) 2 (.slice rp53 rn53 rc53) v5) := by rw [hv5]; exact At.ext (At.n0 (by rfl)) (Ext.refl _)
            have k21 : Hid (Bx 3 (w4.heap.size) v5) := by rw [hv5]; exact Bx.gr (Bx.n0 3 ⟨rfl, by decide⟩ (by decide) noI_s3) (Ext.gr (Ext.refl _))
            have u21 : Hid (w4.heap.size < v5.heap.size) := b21_0.out.2
            have e5_ : Ext W3 v5 := Ext.trans e4_ y5
            rw [← hv5]
            clear hv5
            refine (rmay13_calls _ k n false HB.out).mono ?_
            rintro e w6 ⟨rfl, x6⟩
            have e6_ : Ext W3 w6 := Ext.trans e5_ x6
            clear g20_3 g20_0 g20_1 f20 ff20
            go_wp2_with fail
            exact ⟨⟨i + 1, by first | rfl | go_num, LT.out, e6_⟩, by simp [intOf]; have := LT.out; omega⟩
      · have i16 : (16 : Int) ≤ (i : Int) := by omega
        have X9 := Lib.hid (EX.out.trans XX.out)
        clear hi hi16 TB EX XX
        go_wp2_with fail
        have Z0 : Hid (Ints (((((((((((((wr.alloc (.cells #[.int .i64 0, .int .i64 3] 3)).alloc (.cells #[.int .i64 1, .int .i64 2] 3)).alloc (.cells #[.int .i64 2, .int .i64 0] 3)).alloc (.cells #[.int .i64 1, .int .i64 3] 3)).alloc (.cells #[.int .i64 0, .int .i64 0] 3)).alloc (.cells #[.int .i64 1, .int .i64 3] 3)).alloc (.cells #[.int .i64 1, .int .i64 1] 3)).alloc (.cells #[.int .i64 0, .int .i64 3] 3)).alloc (.cells #[.int .i64 2, .int .i64 3] 3)).alloc (.cells #[.int .i64 0, .int .i64 1] 3)).alloc (.cells #[.int .i64 1, .int .i64 0] 3)).alloc (.cells #[.int .i64 2, .int .i64 3] 3)).alloc (.cells #[.slice (some ⟨wr.heap.size, 0, none⟩) 2 2, .slice (some ⟨wr.heap.size + 1, 0, none⟩) 2 2, .slice (some ⟨wr.heap.size + 1 + 1, 0, none⟩) 2 2, .slice (some ⟨wr.heap.size + 1 + 1 + 1, 0, none⟩) 2 2, .slice (some ⟨wr.heap.size + 1 + 1 + 1 + 1, 0, none⟩) 2 2, .slice (some ⟨wr.heap.size + 1 + 1 + 1 + 1 + 1, 0, none⟩) 2 2, .slice (some ⟨wr.heap.size + 1 + 1 + 1 + 1 + 1 + 1, 0, none⟩) 2 2, .slice (some ⟨wr.heap.size + 1 + 1 + 1 + 1 + 1 + 1 + 1, 0, none⟩) 2 2, .slice (some ⟨wr.heap.size + 1 + 1 + 1 + 1 + 1 + 1 + 1 + 1, 0, none⟩) 2 2, .slice (some ⟨wr.heap.size + 1 + 1 + 1 + 1 + 1 + 1 + 1 + 1 + 1, 0, none⟩) 2 2, .slice (some ⟨wr.heap.size + 1 + 1 + 1 + 1 + 1 + 1 + 1 + 1 + 1 + 1, 0, none⟩) 2 2, .slice (some ⟨wr.heap.size + 1 + 1 + 1 + 1 + 1 + 1 + 1 + 1 + 1 + 1 + 1, 0, none⟩) 2 2] 40)) (.slice (some ⟨wr.heap.size, 0, none⟩) 2 2) [(0 : Int), (3 : Int)]) := (litz_at3 (w := wr) [(0 : Int), (3 : Int)] _ rfl 2 rfl (by decide) (wr.heap.size) (by simp)).ext (((((((((((((Ext.refl _).alloc _).alloc _).alloc _).alloc _).alloc _).alloc _).alloc _).alloc _).alloc _).alloc _).alloc _).alloc _)
        have Z1 : Hid (Ints (((((((((((((wr.alloc (.cells #[.int .i64 0, .int .i64 3] 3)).alloc (.cells #[.int .i64 1, .int .i64 2] 3)).alloc (.cells #[.int .i64 2, .int .i64 0] 3)).alloc (.cells #[.int .i64 1, .int .i64 3] 3)).alloc (.cells #[.int .i64 0, .int .i64 0] 3)).alloc (.cells #[.int .i64 1, .int .i64 3] 3)).alloc (.cells #[.int .i64 1, .int .i64 1] 3)).alloc (.cells #[.int .i64 0, .int .i64 3] 3)).alloc (.cells #[.int .i64 2, .int .i64 3] 3)).alloc (.cells #[.int .i64 0, .int .i64 1] 3)).alloc (.cells #[.int .i64 1, .int .i64 0] 3)).alloc (.cells #[.int .i64 2, .int .i64 3] 3)).alloc (.cells #[.slice (some ⟨wr.heap.size, 0, none⟩) 2 2, .slice (some ⟨wr.heap.size + 1, 0, none⟩) 2 2, .slice (some ⟨wr.heap.size + 1 + 1, 0, none⟩) 2 2, .slice (some ⟨wr.heap.size + 1 + 1 + 1, 0, none⟩) 2 2, .slice (some ⟨wr.heap.size + 1 + 1 + 1 + 1, 0, none⟩) 2 2, .slice (some ⟨wr.heap.size + 1 + 1 + 1 + 1 + 1, 0, none⟩) 2 2, .slice (some ⟨wr.heap.size + 1 + 1 + 1 + 1 + 1 + 1, 0, none⟩) 2 2, .slice (some ⟨wr.heap.size + 1 + 1 + 1 + 1 + 1 + 1 + 1, 0, none⟩) 2 2, .slice (some ⟨wr.heap.size + 1 + 1 + 1 + 1 + 1 + 1 + 1 + 1, 0, none⟩) 2 2, .slice (some ⟨wr.heap.size + 1 + 1 + 1 + 1 + 1 + 1 + 1 + 1 + 1, 0, none⟩) 2 2, .slice (some ⟨wr.heap.size + 1 + 1 + 1 + 1 + 1 + 1 + 1 + 1 + 1 + 1, 0, none⟩) 2 2, .slice (some ⟨wr.heap.size + 1 + 1 + 1 + 1 + 1 + 1 + 1 + 1 + 1 + 1 + 1, 0, none⟩) 2 2] 40)) (.slice (some ⟨wr.heap.size + 1, 0, none⟩) 2 2) [(1 : Int), (2 : Int)]) := (litz_at3 (w := (wr.alloc (.cells #[.int .i64 0, .int .i64 3] 3))) [(1 : Int), (2 : Int)] _ rfl 2 rfl (by decide) (wr.heap.size + 1) (by simp)).ext ((((((((((((Ext.refl _).alloc _).alloc _).alloc _).alloc _).alloc _).alloc _).alloc _).alloc _).alloc _).alloc _).alloc _)
        have Z2 : Hid (Ints (((((((((((((wr.alloc (.cells #[.int .i64 0, .int .i64 3] 3)).alloc (.cells #[.int .i64 1, .int .i64 2] 3)).alloc (.cells #[.int .i64 2, .int .i64 0] 3)).alloc (.cells #[.int .i64 1, .int .i64 3] 3)).alloc (.cells #[.int .i64 0, .int .i64 0] 3)).alloc (.cells #[.int .i64 1, .int .i64 3] 3)).alloc (.cells #[.int .i64 1, .int .i64 1] 3)).alloc (.cells #[.int .i64 0, .int .i64 3] 3)).alloc (.cells #[.int .i64 2, .int .i64 3] 3)).alloc (.cells #[.int .i64 0, .int .i64 1] 3)).alloc (.cells #[.int .i64 1, .int .i64 0] 3)).alloc (.cells #[.int .i64 2, .int .i64 3] 3)).alloc (.cells #[.slice (some ⟨wr.heap.size, 0, none⟩) 2 2, .slice (some ⟨wr.heap.size + 1, 0, none⟩) 2 2, .slice (some ⟨wr.heap.size + 1 + 1, 0, none⟩) 2 2, .slice (some ⟨wr.heap.size + 1 + 1 + 1, 0, none⟩) 2 2, .slice (some ⟨wr.heap.size + 1 + 1 + 1 + 1, 0, none⟩) 2 2, .slice (some ⟨wr.heap.size + 1 + 1 + 1 + 1 + 1, 0, none⟩) 2 2, .slice (some ⟨wr.heap.size + 1 + 1 + 1 + 1 + 1 + 1, 0, none⟩) 2 2, .slice (some ⟨wr.heap.size + 1 + 1 + 1 + 1 + 1 + 1 + 1, 0, none⟩) 2 2, .slice (some ⟨wr.heap.size + 1 + 1 + 1 + 1 + 1 + 1 + 1 + 1, 0, none⟩) 2 2, .slice (some ⟨wr.heap.size + 1 + 1 + 1 + 1 + 1 + 1 + 1 + 1 + 1, 0, none⟩) 2 2, .slice (some ⟨wr.heap.size + 1 + 1 + 1 + 1 + 1 + 1 + 1 + 1 + 1 + 1, 0, none⟩) 2 2, .slice (some ⟨wr.heap.size + 1 + 1 + 1 + 1 + 1 + 1 + 1 + 1 + 1 + 1 + 1, 0, none⟩) 2 2] 40)) (.slice (some ⟨wr.heap.size + 1 + 1, 0, none⟩) 2 2) [(2 : Int), (0 : Int)]) := (litz_at3 (w := ((wr.alloc (.cells #[.int .i64 0, .int .i64 3] 3)).alloc (.cells #[.int .i64 1, .int .i64 2] 3))) [(2 : Int), (0 : Int)] _ rfl 2 rfl (by decide) (wr.heap.size + 1 + 1) (by simp)).ext (((((((((((Ext.refl _).alloc _).alloc _).alloc _).alloc _).alloc _).alloc _).alloc _).alloc _).alloc _).alloc _)
        have Z3 : Hid (Ints (((((((((((((wr.alloc (.cells #[.int .i64 0, .int .i64 3] 3)).alloc (.cells #[.int .i64 1, .int .i64 2] 3)).alloc (.cells #[.int .i64 2, .int .i64 0] 3)).alloc (.cells #[.int .i64 1, .int .i64 3] 3)).alloc (.cells #[.int .i64 0, .int .i64 0] 3)).alloc (.cells #[.int .i64 1, .int .i64 3] 3)).alloc (.cells #[.int .i64 1, .int .i64 1] 3)).alloc (.cells #[.int .i64 0, .int .i64 3] 3)).alloc (.cells #[.int .i64 2, .int .i64 3] 3)).alloc (.cells #[.int .i64 0, .int .i64 1] 3)).alloc (.cells #[.int .i64 1, .int .i64 0] 3)).alloc (.cells #[.int .i64 2, .int .i64 3] 3)).alloc (.cells #[.slice (some ⟨wr.heap.size, 0, none⟩) 2 2, .slice (some ⟨wr.heap.size + 1, 0, none⟩) 2 2, .slice (some ⟨wr.heap.size + 1 + 1, 0, none⟩) 2 2, .slice (some ⟨wr.heap.size + 1 + 1 + 1, 0, none⟩) 2 2, .slice (some ⟨wr.heap.size + 1 + 1 + 1 + 1, 0, none⟩) 2 2, .slice (some ⟨wr.heap.size + 1 + 1 + 1 + 1 + 1, 0, none⟩) 2 2, .slice (some ⟨wr.heap.size + 1 + 1 + 1 + 1 + 1 + 1, 0, none⟩) 2 2, .slice (some ⟨wr.heap.size + 1 + 1 + 1 + 1 + 1 + 1 + 1, 0, none⟩) 2 2, .slice (some ⟨wr.heap.size + 1 + 1 + 1 + 1 + 1 + 1 + 1 + 1, 0, none⟩) 2 2, .slice (some ⟨wr.heap.size + 1 + 1 + 1 + 1 + 1 + 1 + 1 + 1 + 1, 0, none⟩) 2 2, .slice (some ⟨wr.heap.size + 1 + 1 + 1 + 1 + 1 + 1 + 1 + 1 + 1 + 1, 0, none⟩) 2 2, .slice (some ⟨wr.heap.size + 1 + 1 + 1 + 1 + 1 + 1 + 1 + 1 + 1 + 1 + 1, 0, none⟩) 2 2] 40)) (.slice (some ⟨wr.heap.size + 1 + 1 + 1, 0, none⟩) 2 2) [(1 : Int), (3 : Int)]) := (litz_at3 (w := (((wr.alloc (.cells #[.int .i64 0, .int .i64 3] 3)).alloc (.cells #[.int .i64 1, .int .i64 2] 3)).alloc (.cells #[.int .i64 2, .int .i64 0] 3))) [(1 : Int), (3 : Int)] _ rfl 2 rfl (by decide) (wr.heap.size + 1 + 1 + 1) (by simp)).ext ((((((((((Ext.refl _).alloc _).alloc _).alloc _).alloc _).alloc _).alloc _).alloc _).alloc _).alloc _)
        have Z4 : Hid (Ints (((((((((((((wr.alloc (.cells #[.int .i64 0, .int .i64 3] 3)).alloc (.cells #[.int .i64 1, .int .i64 2] 3)).alloc (.cells #[.int .i64 2, .int .i64 0] 3)).alloc (.cells #[.int .i64 1, .int .i64 3] 3)).alloc (.cells #[.int .i64 0, .int .i64 0] 3)).alloc (.cells #[.int .i64 1, .int .i64 3] 3)).alloc (.cells #[.int .i64 1, .int .i64 1] 3)).alloc (.cells #[.int .i64 0, .int .i64 3] 3)).alloc (.cells #[.int .i64 2, .int .i64 3] 3)).alloc (.cells #[.int .i64 0, .int .i64 1] 3)).alloc (.cells #[.int .i64 1, .int .i64 0] 3)).alloc (.cells #[.int .i64 2, .int .i64 3] 3)).alloc (.cells #[.slice (some ⟨wr.heap.size, 0, none⟩) 2 2, .slice (some ⟨wr.heap.size + 1, 0, none⟩) 2 2, .slice (some ⟨wr.heap.size + 1 + 1, 0, none⟩) 2 2, .slice (some ⟨wr.heap.size + 1 + 1 + 1, 0, none⟩) 2 2, .slice (some ⟨wr.heap.size + 1 + 1 + 1 + 1, 0, none⟩) 2 2, .slice (some ⟨wr.heap.size + 1 + 1 + 1 + 1 + 1, 0, none⟩) 2 2, .slice (some ⟨wr.heap.size + 1 + 1 + 1 + 1 + 1 + 1, 0, none⟩) 2 2, .slice (some ⟨wr.heap.size + 1 + 1 + 1 + 1 + 1 + 1 + 1, 0, none⟩) 2 2, .slice (some ⟨wr.heap.size + 1 + 1 + 1 + 1 + 1 + 1 + 1 + 1, 0, none⟩) 2 2, .slice (some ⟨wr.heap.size + 1 + 1 + 1 + 1 + 1 + 1 + 1 + 1 + 1, 0, none⟩) 2 2, .slice (some ⟨wr.heap.size + 1 + 1 + 1 + 1 + 1 + 1 + 1 + 1 + 1 + 1, 0, none⟩) 2 2, .slice (some ⟨wr.heap.size + 1 + 1 + 1 + 1 + 1 + 1 + 1 + 1 + 1 + 1 + 1, 0, none⟩) 2 2] 40)) (.slice (some ⟨wr.heap.size + 1 + 1 + 1 + 1, 0, none⟩) 2 2) [(0 : Int), (0 : Int)]) := (litz_at3 (w := ((((wr.alloc (.cells #[.int .i64 0, .int .i64 3] 3)).alloc (.cells #[.int .i64 1, .int .i64 2] 3)).alloc (.cells #[.int .i64 2, .int .i64 0] 3)).alloc (.cells #[.int .i64 1, .int .i64 3] 3))) [(0 : Int), (0 : Int)] _ rfl 2 rfl (by decide) (wr.heap.size + 1 + 1 + 1 + 1) (by simp)).ext (((((((((Ext.refl _).alloc _).alloc _).alloc _).alloc _).alloc _).alloc _).alloc _).alloc _)
        have Z5 : Hid (Ints (((((((((((((wr.alloc (.cells #[.int .i64 0, .int .i64 3] 3)).alloc (.cells #[.int .i64 1, .int .i64 2] 3)).alloc (.cells #[.int .i64 2, .int .i64 0] 3)).alloc (.cells #[.int .i64 1, .int .i64 3] 3)).alloc (.cells #[.int .i64 0, .int .i64 0] 3)).alloc (.cells #[.int .i64 1, .int .i64 3] 3)).alloc (.cells #[.int .i64 1, .int .i64 1] 3)).alloc (.cells #[.int .i64 0, .int .i64 3] 3)).alloc (.cells #[.int .i64 2, .int .i64 3] 3)).alloc (.cells #[.int .i64 0, .int .i64 1] 3)).alloc (.cells #[.int .i64 1, .int .i64 0] 3)).alloc (.cells #[.int .i64 2, .int .i64 3] 3)).alloc (.cells #[.slice (some ⟨wr.heap.size, 0, none⟩) 2 2, .slice (some ⟨wr.heap.size + 1, 0, none⟩) 2 2, .slice (some ⟨wr.heap.size + 1 + 1, 0, none⟩) 2 2, .slice (some ⟨wr.heap.size + 1 + 1 + 1, 0, none⟩) 2 2, .slice (some ⟨wr.heap.size + 1 + 1 + 1 + 1, 0, none⟩) 2 2, .slice (some ⟨wr.heap.size + 1 + 1 + 1 + 1 + 1, 0, none⟩) 2 2, .slice (some ⟨wr.heap.size + 1 + 1 + 1 + 1 + 1 + 1, 0, none⟩) 2 2, .slice (some ⟨wr.heap.size + 1 + 1 + 1 + 1 + 1 + 1 + 1, 0, none⟩) 2 2, .slice (some ⟨wr.heap.size + 1 + 1 + 1 + 1 + 1 + 1 + 1 + 1, 0, none⟩) 2 2, .slice (some ⟨wr.heap.size + 1 + 1 + 1 + 1 + 1 + 1 + 1 + 1 + 1, 0, none⟩) 2 2, .slice (some ⟨wr.heap.size + 1 + 1 + 1 + 1 + 1 + 1 + 1 + 1 + 1 + 1, 0, none⟩) 2 2, .slice (some ⟨wr.heap.size + 1 + 1 + 1 + 1 + 1 + 1 + 1 + 1 + 1 + 1 + 1, 0, none⟩) 2 2] 40)) (.slice (some ⟨wr.heap.size + 1 + 1 + 1 + 1 + 1, 0, none⟩) 2 2) [(1 : Int), (3 : Int)]) := (litz_at3 (w := (((((wr.alloc (.cells #[.int .i64 0, .int .i64 3] 3)).alloc (.cells #[.int .i64 1, .int .i64 2] 3)).alloc (.cells #[.int .i64 2, .int .i64 0] 3)).alloc (.cells #[.int .i64 1, .int .i64 3] 3)).alloc (.cells #[.int .i64 0, .int .i64 0] 3))) [(1 : Int), (3 : Int)] _ rfl 2 rfl (by decide) (wr.heap.size + 1 + 1 + 1 + 1 + 1) (by simp)).ext ((((((((Ext.refl _).alloc _).alloc _).alloc _).alloc _).alloc _).alloc _).alloc _)
        have Z6 : Hid (Ints (((((((((((((wr.alloc (.cells #[.int .i64 0, .int .i64 3] 3)).alloc (.cells #[.int .i64 1, .int .i64 2] 3)).alloc (.cells #[.int .i64 2, .int .i64 0] 3)).alloc (.cells #[.int .i64 1, .int .i64 3] 3)).alloc (.cells #[.int .i64 0, .int .i64 0] 3)).alloc (.cells #[.int .i64 1, .int .i64 3] 3)).alloc (.cells #[.int .i64 1, .int .i64 1] 3)).alloc (.cells #[.int .i64 0, .int .i64 3] 3)).alloc (.cells #[.int .i64 2, .int .i64 3] 3)).alloc (.cells #[.int .i64 0, .int .i64 1] 3)).alloc (.cells #[.int .i64 1, .int .i64 0] 3)).alloc (.cells #[.int .i64 2, .int .i64 3] 3)).alloc (.cells #[.slice (some ⟨wr.heap.size, 0, none⟩) 2 2, .slice (some ⟨wr.heap.size + 1, 0, none⟩) 2 2, .slice (some ⟨wr.heap.size + 1 + 1, 0, none⟩) 2 2, .slice (some ⟨wr.heap.size + 1 + 1 + 1, 0, none⟩) 2 2, .slice (some ⟨wr.heap.size + 1 + 1 + 1 + 1, 0, none⟩) 2 2, .slice (some ⟨wr.heap.size + 1 + 1 + 1 + 1 + 1, 0, none⟩) 2 2, .slice (some ⟨wr.heap.size + 1 + 1 + 1 + 1 + 1 + 1, 0, none⟩) 2 2, .slice (some ⟨wr.heap.size + 1 + 1 + 1 + 1 + 1 + 1 + 1, 0, none⟩) 2 2, .slice (some ⟨wr.heap.size + 1 + 1 + 1 + 1 + 1 + 1 + 1 + 1, 0, none⟩) 2 2, .slice (some ⟨wr.heap.size + 1 + 1 + 1 + 1 + 1 + 1 + 1 + 1 + 1, 0, none⟩) 2 2, .slice (some ⟨wr.heap.size + 1 + 1 + 1 + 1 + 1 + 1 + 1 + 1 + 1 + 1, 0, none⟩) 2 2, .slice (some ⟨wr.heap.size + 1 + 1 + 1 + 1 + 1 + 1 + 1 + 1 + 1 + 1 + 1, 0, none⟩) 2 2] 40)) (.slice (some ⟨wr.heap.size + 1 + 1 + 1 + 1 + 1 + 1, 0, none⟩) 2 2) [(1 : Int), (1 : Int)]) := (litz_at3 (w := ((((((wr.alloc (.cells #[.int .i64 0, .int .i64 3] 3)).alloc (.cells #[.int .i64 1, .int .i64 2] 3)).alloc (.cells #[.int .i64 2, .int .i64 0] 3)).alloc (.cells #[.int .i64 1, .int .i64 3] 3)).alloc (.cells #[.int .i64 0, .int .i64 0] 3)).alloc (.cells #[.int .i64 1, .int .i64 3] 3))) [(1 : Int), (1 : Int)] _ rfl 2 rfl (by decide) (wr.heap.size + 1 + 1 + 1 + 1 + 1 + 1) (by simp)).ext (((((((Ext.refl _).alloc _).alloc _).alloc _).alloc _).alloc _).alloc _)
        have Z7 : Hid (Ints (((((((((((((wr.alloc (.cells #[.int .i64 0, .int .i64 3] 3)).alloc (.cells #[.int .i64 1, .int .i64 2] 3)).alloc (.cells #[.int .i64 2, .int .i64 0] 3)).alloc (.cells #[.int .i64 1, .int .i64 3] 3)).alloc (.cells #[.int .i64 0, .int .i64 0] 3)).alloc (.cells #[.int .i64 1, .int .i64 3] 3)).alloc (.cells #[.int .i64 1, .int .i64 1] 3)).alloc (.cells #[.int .i64 0, .int .i64 3] 3)).alloc (.cells #[.int .i64 2, .int .i64 3] 3)).alloc (.cells #[.int .i64 0, .int .i64 1] 3)).alloc (.cells #[.int .i64 1, .int .i64 0] 3)).alloc (.cells #[.int .i64 2, .int .i64 3] 3)).alloc (.cells #[.slice (some ⟨wr.heap.size, 0, none⟩) 2 2, .slice (some ⟨wr.heap.size + 1, 0, none⟩) 2 2, .slice (some ⟨wr.heap.size + 1 + 1, 0, none⟩) 2 2, .slice (some ⟨wr.heap.size + 1 + 1 + 1, 0, none⟩) 2 2, .slice (some ⟨wr.heap.size + 1 + 1 + 1 + 1, 0, none⟩) 2 2, .slice (some ⟨wr.heap.size + 1 + 1 + 1 + 1 + 1, 0, none⟩) 2 2, .slice (some ⟨wr.heap.size + 1 + 1 + 1 + 1 + 1 + 1, 0, none⟩) 2 2, .slice (some ⟨wr.heap.size + 1 + 1 + 1 + 1 + 1 + 1 + 1, 0, none⟩) 2 2, .slice (some ⟨wr.heap.size + 1 + 1 + 1 + 1 + 1 + 1 + 1 + 1, 0, none⟩) 2 2, .slice (some ⟨wr.heap.size + 1 + 1 + 1 + 1 + 1 + 1 + 1 + 1 + 1, 0, none⟩) 2 2, .slice (some ⟨wr.heap.size + 1 + 1 + 1 + 1 + 1 + 1 + 1 + 1 + 1 + 1, 0, none⟩) 2 2, .slice (some ⟨wr.heap.size + 1 + 1 + 1 + 1 + 1 + 1 + 1 + 1 + 1 + 1 + 1, 0, none⟩) 2 2] 40)) (.slice (some ⟨wr.heap.size + 1 + 1 + 1 + 1 + 1 + 1 + 1, 0, none⟩) 2 2) [(0 : Int), (3 : Int)]) := (litz_at3 (w := (((((((wr.alloc (.cells #[.int .i64 0, .int .i64 3] 3)).alloc (.cells #[.int .i64 1, .int .i64 2] 3)).alloc (.cells #[.int .i64 2, .int .i64 0] 3)).alloc (.cells #[.int .i64 1, .int .i64 3] 3)).alloc (.cells #[.int .i64 0, .int .i64 0] 3)).alloc (.cells #[.int .i64 1, .int .i64 3] 3)).alloc (.cells #[.int .i64 1, .int .i64 1] 3))) [(0 : Int), (3 : Int)] _ rfl 2 rfl (by decide) (wr.heap.size + 1 + 1 + 1 + 1 + 1 + 1 + 1) (by simp)).ext ((((((Ext.refl _).alloc _).alloc _).alloc _).alloc _).alloc _)
        have Z8 : Hid (Ints (((((((((((((wr.alloc (.cells #[.int .i64 0, .int .i64 3] 3)).alloc (.cells #[.int .i64 1, .int .i64 2] 3)).alloc (.cells #[.int .i64 2, .int .i64 0] 3)).alloc (.cells #[.int .i64 1, .int .i64 3] 3)).alloc (.cells #[.int .i64 0, .int .i64 0] 3)).alloc (.cells #[.int .i64 1, .int .i64 3] 3)).alloc (.cells #[.int .i64 1, .int .i64 1] 3)).alloc (.cells #[.int .i64 0, .int .i64 3] 3)).alloc (.cells #[.int .i64 2, .int .i64 3] 3)).alloc (.cells #[.int .i64 0, .int .i64 1] 3)).alloc (.cells #[.int .i64 1, .int .i64 0] 3)).alloc (.cells #[.int .i64 2, .int .i64 3] 3)).alloc (.cells #[.slice (some ⟨wr.heap.size, 0, none⟩) 2 2, .slice (some ⟨wr.heap.size + 1, 0, none⟩) 2 2, .slice (some ⟨wr.heap.size + 1 + 1, 0, none⟩) 2 2, .slice (some ⟨wr.heap.size + 1 + 1 + 1, 0, none⟩) 2 2, .slice (some ⟨wr.heap.size + 1 + 1 + 1 + 1, 0, none⟩) 2 2, .slice (some ⟨wr.heap.size + 1 + 1 + 1 + 1 + 1, 0, none⟩) 2 2, .slice (some ⟨wr.heap.size + 1 + 1 + 1 + 1 + 1 + 1, 0, none⟩) 2 2, .slice (some ⟨wr.heap.size + 1 + 1 + 1 + 1 + 1 + 1 + 1, 0, none⟩) 2 2, .slice (some ⟨wr.heap.size + 1 + 1 + 1 + 1 + 1 + 1 + 1 + 1, 0, none⟩) 2 2, .slice (some ⟨wr.heap.size + 1 + 1 + 1 + 1 + 1 + 1 + 1 + 1 + 1, 0, none⟩) 2 2, .slice (some ⟨wr.heap.size + 1 + 1 + 1 + 1 + 1 + 1 + 1 + 1 + 1 + 1, 0, none⟩) 2 2, .slice (some ⟨wr.heap.size + 1 + 1 + 1 + 1 + 1 + 1 + 1 + 1 + 1 + 1 + 1, 0, none⟩) 2 2] 40)) (.slice (some ⟨wr.heap.size + 1 + 1 + 1 + 1 + 1 + 1 + 1 + 1, 0, none⟩) 2 2) [(2 : Int), (3 : Int)]) := (litz_at3 (w := ((((((((wr.alloc (.cells #[.int .i64 0, .int .i64 3] 3)).alloc (.cells #[.int .i64 1, .int .i64 2] 3)).alloc (.cells #[.int .i64 2, .int .i64 0] 3)).alloc (.cells #[.int .i64 1, .int .i64 3] 3)).alloc (.cells #[.int .i64 0, .int .i64 0] 3)).alloc (.cells #[.int .i64 1, .int .i64 3] 3)).alloc (.cells #[.int .i64 1, .int .i64 1] 3)).alloc (.cells #[.int .i64 0, .int .i64 3] 3))) [(2 : Int), (3 : Int)] _ rfl 2 rfl (by decide) (wr.heap.size + 1 + 1 + 1 + 1 + 1 + 1 + 1 + 1) (by simp)).ext (((((Ext.refl _).alloc _).alloc _).alloc _).alloc _)
        have Z9 : Hid (Ints (((((((((((((wr.alloc (.cells #[.int .i64 0, .int .i64 3] 3)).alloc (.cells #[.int .i64 1, .int .i64 2] 3)).alloc (.cells #[.int .i64 2, .int .i64 0] 3)).alloc (.cells #[.int .i64 1, .int .i64 3] 3)).alloc (.cells #[.int .i64 0, .int .i64 0] 3)).alloc (.cells #[.int .i64 1, .int .i64 3] 3)).alloc (.cells #[.int .i64 1, .int .i64 1] 3)).alloc (.cells #[.int .i64 0, .int .i64 3] 3)).alloc (.cells #[.int .i64 2, .int .i64 3] 3)).alloc (.cells #[.int .i64 0, .int .i64 1] 3)).alloc (.cells #[.int .i64 1, .int .i64 0] 3)).alloc (.cells #[.int .i64 2, .int .i64 3] 3)).alloc (.cells #[.slice (some ⟨wr.heap.size, 0, none⟩) 2 2, .slice (some ⟨wr.heap.size + 1, 0, none⟩) 2 2, .slice (some ⟨wr.heap.size + 1 + 1, 0, none⟩) 2 2, .slice (some ⟨wr.heap.size + 1 + 1 + 1, 0, none⟩) 2 2, .slice (some ⟨wr.heap.size + 1 + 1 + 1 + 1, 0, none⟩) 2 2, .slice (some ⟨wr.heap.size + 1 + 1 + 1 + 1 + 1, 0, none⟩) 2 2, .slice (some ⟨wr.heap.size + 1 + 1 + 1 + 1 + 1 + 1, 0, none⟩) 2 2, .slice (some ⟨wr.heap.size + 1 + 1 + 1 + 1 + 1 + 1 + 1, 0, none⟩) 2 2, .slice (some ⟨wr.heap.size + 1 + 1 + 1 + 1 + 1 + 1 + 1 + 1, 0, none⟩) 2 2, .slice (some ⟨wr.heap.size + 1 + 1 + 1 + 1 + 1 + 1 + 1 + 1 + 1, 0, none⟩) 2 2, .slice (some ⟨wr.heap.size + 1 + 1 + 1 + 1 + 1 + 1 + 1 + 1 + 1 + 1, 0, none⟩) 2 2, .slice (some ⟨wr.heap.size + 1 + 1 + 1 + 1 + 1 + 1 + 1 + 1 + 1 + 1 + 1, 0, none⟩) 2 2] 40)) (.slice (some ⟨wr.heap.size + 1 + 1 + 1 + 1 + 1 + 1 + 1 + 1 + 1, 0, none⟩) 2 2) [(0 : Int), (1 : Int)]) := (litz_at3 (w := (((((((((wr.alloc (.cells #[.int .i64 0, .int .i64 3] 3)).alloc (.cells #[.int .i64 1, .int .i64 2] 3)).alloc (.cells #[.int .i64 2, .int .i64 0] 3)).alloc (.cells #[.int .i64 1, .int .i64 3] 3)).alloc (.cells #[.int .i64 0, .int .i64 0] 3)).alloc (.cells #[.int .i64 1, .int .i64 3] 3)).alloc (.cells #[.int .i64 1, .int .i64 1] 3)).alloc (.cells #[.int .i64 0, .int .i64 3] 3)).alloc (.cells #[.int .i64 2, .int .i64 3] 3))) [(0 : Int), (1 : Int)] _ rfl 2 rfl (by decide) (wr.heap.size + 1 + 1 + 1 + 1 + 1 + 1 + 1 + 1 + 1) (by simp)).ext ((((Ext.refl _).alloc _).alloc _).alloc _)
        have Z10 : Hid (Ints (((((((((((((wr.alloc (.cells #[.int .i64 0, .int .i64 3] 3)).alloc (.cells #[.int .i64 1, .int .i64 2] 3)).alloc (.cells #[.int .i64 2, .int .i64 0] 3)).alloc (.cells #[.int .i64 1, .int .i64 3] 3)).alloc (.cells #[.int .i64 0, .int .i64 0] 3)).alloc (.cells #[.int .i64 1, .int .i64 3] 3)).alloc (.cells #[.int .i64 1, .int .i64 1] 3)).alloc (.cells #[.int .i64 0, .int .i64 3] 3)).alloc (.cells #[.int .i64 2, .int .i64 3] 3)).alloc (.cells #[.int .i64 0, .int .i64 1] 3)).alloc (.cells #[.int .i64 1, .int .i64 0] 3)).alloc (.cells #[.int .i64 2, .int .i64 3] 3)).alloc (.cells #[.slice (some ⟨wr.heap.size, 0, none⟩) 2 2, .slice (some ⟨wr.heap.size + 1, 0, none⟩) 2 2, .slice (some ⟨wr.heap.size + 1 + 1, 0, none⟩) 2 2, .slice (some ⟨wr.heap.size + 1 + 1 + 1, 0, none⟩) 2 2, .slice (some ⟨wr.heap.size + 1 + 1 + 1 + 1, 0, none⟩) 2 2, .slice (some ⟨wr.heap.size + 1 + 1 + 1 + 1 + 1, 0, none⟩) 2 2, .slice (some ⟨wr.heap.size + 1 + 1 + 1 + 1 + 1 + 1, 0, none⟩) 2 2, .slice (some ⟨wr.heap.size + 1 + 1 + 1 + 1 + 1 + 1 + 1, 0, none⟩) 2 2, .slice (some ⟨wr.heap.size + 1 + 1 + 1 + 1 + 1 + 1 + 1 + 1, 0, none⟩) 2 2, .slice (some ⟨wr.heap.size + 1 + 1 + 1 + 1 + 1 + 1 + 1 + 1 + 1, 0, none⟩) 2 2, .slice (some ⟨wr.heap.size + 1 + 1 + 1 + 1 + 1 + 1 + 1 + 1 + 1 + 1, 0, none⟩) 2 2, .slice (some ⟨wr.heap.size + 1 + 1 + 1 + 1 + 1 + 1 + 1 + 1 + 1 + 1 + 1, 0, none⟩) 2 2] 40)) (.slice (some ⟨wr.heap.size + 1 + 1 + 1 + 1 + 1 + 1 + 1 + 1 + 1 + 1, 0, none⟩) 2 2) [(1 : Int), (0 : Int)]) := (litz_at3 (w := ((((((((((wr.alloc (.cells #[.int .i64 0, .int .i64 3] 3)).alloc (.cells #[.int .i64 1, .int .i64 2] 3)).alloc (.cells #[.int .i64 2, .int .i64 0] 3)).alloc (.cells #[.int .i64 1, .int .i64 3] 3)).alloc (.cells #[.int .i64 0, .int .i64 0] 3)).alloc (.cells #[.int .i64 1, .int .i64 3] 3)).alloc (.cells #[.int .i64 1, .int .i64 1] 3)).alloc (.cells #[.int .i64 0, .int .i64 3] 3)).alloc (.cells #[.int .i64 2, .int .i64 3] 3)).alloc (.cells #[.int .i64 0, .int .i64 1] 3))) [(1 : Int), (0 : Int)] _ rfl 2 rfl (by decide) (wr.heap.size + 1 + 1 + 1 + 1 + 1 + 1 + 1 + 1 + 1 + 1) (by simp)).ext (((Ext.refl _).alloc _).alloc _)
        have Z11 : Hid (Ints (((((((((((((wr.alloc (.cells #[.int .i64 0, .int .i64 3] 3)).alloc (.cells #[.int .i64 1, .int .i64 2] 3)).alloc (.cells #[.int .i64 2, .int .i64 0] 3)).alloc (.cells #[.int .i64 1, .int .i64 3] 3)).alloc (.cells #[.int .i64 0, .int .i64 0] 3)).alloc (.cells #[.int .i64 1, .int .i64 3] 3)).alloc (.cells #[.int .i64 1, .int .i64 1] 3)).alloc (.cells #[.int .i64 0, .int .i64 3] 3)).alloc (.cells #[.int .i64 2, .int .i64 3] 3)).alloc (.cells #[.int .i64 0, .int .i64 1] 3)).alloc (.cells #[.int .i64 1, .int .i64 0] 3)).alloc (.cells #[.int .i64 2, .int .i64 3] 3)).alloc (.cells #[.slice (some ⟨wr.heap.size, 0, none⟩) 2 2, .slice (some ⟨wr.heap.size + 1, 0, none⟩) 2 2, .slice (some ⟨wr.heap.size + 1 + 1, 0, none⟩) 2 2, .slice (some ⟨wr.heap.size + 1 + 1 + 1, 0, none⟩) 2 2, .slice (some ⟨wr.heap.size + 1 + 1 + 1 + 1, 0, none⟩) 2 2, .slice (some ⟨wr.heap.size + 1 + 1 + 1 + 1 + 1, 0, none⟩) 2 2, .slice (some ⟨wr.heap.size + 1 + 1 + 1 + 1 + 1 + 1, 0, none⟩) 2 2, .slice (some ⟨wr.heap.size + 1 + 1 + 1 + 1 + 1 + 1 + 1, 0, none⟩) 2 2, .slice (some ⟨wr.heap.size + 1 + 1 + 1 + 1 + 1 + 1 + 1 + 1, 0, none⟩) 2 2, .slice (some ⟨wr.heap.size + 1 + 1 + 1 + 1 + 1 + 1 + 1 + 1 + 1, 0, none⟩) 2 2, .slice (some ⟨wr.heap.size + 1 + 1 + 1 + 1 + 1 + 1 + 1 + 1 + 1 + 1, 0, none⟩) 2 2, .slice (some ⟨wr.heap.size + 1 + 1 + 1 + 1 + 1 + 1 + 1 + 1 + 1 + 1 + 1, 0, none⟩) 2 2] 40)) (.slice (some ⟨wr.heap.size + 1 + 1 + 1 + 1 + 1 + 1 + 1 + 1 + 1 + 1 + 1, 0, none⟩) 2 2) [(2 : Int), (3 : Int)]) := (litz_at3 (w := (((((((((((wr.alloc (.cells #[.int .i64 0, .int .i64 3] 3)).alloc (.cells #[.int .i64 1, .int .i64 2] 3)).alloc (.cells #[.int .i64 2, .int .i64 0] 3)).alloc (.cells #[.int .i64 1, .int .i64 3] 3)).alloc (.cells #[.int .i64 0, .int .i64 0] 3)).alloc (.cells #[.int .i64 1, .int .i64 3] 3)).alloc (.cells #[.int .i64 1, .int .i64 1] 3)).alloc (.cells #[.int .i64 0, .int .i64 3] 3)).alloc (.cells #[.int .i64 2, .int .i64 3] 3)).alloc (.cells #[.int .i64 0, .int .i64 1] 3)).alloc (.cells #[.int .i64 1, .int .i64 0] 3))) [(2 : Int), (3 : Int)] _ rfl 2 rfl (by decide) (wr.heap.size + 1 + 1 + 1 + 1 + 1 + 1 + 1 + 1 + 1 + 1 + 1) (by simp)).ext ((Ext.refl _).alloc _)
        have TB : Hid (TabJ (wr.heap.size + 1 + 1 + 1 + 1 + 1 + 1 + 1 + 1 + 1 + 1 + 1 + 1) (((((((((((((wr.alloc (.cells #[.int .i64 0, .int .i64 3] 3)).alloc (.cells #[.int .i64 1, .int .i64 2] 3)).alloc (.cells #[.int .i64 2, .int .i64 0] 3)).alloc (.cells #[.int .i64 1, .int .i64 3] 3)).alloc (.cells #[.int .i64 0, .int .i64 0] 3)).alloc (.cells #[.int .i64 1, .int .i64 3] 3)).alloc (.cells #[.int .i64 1, .int .i64 1] 3)).alloc (.cells #[.int .i64 0, .int .i64 3] 3)).alloc (.cells #[.int .i64 2, .int .i64 3] 3)).alloc (.cells #[.int .i64 0, .int .i64 1] 3)).alloc (.cells #[.int .i64 1, .int .i64 0] 3)).alloc (.cells #[.int .i64 2, .int .i64 3] 3)).alloc (.cells #[.slice (some ⟨wr.heap.size, 0, none⟩) 2 2, .slice (some ⟨wr.heap.size + 1, 0, none⟩) 2 2, .slice (some ⟨wr.heap.size + 1 + 1, 0, none⟩) 2 2, .slice (some ⟨wr.heap.size + 1 + 1 + 1, 0, none⟩) 2 2, .slice (some ⟨wr.heap.size + 1 + 1 + 1 + 1, 0, none⟩) 2 2, .slice (some ⟨wr.heap.size + 1 + 1 + 1 + 1 + 1, 0, none⟩) 2 2, .slice (some ⟨wr.heap.size + 1 + 1 + 1 + 1 + 1 + 1, 0, none⟩) 2 2, .slice (some ⟨wr.heap.size + 1 + 1 + 1 + 1 + 1 + 1 + 1, 0, none⟩) 2 2, .slice (some ⟨wr.heap.size + 1 + 1 + 1 + 1 + 1 + 1 + 1 + 1, 0, none⟩) 2 2, .slice (some ⟨wr.heap.size + 1 + 1 + 1 + 1 + 1 + 1 + 1 + 1 + 1, 0, none⟩) 2 2, .slice (some ⟨wr.heap.size + 1 + 1 + 1 + 1 + 1 + 1 + 1 + 1 + 1 + 1, 0, none⟩) 2 2, .slice (some ⟨wr.heap.size + 1 + 1 + 1 + 1 + 1 + 1 + 1 + 1 + 1 + 1 + 1, 0, none⟩) 2 2] 40))) := by
          have hh := heap_alloc_new ((((((((((((wr.alloc (.cells #[.int .i64 0, .int .i64 3] 3)).alloc (.cells #[.int .i64 1, .int .i64 2] 3)).alloc (.cells #[.int .i64 2, .int .i64 0] 3)).alloc (.cells #[.int .i64 1, .int .i64 3] 3)).alloc (.cells #[.int .i64 0, .int .i64 0] 3)).alloc (.cells #[.int .i64 1, .int .i64 3] 3)).alloc (.cells #[.int .i64 1, .int .i64 1] 3)).alloc (.cells #[.int .i64 0, .int .i64 3] 3)).alloc (.cells #[.int .i64 2, .int .i64 3] 3)).alloc (.cells #[.int .i64 0, .int .i64 1] 3)).alloc (.cells #[.int .i64 1, .int .i64 0] 3)).alloc (.cells #[.int .i64 2, .int .i64 3] 3)) (.cells #[.slice (some ⟨wr.heap.size, 0, none⟩) 2 2, .slice (some ⟨wr.heap.size + 1, 0, none⟩) 2 2, .slice (some ⟨wr.heap.size + 1 + 1, 0, none⟩) 2 2, .slice (some ⟨wr.heap.size + 1 + 1 + 1, 0, none⟩) 2 2, .slice (some ⟨wr.heap.size + 1 + 1 + 1 + 1, 0, none⟩) 2 2, .slice (some ⟨wr.heap.size + 1 + 1 + 1 + 1 + 1, 0, none⟩) 2 2, .slice (some ⟨wr.heap.size + 1 + 1 + 1 + 1 + 1 + 1, 0, none⟩) 2 2, .slice (some ⟨wr.heap.size + 1 + 1 + 1 + 1 + 1 + 1 + 1, 0, none⟩) 2 2, .slice (some ⟨wr.heap.size + 1 + 1 + 1 + 1 + 1 + 1 + 1 + 1, 0, none⟩) 2 2, .slice (some ⟨wr.heap.size + 1 + 1 + 1 + 1 + 1 + 1 + 1 + 1 + 1, 0, none⟩) 2 2, .slice (some ⟨wr.heap.size + 1 + 1 + 1 + 1 + 1 + 1 + 1 + 1 + 1 + 1, 0, none⟩) 2 2, .slice (some ⟨wr.heap.size + 1 + 1 + 1 + 1 + 1 + 1 + 1 + 1 + 1 + 1 + 1, 0, none⟩) 2 2] 40)
          rw [show ((((((((((((wr.alloc (.cells #[.int .i64 0, .int .i64 3] 3)).alloc (.cells #[.int .i64 1, .int .i64 2] 3)).alloc (.cells #[.int .i64 2, .int .i64 0] 3)).alloc (.cells #[.int .i64 1, .int .i64 3] 3)).alloc (.cells #[.int .i64 0, .int .i64 0] 3)).alloc (.cells #[.int .i64 1, .int .i64 3] 3)).alloc (.cells #[.int .i64 1, .int .i64 1] 3)).alloc (.cells #[.int .i64 0, .int .i64 3] 3)).alloc (.cells #[.int .i64 2, .int .i64 3] 3)).alloc (.cells #[.int .i64 0, .int .i64 1] 3)).alloc (.cells #[.int .i64 1, .int .i64 0] 3)).alloc (.cells #[.int .i64 2, .int .i64 3] 3)).heap.size = wr.heap.size + 1 + 1 + 1 + 1 + 1 + 1 + 1 + 1 + 1 + 1 + 1 + 1 by simp] at hh
          refine ⟨_, _, hh, ?_⟩
          intro i hi
          match i, hi with
          | 0, _ => exact ⟨_, _, _, _, rfl, rfl, Z0.out, Z1.out, by decide, plR_eq (k := 2) (by decide) (by decide) (by decide)⟩
          | 1, _ => exact ⟨_, _, _, _, rfl, rfl, Z2.out, Z3.out, by decide, plR_eq (k := 2) (by decide) (by decide) (by decide)⟩
          | 2, _ => exact ⟨_, _, _, _, rfl, rfl, Z4.out, Z5.out, by decide, plR_eq (k := 2) (by decide) (by decide) (by decide)⟩
          | 3, _ => exact ⟨_, _, _, _, rfl, rfl, Z6.out, Z7.out, by decide, plR_eq (k := 2) (by decide) (by decide) (by decide)⟩
          | 4, _ => exact ⟨_, _, _, _, rfl, rfl, Z8.out, Z9.out, by decide, plR_eq (k := 2) (by decide) (by decide) (by decide)⟩
          | 5, _ => exact ⟨_, _, _, _, rfl, rfl, Z10.out, Z11.out, by decide, plR_eq (k := 2) (by decide) (by decide) (by decide)⟩
          | n + 6, h => exact absurd h (by omega)
        have EW : Hid (Ext w (((((((((((((wr.alloc (.cells #[.int .i64 0, .int .i64 3] 3)).alloc (.cells #[.int .i64 1, .int .i64 2] 3)).alloc (.cells #[.int .i64 2, .int .i64 0] 3)).alloc (.cells #[.int .i64 1, .int .i64 3] 3)).alloc (.cells #[.int .i64 0, .int .i64 0] 3)).alloc (.cells #[.int .i64 1, .int .i64 3] 3)).alloc (.cells #[.int .i64 1, .int .i64 1] 3)).alloc (.cells #[.int .i64 0, .int .i64 3] 3)).alloc (.cells #[.int .i64 2, .int .i64 3] 3)).alloc (.cells #[.int .i64 0, .int .i64 1] 3)).alloc (.cells #[.int .i64 1, .int .i64 0] 3)).alloc (.cells #[.int .i64 2, .int .i64 3] 3)).alloc (.cells #[.slice (some ⟨wr.heap.size, 0, none⟩) 2 2, .slice (some ⟨wr.heap.size + 1, 0, none⟩) 2 2, .slice (some ⟨wr.heap.size + 1 + 1, 0, none⟩) 2 2, .slice (some ⟨wr.heap.size + 1 + 1 + 1, 0, none⟩) 2 2, .slice (some ⟨wr.heap.size + 1 + 1 + 1 + 1, 0, none⟩) 2 2, .slice (some ⟨wr.heap.size + 1 + 1 + 1 + 1 + 1, 0, none⟩) 2 2, .slice (some ⟨wr.heap.size + 1 + 1 + 1 + 1 + 1 + 1, 0, none⟩) 2 2, .slice (some ⟨wr.heap.size + 1 + 1 + 1 + 1 + 1 + 1 + 1, 0, none⟩) 2 2, .slice (some ⟨wr.heap.size + 1 + 1 + 1 + 1 + 1 + 1 + 1 + 1, 0, none⟩) 2 2, .slice (some ⟨wr.heap.size + 1 + 1 + 1 + 1 + 1 + 1 + 1 + 1 + 1, 0, none⟩) 2 2, .slice (some ⟨wr.heap.size + 1 + 1 + 1 + 1 + 1 + 1 + 1 + 1 + 1 + 1, 0, none⟩) 2 2, .slice (some ⟨wr.heap.size + 1 + 1 + 1 + 1 + 1 + 1 + 1 + 1 + 1 + 1 + 1, 0, none⟩) 2 2] 40))) := X9.out.trans ((((((((((((((Ext.refl _).alloc _).alloc _).alloc _).alloc _).alloc _).alloc _).alloc _).alloc _).alloc _).alloc _).alloc _).alloc _).alloc _)
        obtain ⟨W5, hW⟩ : ∃ W, W = (((((((((((((wr.alloc (.cells #[.int .i64 0, .int .i64 3] 3)).alloc (.cells #[.int .i64 1, .int .i64 2] 3)).alloc (.cells #[.int .i64 2, .int .i64 0] 3)).alloc (.cells #[.int .i64 1, .int .i64 3] 3)).alloc (.cells #[.int .i64 0, .int .i64 0] 3)).alloc (.cells #[.int .i64 1, .int .i64 3] 3)).alloc (.cells #[.int .i64 1, .int .i64 1] 3)).alloc (.cells #[.int .i64 0, .int .i64 3] 3)).alloc (.cells #[.int .i64 2, .int .i64 3] 3)).alloc (.cells #[.int .i64 0, .int .i64 1] 3)).alloc (.cells #[.int .i64 1, .int .i64 0] 3)).alloc (.cells #[.int .i64 2, .int .i64 3] 3)).alloc (.cells #[.slice (some ⟨wr.heap.size, 0, none⟩) 2 2, .slice (some ⟨wr.heap.size + 1, 0, none⟩) 2 2, .slice (some ⟨wr.heap.size + 1 + 1, 0, none⟩) 2 2, .slice (some ⟨wr.heap.size + 1 + 1 + 1, 0, none⟩) 2 2, .slice (some ⟨wr.heap.size + 1 + 1 + 1 + 1, 0, none⟩) 2 2, .slice (some ⟨wr.heap.size + 1 + 1 + 1 + 1 + 1, 0, none⟩) 2 2, .slice (some ⟨wr.heap.size + 1 + 1 + 1 + 1 + 1 + 1, 0, none⟩) 2 2, .slice (some ⟨wr.heap.size + 1 + 1 + 1 + 1 + 1 + 1 + 1, 0, none⟩) 2 2, .slice (some ⟨wr.heap.size + 1 + 1 + 1 + 1 + 1 + 1 + 1 + 1, 0, none⟩) 2 2, .slice (some ⟨wr.heap.size + 1 + 1 + 1 + 1 + 1 + 1 + 1 + 1 + 1, 0, none⟩) 2 2, .slice (some ⟨wr.heap.size + 1 + 1 + 1 + 1 + 1 + 1 + 1 + 1 + 1 + 1, 0, none⟩) 2 2, .slice (some ⟨wr.heap.size + 1 + 1 + 1 + 1 + 1 + 1 + 1 + 1 + 1 + 1 + 1, 0, none⟩) 2 2] 40)) := ⟨_, rfl⟩
        obtain ⟨g2, hg2⟩ : ∃ g, wr.heap.size + 1 + 1 + 1 + 1 + 1 + 1 + 1 + 1 + 1 + 1 + 1 + 1 = g := ⟨_, rfl⟩
        rw [← hW] at TB EW ⊢
        rw [hg2] at TB ⊢
        clear hW hg2 Z0 Z1 Z2 Z3 Z4 Z5 Z6 Z7 Z8 Z9 Z10 Z11 X9
        go_loopw [149] (fun v149 wr => ∃ i : Nat, v149 = .int .i64 (i : Int) ∧ i ≤ 6 ∧ Ext W5 wr) (fun v149 _ => 6 - (intOf v149).toNat)
        case atStart => exact ⟨0, rfl, Nat.zero_le _, Ext.refl _⟩
        case round =>
          rename World => ws
          obtain ⟨i2, rfl, hi, hx⟩ := hrel
          have XX := Lib.hid hx
          clear hx
          by_cases hi6 : i2 < 6
          · have LT := Lib.hid hi6
            obtain ⟨p, q, J, M, k1, k2, k3, k4, k5, k6⟩ := (TB.out.ext XX.out).cell hi6
            have HJ := Lib.hid k3
            have HM := Lib.hid k4
            have HE : Hid (((errPool 2 4 J : Nat) : Int) = 0) := by show _ = _; rw [k5]; rfl
            have HR := Lib.hid k6
            have hi5 : (i2 : Int) ≤ 5 := by omega
            clear hi hi6 k3 k4 k5 k6
            go_wp2_with fail
            obtain ⟨v1, hv1⟩ : ∃ W, W = (ws.alloc (.cells #[.slice p 2 2, .slice q 2 2] 40)) := ⟨_, rfl⟩
            have y1 : Ext ws v1 := by rw [hv1]; exact ((Ext.refl _).alloc _)
            have b20_0 : Hid (At (ws.heap.size) 0 (.slice p 2 2) v1) := by rw [hv1]; exact At.ext (At.n0 (by rfl)) (Ext.refl _)
            have b20_1 : Hid (At (ws.heap.size) 1 (.slice q 2 2) v1) := by rw [hv1]; exact At.ext (At.n0 (by rfl)) (Ext.refl _)
            have k20 : Hid (Bx 2 (ws.heap.size) v1) := by rw [hv1]; exact Bx.gr (Bx.n0 2 ⟨rfl, by decide⟩ (by decide) (by intro u hu; simp only [List.mem_cons, List.not_mem_nil, or_false] at hu; rcases hu with rfl | rfl <;> trivial)) (Ext.gr (Ext.refl _))
            have u20 : Hid (ws.heap.size < v1.heap.size) := b20_0.out.2
            have e1_ : Ext W5 v1 := Ext.trans XX.out y1
            rw [← hv1]
            clear hv1
            refine (plrow_c (HJ.out.ext y1) 2 4 0 HE.out M HR.out).mono ?_
            rintro e w2 ⟨zr61, rfl, zo61, x2⟩
            have e2_ : Ext W5 w2 := Ext.trans e1_ x2
            obtain ⟨zp61, zc61, rfl⟩ := zo61.slice13
            have g20_1 := (b20_1.out.ext x2).1
            have f20 : ws.heap.size < w2.heap.size := (b20_0.out.ext x2).2
            go_wp2_with fail
            refine (same13_calls zo61.ints (HM.out.ext (y1.trans x2)) true (by simp)).mono ?_
            rintro e w3 ⟨rfl, x3⟩
            have e3_ : Ext W5 w3 := Ext.trans e2_ x3
            clear g20_1 f20
            go_wp2_with fail
            exact ⟨⟨i2 + 1, by first | rfl | go_num, LT.out, e3_⟩, by simp [intOf]; have := LT.out; omega⟩
          · have i6 : (6 : Int) ≤ (i2 : Int) := by omega
            have XW := Lib.hid (EW.out.trans XX.out)
            have h3 : DrawIs [] 3 0 0 false 0 := drawIs_short (by decide +kernel)
            have HB1 : Hid (plRes (⟨#[]⟩ : ByteArray).data.toList 3 3 0 false = ([0, 1, 2], true, 0, false)) := by
              show _ = _
              unfold plRes
              rw [if_neg (by decide), if_pos rfl, show poolF ((3 : Int)).toNat [] = [0, 1, 2] from poolF_eq (by decide) (by decide)]
            have HB2 : Hid (plRes (⟨#[]⟩ : ByteArray).data.toList 2 3 0 false = ([], false, 0, true)) := plRes_none (k := 2) (n := 3) (by decide) (by decide) (by show upB [] 1 2 0 = _; exact upB_no h3)
            have HB3 : Hid (plRes (⟨#[]⟩ : ByteArray).data.toList 4 3 0 true = ([], false, 0, true)) := by show _ = _; unfold plRes; rw [if_pos (by decide)]
            clear hi hi6 TB EW XX h3
            go_wp2_with fail
            refine (cnew_ok ⟨#[]⟩ _ (by decide) (by decide +kernel)).mono ?_
            rintro e w1 ⟨cs71, rfl, cl71, cc71_, x1⟩
            have e1_ : Ext w w1 := Ext.trans XW.out x1
            have b20_0 : Hid (At (cs71) 0 (.string ⟨#[]⟩) w1) := cc71_.c0
            have b20_1 : Hid (At (cs71) 1 (.int .i64 ((0 : Nat) : Int)) w1) := cc71_.c1
            have b20_2 : Hid (At (cs71) 2 (.bool false) w1) := cc71_.c2
            have k20 := Lib.hid cc71_.bx
            have l20 := Lib.hid cl71
            have u20 := Lib.hid cc71_.bx.lt
            clear cl71 cc71_
            go_wp2_with fail
            refine (pldraw_all (show Cur ⟨#[]⟩ (cs71) (0) false _ from ⟨b20_0.out, b20_1.out, b20_2.out, k20.out⟩) (by decide +kernel) (Nat.zero_le _) 3 3 HB1.out).mono ?_
            rintro e w2 ⟨zr72, rfl, zo72, mv2, cc2⟩
            have y2 : Gr w1 w2 := ((show Cur ⟨#[]⟩ (cs71) (0) false _ from ⟨b20_0.out, b20_1.out, b20_2.out, k20.out⟩)).mvgr mv2 cc2
            have t2 : Hid (∀ t o u, t ≠ (cs71) → At t o u w1 → At t o u w2) := fun t o u h k => mv2.at h k
            have e2_ : Ext w w2 := mv2.ext e1_ (Nat.le_trans XW.out.size l20.out)
            have b20_0 : Hid (At (cs71) 0 (.string ⟨#[]⟩) w2) := cc2.c0
            have b20_1 : Hid (At (cs71) 1 (.int .i64 ((0 : Nat) : Int)) w2) := cc2.c1
            have b20_2 : Hid (At (cs71) 2 (.bool false) w2) := cc2.c2
            have k20 : Hid (Bx 3 (cs71) w2) := cc2.bx
            clear mv2 cc2
            obtain ⟨zp72, zc72, rfl⟩ := zo72.slice13
            go_wp2_with fail
            refine (pldraw_all (show Cur ⟨#[]⟩ (cs71) (0) false _ from ⟨b20_0.out, b20_1.out, b20_2.out, k20.out⟩) (by decide +kernel) (Nat.zero_le _) 2 3 HB2.out).mono ?_
            rintro e w3 ⟨zr73, rfl, zo73, mv3, cc3⟩
            have y3 : Gr w2 w3 := ((show Cur ⟨#[]⟩ (cs71) (0) false _ from ⟨b20_0.out, b20_1.out, b20_2.out, k20.out⟩)).mvgr mv3 cc3
            have t3 : Hid (∀ t o u, t ≠ (cs71) → At t o u w2 → At t o u w3) := fun t o u h k => mv3.at h k
            have e3_ : Ext w w3 := mv3.ext e2_ (Nat.le_trans XW.out.size l20.out)
            have b20_0 : Hid (At (cs71) 0 (.string ⟨#[]⟩) w3) := cc3.c0
            have b20_1 : Hid (At (cs71) 1 (.int .i64 ((0 : Nat) : Int)) w3) := cc3.c1
            have b20_2 : Hid (At (cs71) 2 (.bool true) w3) := cc3.c2
            have k20 : Hid (Bx 3 (cs71) w3) := cc3.bx
            clear mv3 cc3
            obtain ⟨zp73, zc73, rfl⟩ := zo73.slice13
            go_wp2_with fail
            refine (pldraw_all (show Cur ⟨#[]⟩ (cs71) (0) true _ from ⟨b20_0.out, b20_1.out, b20_2.out, k20.out⟩) (by decide +kernel) (Nat.zero_le _) 4 3 HB3.out).mono ?_
            rintro e w4 ⟨zr74, rfl, zo74, mv4, cc4⟩
            have y4 : Gr w3 w4 := ((show Cur ⟨#[]⟩ (cs71) (0) true _ from ⟨b20_0.out, b20_1.out, b20_2.out, k20.out⟩)).mvgr mv4 cc4
            have t4 : Hid (∀ t o u, t ≠ (cs71) → At t o u w3 → At t o u w4) := fun t o u h k => mv4.at h k
            have e4_ : Ext w w4 := mv4.ext e3_ (Nat.le_trans XW.out.size l20.out)
            have b20_0 : Hid (At (cs71) 0 (.string ⟨#[]⟩) w4) := cc4.c0
            have b20_1 : Hid (At (cs71) 1 (.int .i64 ((0 : Nat) : Int)) w4) := cc4.c1
            have b20_2 : Hid (At (cs71) 2 (.bool true) w4) := cc4.c2
            have k20 : Hid (Bx 3 (cs71) w4) := cc4.bx
            clear mv4 cc4
            obtain ⟨zp74, zc74, rfl⟩ := zo74.slice13
            go_wp2_with fail
            refine (pldraw_nil _ 1 2 (by decide) (by decide)).mono ?_
            rintro e w5 ⟨rfl, x5⟩
            have e5_ : Ext w w5 := Ext.trans e4_ x5
            go_wp2_with fail
            refine (choose_n _ 32 64 1832624140942590534 (by decide) (by decide) bin_big).mono ?_
            rintro e w6 ⟨sv76, rfl, o76, x6⟩
            have e6_ : Ext w w6 := Ext.trans e5_ x6
            obtain ⟨sp76, sl76, sc76, rfl⟩ := o76.slice'
            go_wp2_with fail
            obtain ⟨v7, hv7⟩ : ∃ W, W = (w6.alloc (.cells #[.int .i64 0, .int .i64 1, .int .i64 2] 3)) := ⟨_, rfl⟩
            have y7 : Ext w6 v7 := by rw [hv7]; exact ((Ext.refl _).alloc _)
            have r21 : Hid (OwnZ 3 w.heap.size v7 (.slice (some ⟨w6.heap.size, 0, none⟩) 3 3) [0, 1, 2]) := by rw [hv7]; exact OwnZ.ext (litz_n0 [0, 1, 2] _ rfl 3 rfl (by decide) e6_.size) (Ext.refl _)
            have e7_ : Ext w v7 := Ext.trans e6_ y7
            rw [← hv7]
            clear hv7
            refine (same13_calls (zo72.gr (y3.trans (y4.trans (x5.gr.trans (x6.gr.trans y7.gr))))).ints r21.out.ints true (by decide)).mono ?_
            rintro e w8 ⟨rfl, x8⟩
            have e8_ : Ext w w8 := Ext.trans e7_ x8
            go_wp2_with fail
            refine (cover_calls (show Cur ⟨#[]⟩ (cs71) (0) true _ from ⟨(b20_0.out.ext (x5.trans (x6.trans (y7.trans x8)))), (b20_1.out.ext (x5.trans (x6.trans (y7.trans x8)))), (b20_2.out.ext (x5.trans (x6.trans (y7.trans x8)))), (k20.out.gr (x5.gr.trans (x6.gr.trans (y7.gr.trans x8.gr))))⟩)).mono ?_
            rintro e w9 ⟨rfl, x9⟩
            have e9_ : Ext w w9 := Ext.trans e8_ x9
            go_wp2_with fail
            obtain ⟨v10, hv10⟩ : ∃ W, W = (w9.alloc (.cells #[.int .u64 1832624140942590534] 49)) := ⟨_, rfl⟩
            have y10 : Ext w9 v10 := by rw [hv10]; exact ((Ext.refl _).alloc _)
            have r22 : Hid (Limbs v10 (.slice (some ⟨w9.heap.size, 0, none⟩) 1 1) [1832624140942590534]) := by rw [hv10]; exact (limbs_lit _ [1832624140942590534] (by rw [Bs_def]; simp) _ rfl 1 rfl (by rw [Lmax_def]; simp)).ext (Ext.refl _)
            have e10_ : Ext w v10 := Ext.trans e9_ y10
            rw [← hv10]
            clear hv10
            refine (same_bool (o76.limbs.ext (y7.trans (x8.trans (x9.trans y10)))) r22.out true (by rw [dig_one (by rw [Bs_def]; decide) (by decide)]; decide)).mono ?_
            rintro e w11 ⟨rfl, x11⟩
            have e11_ : Ext w w11 := Ext.trans e10_ x11
            go_wp2_with fail
            go_ret
            exact ⟨rfl, e11_⟩

end Go.Proofs.Ytefeglkbikcjeaa
