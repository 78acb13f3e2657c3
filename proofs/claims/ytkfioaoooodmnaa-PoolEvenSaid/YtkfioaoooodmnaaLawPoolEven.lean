/- PoolEven answers true at all numbers. -/
import Derived.Test.YtkfioaoooodmnaaPartJ
namespace Go.Proofs.Ytkfioaoooodmnaa
open Go Go.RowKit

theorem intsU_set (D : List Nat) (i x : Nat) : (intsU D).set i (x : Int) = intsU (D.set i x) := by simp [intsU, List.map_set]
set_option maxHeartbeats 2000000 in
set_option maxRecDepth 100000 in
theorem next_calls {w : World} {g cap : Nat} {J : List Nat} (h : RowG 3 g cap (intsU J) w) (n : Nat) (hn : J.length = n) (k : Nat) (hk : k ≤ 64) (hn64 : n ≤ 64) :
    Calls Try.prog 15 #[.slice (some ⟨g, 0, none⟩) n cap, .int .i64 (k : Int)] w fun e w' => ∃ (K : List Nat) (b : Bool), e = .returned (.bool b) ∧ RowG 3 g cap (intsU K) w' ∧ K.length = n ∧ Mv g w w' ∧ (b = true → nextN k n J = some K) ∧ (b = false → nextN k n J = none) := by
  have H := Lib.hid h
  have HN := Lib.hid hn
  have t1 : (n : Int) ≤ 64 := by omega
  have k1 : (k : Int) ≤ 64 := by omega
  have hw0 : IntKind.i64.wrap ((n : Int) - 1) = (n : Int) - 1 := by rw [IntWalk.i64_in _ (by omega)]
  clear h hn hk hn64
  go_enter Try.func15, Try.ntmps15
  go_wp2_with fail
  clear hw0
  go_loopw [5] (fun v5 wr => ∃ (r : Nat) (K : List Nat), v5 = .int .i64 ((r : Int) - 1) ∧ r ≤ n ∧ Hid (nextN k r K = nextN k n J) ∧ K.length = n ∧ RowG 3 g cap (intsU K) wr ∧ Mv g w wr) (fun v5 _ => (intOf v5 + 1).toNat)
  case atStart => exact ⟨n, J, rfl, Nat.le_refl _, rfl, HN.out, H.out, Mv.refl _ _⟩
  case round =>
    obtain ⟨r, K, rfl, hr, hK, hl, hR, hx⟩ := hrel
    have R := Lib.hid hR
    have X := Lib.hid hx
    have HL := Lib.hid hl
    clear hR hx hl
    rcases Nat.eq_zero_or_pos r with h0 | h0
    · subst h0
      have HF : Hid (nextN k n J = none) := by show _ = _; rw [← hK.out]; rfl
      clear hK
      go_wp2_with fail
      go_ret
      exact ⟨K, false, rfl, R.out, HL.out, X.out, fun h => (by cases h), fun _ => HF.out⟩
    · obtain ⟨i, rfl⟩ : ∃ i, r = i + 1 := ⟨r - 1, by omega⟩
      have LT : Hid (i + 1 ≤ n) := hr
      obtain ⟨x, hx⟩ : ∃ x, K.getD i 0 = x := ⟨_, rfl⟩
      obtain ⟨z, hz⟩ : ∃ z, k + i = z := ⟨_, rfl⟩
      have hwz : IntKind.i64.wrap ((k : Int) + i) = (z : Int) := by rw [IntWalk.i64_in _ (by omega)]; omega
      have hin : i < n := hr
      have ii : (i : Int) ≤ 63 := by omega
      have z1 : (z : Int) ≤ 128 := by omega
      have hc := R.out.cell (j := i) (by rw [intsU_length, HL.out]; exact hr)
      rw [intsU_get, hx] at hc
      have hf := R.out.free i
      have hwi : IntKind.i64.wrap ((i : Int) - 1) = (i : Int) - 1 := by rw [IntWalk.i64_in _ (by omega)]
      rw [show ((i + 1 : Nat) : Int) - 1 = (i : Int) by omega]
      have hK' := hK.out
      rw [nextN, hx, hz] at hK'
      clear hK hx hz hr h0
      by_cases hxz : x < z
      · have HF : Hid (nextN k n J = some (K.set i (x + 1))) := by show _ = _; rw [← hK', if_pos hxz]
        have hwx : IntKind.i64.wrap ((x : Int) + 1) = ((x + 1 : Nat) : Int) := by rw [IntWalk.i64_in _ (by omega)]; omega
        have R6 : Hid (RowG 3 g cap (intsU (K.set i (x + 1))) (wr.setCell ⟨g, i, none⟩ (.int .i64 ((x + 1 : Nat) : Int)))) := by
          have := R.out.set i ((x + 1 : Nat) : Int)
          rwa [intsU_set] at this
        have X6 : Hid (Mv g w (wr.setCell ⟨g, i, none⟩ (.int .i64 ((x + 1 : Nat) : Int)))) := X.out.trans (Mv.set g i _ _)
        have L6 : Hid ((K.set i (x + 1)).length = n) := by show _ = _; rw [List.length_set, HL.out]
        have ezx : ((x + 1 : Nat) : Int) = (x : Int) + 1 := by omega
        rw [ezx] at hwx R6 X6
        clear hK' ezx
        go_wp2_with fail
        go_ret
        exact ⟨_, true, rfl, R6.out, L6.out, X6.out, fun _ => HF.out, fun h => (by cases h)⟩
      · have HF : Hid (nextN k i (K.set i 0) = nextN k n J) := by show _ = _; rw [← hK', if_neg hxz]
        have R6 : Hid (RowG 3 g cap (intsU (K.set i 0)) (wr.setCell ⟨g, i, none⟩ (.int .i64 0))) := by
          have := R.out.set i ((0 : Nat) : Int)
          rwa [intsU_set] at this
        have X6 : Hid (Mv g w (wr.setCell ⟨g, i, none⟩ (.int .i64 0))) := X.out.trans (Mv.set g i _ _)
        have L6 : Hid ((K.set i 0).length = n) := by show _ = _; rw [List.length_set, HL.out]
        clear hK'
        go_wp2_with fail
        exact ⟨⟨i, _, rfl, Nat.le_of_lt LT.out, HF, L6.out, R6.out, X6.out⟩, by simp [intOf]⟩

/-- numbers in a block -/
def GotM (b : Nat) (G : List Nat) (w : World) : Prop := ∃ cur t, w.heap[b]? = some (.cells cur t (0, 0)) ∧ cur.toList = G.map fun x : Nat => Value.int .i64 (x : Int)
theorem GotM.lt {b : Nat} {G : List Nat} {w : World} (h : GotM b G w) : b < w.heap.size := by
  obtain ⟨cur, t, h1, -⟩ := h; exact (Array.getElem?_eq_some_iff.1 h1).1
theorem GotM.cell {b : Nat} {G : List Nat} {w : World} (h : GotM b G w) {i : Nat} (hi : i < G.length) : w.cell? ⟨b, i, none⟩ = some (.int .i64 ((G.getD i 0 : Nat) : Int)) := by
  obtain ⟨cur, t, h1, h2⟩ := h
  rw [cell_of_row w b i cur t (0, 0) h1, ← Array.getElem?_toList, h2, List.getElem?_map, List.getElem?_eq_getElem hi]
  simp [List.getD, hi]
theorem GotM.free {b : Nat} {G : List Nat} {w : World} (h : GotM b G w) (i : Nat) : w.frozen? ⟨b, i, none⟩ = false := by
  obtain ⟨cur, t, h1, h2⟩ := h
  simp [World.frozen?, h1]
theorem GotM.of {b : Nat} {G : List Nat} {w w' : World} (h : GotM b G w) (e : w'.heap[b]? = w.heap[b]?) : GotM b G w' := by
  obtain ⟨cur, t, h1, h2⟩ := h
  exact ⟨cur, t, by rw [e]; exact h1, h2⟩
theorem GotM.ext {b : Nat} {G : List Nat} {w w' : World} (h : GotM b G w) (x : Ext w w') : GotM b G w' := h.of (x.block b h.lt)
theorem GotM.mvo {b g : Nat} {G : List Nat} {w w' : World} (h : GotM b G w) (x : Mv g w w') (hn : b ≠ g) : GotM b G w' := h.of (x.oth b h.lt hn)
theorem GotM.set {b i x : Nat} {G : List Nat} {w : World} (h : GotM b G w) : GotM b (G.set i x) (w.setCell ⟨b, i, none⟩ (.int .i64 (x : Int))) := by
  obtain ⟨cur, t, h1, h2⟩ := h
  refine ⟨cur.setIfInBounds i (.int .i64 (x : Int)), t, by simp [World.setCell, Array.getElem?_modify, h1], ?_⟩
  rw [Array.toList_setIfInBounds, h2, List.map_set]
theorem got_alloc {w : World} {C : Array Value} {t : TypeId} {G : List Nat} (h : C.toList = G.map fun x : Nat => Value.int .i64 (x : Int)) : GotM w.heap.size G (w.alloc (.cells C t)) := ⟨C, t, heap_alloc_new w _, h⟩
theorem fac_pos : ∀ t, 1 ≤ fac t
  | 0 => Nat.le_refl _
  | t + 1 => by rw [fac]; exact Nat.mul_pos (fac_pos t) (by omega)
theorem bump_get (G : List Nat) (s i : Nat) : (bump G s).getD i 0 ≤ G.getD i 0 + 1 := by
  unfold bump
  by_cases h : s = i
  · subst h
    by_cases hs : s < G.length
    · simp [List.getD, hs]
    · simp [List.getD, Nat.not_lt.1 hs]
  · simp [List.getD, List.getElem?_set_ne h]
theorem cnt_step {G : List Nat} {q : Nat} (h : q < G.length) : ((G.take (q + 1)).filter (fun x => x != 0)).length = ((G.take q).filter (fun x => x != 0)).length + (if G.getD q 0 = 0 then 0 else 1) := by
  rw [List.take_succ_eq_append_getElem h, List.filter_append, List.length_append]
  have e : G.getD q 0 = G[q] := by simp [List.getD, h]
  rw [e]
  congr 1
  by_cases hz : G[q] = 0
  · simp [hz]
  · simp [hz]
theorem or64 : ∀ a : Fin 64, ∀ b : Fin 64, bits .or .i64 ((a.val : Nat) : Int) ((b.val : Nat) : Int) = ((a.val ||| b.val : Nat) : Int) := by decide +kernel
theorem fac_le : ∀ t, t ≤ 6 → fac t ≤ 720 := by
  intro t h
  have : t = 0 ∨ t = 1 ∨ t = 2 ∨ t = 3 ∨ t = 4 ∨ t = 5 ∨ t = 6 := by omega
  rcases this with rfl | rfl | rfl | rfl | rfl | rfl | rfl <;> decide
theorem fac_mono {i t : Nat} (h : i ≤ t) : fac i ≤ fac t := by
  induction h with
  | refl => exact Nat.le_refl _
  | step _ ih => exact Nat.le_trans ih (by rw [fac]; exact Nat.le_mul_of_pos_right _ (by omega))

set_option maxHeartbeats 4000000 in
set_option maxRecDepth 100000 in
theorem poolEven_main (w : World) (k n m s : Nat) (hk : k < 256) (hn : n < 256) (hm : n % 7 = m) (hs : k % (m + 1) = s) :
    Calls Try.prog 4 #[.int .u8 (k : Int), .int .u8 (n : Int)] w (Yes w) := by
  have k1 : (k : Int) ≤ 255 := by omega
  have n1 : (n : Int) ≤ 255 := by omega
  have hm1 : (n : Int) % 7 = (m : Int) := by omega
  have m6 : m ≤ 6 := by omega
  have hsm : s ≤ m := by have := Nat.mod_lt k (show 0 < m + 1 by omega); omega
  obtain ⟨p, hp⟩ : ∃ p, m + 1 = p := ⟨_, rfl⟩
  have hwp : IntKind.i64.wrap ((m : Int) + 1) = (p : Int) := by rw [IntWalk.i64_in _ (by omega)]; omega
  have hs1 : (k : Int) % (p : Int) = (s : Int) := by rw [← hp, ← hs]; exact (Int.natCast_emod k (m + 1)).symm
  have p1 : (1 : Int) ≤ p := by omega
  have p2 : (p : Int) ≤ 7 := by omega
  have m1 : (m : Int) ≤ 6 := by omega
  have s1 : (s : Int) ≤ m := by omega
  obtain ⟨t, ht⟩ : ∃ t, m - s = t := ⟨_, rfl⟩
  have hwt : IntKind.i64.wrap ((m : Int) - s) = (t : Int) := by rw [IntWalk.i64_in _ (by omega)]; omega
  have tt : (t : Int) ≤ 6 := by omega
  have T6 : Hid (t ≤ 6) := by show t ≤ 6; omega
  have M6 := Lib.hid m6
  have SM := Lib.hid hsm
  have ST : Hid (s + t = m) := by show _ = _; omega
  have M64 : Hid (m ≤ 64) := by show m ≤ 64; omega
  have S64 : Hid (s ≤ 64) := by show s ≤ 64; omega
  have T64 : Hid (t ≤ 64) := by show t ≤ 64; omega
  have TL : Hid (t ≤ 100000) := by show t ≤ 100000; omega
  obtain ⟨GF, hGF, hall, hcnt, hlen⟩ := goodE_of (k := s) (n := m) (by omega) hsm
  rw [ht] at hGF hall
  have HGF := Lib.hid hGF
  have HALL := Lib.hid hall
  have HCNT := Lib.hid hcnt
  have HGL := Lib.hid hlen
  have HT : Hid (m - s = t) := ht
  clear hk hn hm hs hp hsm ht m6 hGF hall hcnt hlen
  go_enter Try.func4, Try.ntmps4
  go_wp2_with fail
  refine (awake13_calls _).mono ?_
  rintro e w1 ⟨rfl, x1⟩
  have X1 := Lib.hid x1
  clear x1
  go_wp2_with fail
  go_loopw [7, 8] (fun v7 v8 wr => ∃ i : Nat, v8 = .int .i64 ((i : Int) + 2) ∧ v7 = .int .i64 (fac (i + 1) : Nat) ∧ (i + 1 ≤ t ∨ i = 0) ∧ wr = w1) (fun _ v8 _ => 9 - (intOf v8).toNat)
  case atStart => exact ⟨0, rfl, rfl, .inr rfl, rfl⟩
  case round =>
    obtain ⟨i, rfl, rfl, hi, rfl⟩ := hrel
    obtain ⟨f, hf⟩ : ∃ f, fac (i + 1) = f := ⟨_, rfl⟩
    have HF := Lib.hid hf
    have T6' := T6.out
    rw [hf]
    by_cases hit : i + 2 ≤ t
    · have t2 : (i : Int) + 2 ≤ t := by omega
      have hi6 : (i : Int) ≤ 4 := by omega
      have hf2 : fac (i + 2) = f * (i + 2) := by rw [fac, hf]
      have hfb : f * (i + 2) ≤ 720 := by rw [← hf2]; exact fac_le _ (by omega)
      have hfb1 : f ≤ 720 := Nat.le_trans (Nat.le_mul_of_pos_right _ (by omega)) hfb
      have hwf : IntKind.i64.wrap ((f : Int) * ((i : Int) + 2)) = ((fac (i + 2) : Nat) : Int) := by
        rw [hf2]
        have e : (f : Int) * ((i : Int) + 2) = ((f * (i + 2) : Nat) : Int) := by simp
        rw [e, IntWalk.i64_in _ (by omega)]
      have hwi : IntKind.i64.wrap ((i : Int) + 2 + 1) = ((i + 1 : Nat) : Int) + 2 := by rw [IntWalk.i64_in _ (by omega)]; omega
      have LT := Lib.hid hit
      clear hi hf hf2 hfb hit T6'
      go_wp2_with fail
      exact ⟨⟨i + 1, by first | rfl | go_num, rfl, .inl LT.out, by first | trivial | rfl⟩, by simp [intOf]; omega⟩
    · have t2 : (t : Int) + 1 ≤ (i : Int) + 2 := by omega
      have HFT : Hid (f = fac t) := by
        show _ = _
        rw [← hf]
        rcases hi with h | h
        · rw [show i + 1 = t by omega]
        · subst h
          have : t = 0 ∨ t = 1 := by omega
          rcases this with h | h <;> rw [h] <;> rfl
      have hfb1 : f ≤ 720 := by rw [HFT.out]; exact fac_le _ T6'
      have f1 : (f : Int) ≤ 720 := by omega
      clear hi hf hit T6' hfb1
      go_wp2_with (at_make; refine make_ints rfl _ _ 22 3 Try.underlying22 info_int rfl t _ rfl rfl rfl TL.out ?_; intro w2 hown hgrow; have X2 : Hid (Ext w w2) := X1.out.grown hgrow (fun k hk => by cases hk); have R2 : Hid (RowG 3 wr.heap.size t (List.replicate t 0) w2) := RowG.made hown (by simp); clear hown hgrow)
      obtain ⟨g, hg⟩ : ∃ g, wr.heap.size = g := ⟨_, rfl⟩
      have HG : Hid (w.heap.size ≤ g) := by show _ ≤ g; have := X1.out.size; omega
      rw [hg] at R2 ⊢
      obtain ⟨gb, hgb⟩ : ∃ gb, w2.heap.size = gb := ⟨_, rfl⟩
      have GL : Hid (g < gb) := by show g < gb; rw [← hgb]; exact R2.out.lt
      have HGB : Hid (w.heap.size ≤ gb) := by show _ ≤ gb; have := GL.out; have := HG.out; omega
      have HDE : decide ((i : Int) + 2 ≤ (t : Int)) = false := by rw [decide_eq_false_iff_not]; omega
      have HIU : Hid (intsU (List.replicate t 0) = List.replicate t 0) := by show _ = _; simp [intsU]
      simp only [HDE]
      rw [hgb]
      go_loopg [13] 1000 (fun gk v13 wr => ∃ J G : List Nat, Hid (runE s m gk J G = some GF) ∧ Hid (G.length = 64 ∧ ∀ i, G.getD i 0 + gk ≤ 1000) ∧ RowG 3 g t (intsU J) wr ∧ J.length = t ∧ GotM gb G wr ∧ Ext w wr)
      case atStart =>
        refine ⟨List.replicate t 0, List.replicate 64 0, HGF.out, ⟨by simp, fun i => ?_⟩, ?_, by simp, ?_, X2.out.alloc _⟩
        · have : (List.replicate 64 0).getD i 0 = 0 := by
            simp only [List.getD, List.getElem?_replicate]
            split <;> rfl
          omega
        · rw [HIU.out]; exact R2.out.ext ((Ext.refl _).alloc _)
        · rw [← hgb]; exact got_alloc rfl
      case round =>
        clear R2 X2 HGF X1
        rename World => w3
        obtain ⟨J, G, hrun, hG, hR, hJl, hGm, hx⟩ := hrel
        have R := Lib.hid hR
        have X := Lib.hid hx
        have GM := Lib.hid hGm
        have JL := Lib.hid hJl
        clear hR hx hGm hJl
        have hne : gk ≠ 0 := by
          intro e
          have := hrun.out
          rw [e] at this
          cases this
        obtain ⟨u, hu⟩ : ∃ u, gk = u + 1 := ⟨gk - 1, by omega⟩
        have hrun' := hrun.out
        rw [hu] at hrun'
        obtain ⟨hok, hjl, hstep⟩ := runE_step hrun'
        have OKJ := Lib.hid hok
        have STEP := Lib.hid hstep
        have HG64 := Lib.hid hG.out.1
        have HGB1 : Hid (∀ i, G.getD i 0 + u + 1 ≤ 1000) := fun i => by have := hG.out.2 i; omega
        have HU := Lib.hid hu
        have JLU : Hid ((intsU J).length = m - s) := by show _ = _; rw [intsU_length]; exact hjl
        have IJ : Hid (Ints w3 (.slice (some ⟨g, 0, none⟩) t t) (intsU J)) := by have := R.out.ownI.ints; rwa [intsU_length, JL.out] at this
        obtain ⟨L, hL⟩ : ∃ L, poolF s (intsU J) = L := ⟨_, rfl⟩
        have HL := Lib.hid hL
        have LL : Hid (L.length = s) := by show _ = _; rw [← hL, poolF_length]
        have LIN : Hid (∀ i, i < s → 0 ≤ L.getD i 0 ∧ L.getD i 0 < (m : Int)) := fun i hi => by
          have := poolF_in s (intsU J) hi
          rw [hL, intsU_length, JL.out, ST.out] at this
          exact this
        clear hrun hrun' hok hjl hstep hu hne hL hG
        go_wp2_with fail
        refine (plrow_ok IJ.out s m SM.out M64.out JLU.out OKJ.out).mono ?_
        rintro e w4 ⟨g4, gc4, rfl, hg4, hr4, x4⟩
        rw [HL.out] at hr4
        have R4 := Lib.hid hr4.1
        have X4 := Lib.hid (X.out.trans x4)
        have RJ4 := Lib.hid (R.out.ext x4)
        have GM4 := Lib.hid (GM.out.ext x4)
        clear hr4 x4 hg4 X R GM IJ
        go_wp2_with fail
        go_loopw [13, 14] (fun v13 v14 wr => ∃ (i sv : Nat), v14 = .int .i64 (i : Int) ∧ i ≤ s ∧ v13 = .int .i64 (sv : Int) ∧ Hid (sv = ((L.map Int.toNat).take i).foldl (fun s x => s ||| 1 <<< x) 0 ∧ sv < 64) ∧ Ext w4 wr) (fun _ v14 _ => s - (intOf v14).toNat)
        case atStart => exact ⟨0, 0, rfl, Nat.zero_le _, rfl, ⟨rfl, by decide⟩, Ext.refl _⟩
        case round =>
          obtain ⟨i, sv, rfl, hi, rfl, hsv, hx⟩ := hrel
          have X5 := Lib.hid hx
          clear hx
          by_cases his : i < s
          · obtain ⟨x, hx⟩ : ∃ x, L.getD i 0 = x := ⟨_, rfl⟩
            obtain ⟨hx0, hxm⟩ := LIN.out i his
            rw [hx] at hx0 hxm
            obtain ⟨d, rfl⟩ : ∃ d : Nat, x = (d : Int) := ⟨x.toNat, by omega⟩
            have cx := (R4.out.ext X5.out).cell (j := i) (by rw [LL.out]; exact his)
            rw [hx] at cx
            have hd6 : d < 6 := by have := M6.out; omega
            obtain ⟨P, hP⟩ : ∃ P : Nat, 2 ^ d = P := ⟨_, rfl⟩
            have hP32 : P ≤ 32 := by rw [← hP]; exact Nat.le_trans (Nat.pow_le_pow_right (by decide) (show d ≤ 5 by omega)) (by decide)
            have hpi : (2 : Int) ^ d = (P : Int) := by rw [← hP]; simp
            have hwP : IntKind.i64.wrap ((2 : Int) ^ d) = (P : Int) := by rw [hpi, IntWalk.i64_in _ (by omega)]
            have hwP2 : IntKind.i64.wrap (P : Int) = (P : Int) := by rw [IntWalk.i64_in _ (by omega)]
            have hor : bits .or .i64 (sv : Int) (P : Int) = ((sv ||| P : Nat) : Int) := or64 ⟨sv, hsv.out.2⟩ ⟨P, by omega⟩
            obtain ⟨S2, hS2⟩ : ∃ S2, sv ||| P = S2 := ⟨_, rfl⟩
            rw [hS2] at hor
            have d5 : (d : Int) ≤ 5 := by omega
            have HS2 : Hid (S2 = ((L.map Int.toNat).take (i + 1)).foldl (fun s x => s ||| 1 <<< x) 0 ∧ S2 < 64) := by
              have hlt : i < (L.map Int.toNat).length := by rw [List.length_map, LL.out]; exact his
              have e1 : (L.map Int.toNat)[i]'hlt = d := by
                rw [List.getElem_map]
                have : L[i]'(by rw [LL.out]; exact his) = (d : Int) := by rw [← hx, getD_in]
                rw [this, Int.toNat_natCast]
              refine ⟨?_, ?_⟩
              · rw [List.take_succ_eq_append_getElem hlt, List.foldl_append, e1, ← hsv.out.1, ← hS2, ← hP]
                simp [Nat.one_shiftLeft]
              · rw [← hS2]
                have := Nat.or_lt_two_pow (n := 6) (show sv < 2 ^ 6 from hsv.out.2) (show P < 2 ^ 6 by omega)
                exact this
            have e1 : decide ((m : Int) ≤ (d : Int)) = false := by rw [decide_eq_false_iff_not]; omega
            have e2 : ¬ (m : Int) ≤ (d : Int) := by omega
            have LT := Lib.hid his
            clear hx hx0 hxm hP hpi hS2 hsv his hi
            go_wp2_with fail
            exact ⟨⟨i + 1, S2, by first | rfl | go_num, LT.out, rfl, HS2.out, X5.out⟩, by simp [intOf]; have := LT.out; omega⟩
          · have e : i = s := by omega
            subst e
            have HSV : Hid (sv = setN (poolToN i J J.length) ∧ sv < 64) := by
              refine ⟨?_, hsv.out.2⟩
              have h1 := hsv.out.1
              rw [List.take_of_length_le (by rw [List.length_map, LL.out]; exact Nat.le_refl _)] at h1
              rw [h1, ← setN_pool, HL.out]
              rfl
            have GM5 := Lib.hid (GM4.out.ext X5.out)
            have RJ5 := Lib.hid (RJ4.out.ext X5.out)
            have X6 := Lib.hid (X4.out.trans X5.out)
            have hcg := GM5.out.cell (i := sv) (by rw [HG64.out]; exact HSV.out.2)
            have hfg := GM5.out.free sv
            obtain ⟨y, hy⟩ : ∃ y, G.getD sv 0 = y := ⟨_, rfl⟩
            have hyb : y + u + 1 ≤ 1000 := by rw [← hy]; exact HGB1.out sv
            rw [hy] at hcg
            have hwy : IntKind.i64.wrap ((y : Int) + 1) = (y : Int) + 1 := by rw [IntWalk.i64_in _ (by omega)]
            have hsv64 : sv < 64 := HSV.out.2
            have sv63 : (sv : Int) ≤ 63 := by omega
            have GM7 : Hid (GotM gb (bump G sv) (wr.setCell ⟨gb, sv, none⟩ (.int .i64 ((y : Int) + 1)))) := by
              have := GM5.out.set (i := sv) (x := y + 1)
              rw [show ((y + 1 : Nat) : Int) = (y : Int) + 1 by omega] at this
              show GotM _ _ _
              unfold bump
              rw [hy]; exact this
            have RJ7 : Hid (RowG 3 g t (intsU J) (wr.setCell ⟨gb, sv, none⟩ (.int .i64 ((y : Int) + 1)))) := RJ5.out.mvo (Mv.set gb sv _ _) (by have := GL.out; omega)
            have X7 : Hid (Ext w (wr.setCell ⟨gb, sv, none⟩ (.int .i64 ((y : Int) + 1)))) := X6.out.setCell (p := ⟨gb, sv, none⟩) HGB.out _
            have BL : Hid ((bump G sv).length = 64) := by show _ = _; unfold bump; rw [List.length_set]; exact HG64.out
            have BB : Hid (∀ i, (bump G sv).getD i 0 + u ≤ 1000) := fun i => by have := bump_get G sv i; have := HGB1.out i; omega
            clear hy hyb hsv his hi
            go_wp2_with fail
            refine (next_calls RJ7.out t JL.out i S64.out T64.out).mono ?_
            rintro e w8 ⟨K, b, rfl, r8, k8, m8, y8, n8⟩
            have GM8 := Lib.hid (GM7.out.mvo m8 (by have := GL.out; omega))
            have RK8 := Lib.hid r8
            have KL := Lib.hid k8
            have X8 := Lib.hid (m8.ext X7.out HG.out)
            have HY := Lib.hid y8
            have HN := Lib.hid n8
            clear r8 k8 m8 y8 n8
            cases b with
            | true =>
              have HK := HY.out rfl
              have HRUN : Hid (runE i m u K (bump G sv) = some GF) := by
                rcases STEP.out with ⟨h1, -⟩ | ⟨K2, h1, h2⟩
                · rw [JL.out, HK] at h1; cases h1
                · rw [JL.out, HK] at h1
                  injection h1 with h1
                  subst h1
                  rw [← HSV.out.1] at h2
                  exact h2
              clear HK
              go_wp2_with fail
              go_roundg u
              case rel => exact ⟨K, bump G sv, HRUN.out, ⟨BL.out, BB.out⟩, RK8.out, KL.out, GM8.out, X8.out⟩
              case measure => have := HU.out; omega
            | false =>
              have HK := HN.out rfl
              have HFIN : Hid (bump G sv = GF) := by
                rcases STEP.out with ⟨-, h2⟩ | ⟨K2, h1, h2⟩
                · rw [← HSV.out.1] at h2; exact h2.symm
                · rw [JL.out, HK] at h1; cases h1
              have GM9 : Hid (GotM gb GF w8) := by have := GM8.out; rwa [HFIN.out] at this
              clear HK
              go_wp2_with fail
              have F1 : Hid (1 ≤ f) := by show 1 ≤ f; rw [HFT.out]; exact fac_pos t
              go_loopw [15, 16] (fun v15 v16 wr => ∃ (q c : Nat), v16 = .int .i64 (q : Int) ∧ q ≤ 64 ∧ v15 = .int .i64 (c : Int) ∧ Hid (c = ((GF.take q).filter (fun x => x != 0)).length ∧ c ≤ q) ∧ wr = w8) (fun _ v16 _ => 64 - (intOf v16).toNat)
              case atStart => exact ⟨0, 0, rfl, Nat.zero_le _, rfl, ⟨rfl, Nat.le_refl _⟩, rfl⟩
              case round =>
                obtain ⟨q, c, rfl, hq, rfl, hc, rfl⟩ := hrel
                have HC := Lib.hid hc.out
                by_cases hq64 : q < 64
                · obtain ⟨x, hx⟩ : ∃ x, GF.getD q 0 = x := ⟨_, rfl⟩
                  have hcx := GM9.out.cell (i := q) (by rw [HGL.out]; exact hq64)
                  rw [hx] at hcx
                  have hst := cnt_step (G := GF) (q := q) (by rw [HGL.out]; exact hq64)
                  rw [hx] at hst
                  have hal := HALL.out q
                  rw [hx, ← HFT.out] at hal
                  have q63 : (q : Int) ≤ 63 := by omega
                  have c63 : (c : Int) ≤ 63 := by have := HC.out.2; omega
                  have LT := Lib.hid hq64
                  by_cases hx0 : x = 0
                  · have HC2 : Hid (c = ((GF.take (q + 1)).filter (fun x => x != 0)).length ∧ c ≤ q + 1) := by
                      refine ⟨?_, by have := HC.out.2; omega⟩
                      rw [hst, hx0, ← HC.out.1]; rfl
                    subst hx0
                    clear hx hst hal hc hq hq64
                    go_wp2_with fail
                    exact ⟨⟨q + 1, c, by first | rfl | go_num, LT.out, rfl, HC2.out, by first | trivial | rfl⟩, by simp [intOf]; have := LT.out; omega⟩
                  · have hxf : x = f := by rcases hal with h | h; exact absurd h hx0; exact h
                    have HC2 : Hid (c + 1 = ((GF.take (q + 1)).filter (fun x => x != 0)).length ∧ c + 1 ≤ q + 1) := by
                      refine ⟨?_, by have := HC.out.2; omega⟩
                      rw [hst, if_neg hx0, ← HC.out.1]
                    subst hxf
                    have f0 : ((x : Int) == 0) = false := by rw [beq_eq_false_iff_ne]; omega
                    have f2 : ¬ (x : Int) = 0 := by omega
                    clear hx hst hal hc hq hq64 hx0
                    go_wp2_with fail
                    exact ⟨⟨q + 1, c + 1, by first | rfl | go_num, LT.out, by first | rfl | go_num, HC2.out, by first | trivial | rfl⟩, by simp [intOf]; have := LT.out; omega⟩
                · have e64 : q = 64 := by omega
                  subst e64
                  have HB : Hid (bin m i = c) := by
                    show _ = _
                    rw [← HCNT.out, HC.out.1, List.take_of_length_le (by rw [HGL.out]; exact Nat.le_refl _)]
                  have CB : Hid (c < Bs) := by have := HC.out.2; show c < Bs; rw [Bs_def]; omega
                  have c64 : (c : Int) ≤ 64 := by have := HC.out.2; omega
                  clear hc hq hq64
                  go_wp2_with fail
                  refine (choose_n _ i m c SM.out M64.out HB.out).mono ?_
                  rintro e wa ⟨ra, rfl, oa, xa⟩
                  have OA := Lib.hid oa
                  have XA := Lib.hid (X8.out.trans xa)
                  clear oa xa
                  go_wp2_with fail
                  refine (nof_n _ c CB.out).mono ?_
                  rintro e wb ⟨rb, rfl, ob, xb⟩
                  have OB := Lib.hid ob
                  have OA2 := Lib.hid (OA.out.ext xb)
                  have XB := Lib.hid (XA.out.trans xb)
                  clear ob xb
                  go_wp2_with fail
                  refine (same_bool OA2.out.limbs OB.out.limbs true (by simp)).mono ?_
                  rintro e wc ⟨rfl, xc⟩
                  have XC := Lib.hid (XB.out.trans xc)
                  clear xc
                  go_wp2_with fail
                  go_ret
                  exact ⟨rfl, XC.out⟩

theorem poolEven_calls (w : World) (k n : Nat) (hk : k < 256) (hn : n < 256) :
    Calls Try.prog 4 #[.int .u8 (k : Int), .int .u8 (n : Int)] w (Yes w) := poolEven_main w k n _ _ hk hn rfl rfl
end Go.Proofs.Ytkfioaoooodmnaa
