/- The contract of tombolaref13.Choose: row by row of the triangle. -/
import Derived.Deep.RegionLaw
import Derived.Deep.AppendLies
import Derived.Test.YtkfioaoooodmnaaGreatRefPlCost
namespace Go.Proofs.YtkfioaoooodmnaaGreat
open Go Go.RowKit

/-- a row of naturals in memory of the call's own: its block from base on, each natural from B on -/
def NatL (B base : Nat) (w : World) (v : Value) (L : List Nat) : Prop :=
  ∃ C : List Value, w.ownsRow base 23 1 v L.length C ∧ ∀ i, i < L.length → ∃ p n c, C[i]? = some (.slice p n c) ∧ OwnL B w (.slice p n c) (dig (L.getD i 0))
theorem NatL.ext {B base : Nat} {w w' : World} {v : Value} {L : List Nat} (h : NatL B base w v L) (x : Ext w w') : NatL B base w' v L := by
  obtain ⟨C, h1, h2⟩ := h
  refine ⟨C, ownsRow_ext' h1 x, fun i hi => ?_⟩
  obtain ⟨p, n, c, q1, q2⟩ := h2 i hi
  exact ⟨p, n, c, q1, q2.ext x⟩
theorem NatL.mono {B base base' : Nat} {w : World} {v : Value} {L : List Nat} (h : NatL B base w v L) (k : base' ≤ base) : NatL B base' w v L := by
  obtain ⟨C, ⟨h0, h1⟩, h2⟩ := h
  refine ⟨C, ⟨h0, ?_⟩, h2⟩
  rcases h1 with h1 | ⟨g, cap, cur, e, hg, rest⟩
  · exact .inl h1
  · exact .inr ⟨g, cap, cur, e, Nat.le_trans k hg, rest⟩
theorem NatL.open {B base : Nat} {w : World} {v : Value} {L : List Nat} (h : NatL B base w v L) (h0 : 1 ≤ L.length) :
    ∃ g c, v = .slice (some ⟨g, 0, none⟩) L.length c ∧ g < w.heap.size ∧ ∀ i, i < L.length → ∃ p n c, w.cell? ⟨g, i, none⟩ = some (.slice p n c) ∧ OwnL B w (.slice p n c) (dig (L.getD i 0)) := by
  obtain ⟨C, h1, h2⟩ := h
  rcases id h1.2 with ⟨-, e⟩ | ⟨g, cap, cur, rfl, hg, hh, rest⟩
  · omega
  · refine ⟨g, cap, rfl, (Array.getElem?_eq_some_iff.1 hh).1, fun i hi => ?_⟩
    obtain ⟨p, n, c, q1, q2⟩ := h2 i hi
    exact ⟨p, n, c, by rw [h1.cellAt i (by omega), q1], q2⟩
theorem NatL.shape {B base : Nat} {w : World} {v : Value} {L : List Nat} (h : NatL B base w v L) : ∃ a c, v = .slice a L.length c := by
  obtain ⟨C, h1, h2⟩ := h
  rcases id h1.2 with ⟨e1, e⟩ | ⟨g, cap, cur, rfl, rest⟩
  · exact ⟨none, 0, by rw [e1, e]⟩
  · exact ⟨_, _, rfl⟩
/-- naturals stay where a row of another type grows -/
theorem OwnL.kept13 {B base : Nat} {w w' : World} {v u : Value} {A : List Nat} {t : TypeId} {n : Nat} {C : List Value} (h : OwnL B w v A) (ho : w.ownsRow base t 1 u n C) (ht : t ≠ 54) (hg : w.grownBy w' u.ownBlock) : OwnL B w' v A := by
  refine ⟨?_, h.2⟩
  rcases h.1 with ⟨h1, h2⟩ | ⟨a, e1, e2, e3, h4⟩
  · refine .inl ⟨h1, ?_⟩
    rcases h2 with h2 | ⟨g', cap, c', e, hg', hh, rest⟩
    · exact .inl h2
    · refine .inr ⟨g', cap, c', e, hg', ?_, rest⟩
      rw [hg.block g' (Array.getElem?_eq_some_iff.1 hh).1 (fun e => ?_)]
      · exact hh
      · rcases ho.2 with ⟨rfl, -⟩ | ⟨g, cap2, cur, rfl, -, hh2, -⟩
        · simp [Value.ownBlock] at e
        · simp [Value.ownBlock] at e
          subst e
          rw [hh2] at hh
          injection hh with hh
          injection hh with _ hh
          exact ht hh
  · exact .inr ⟨a, e1, e2, e3, fun p hp => ⟨(h4 p hp).1, Nat.lt_of_lt_of_le (h4 p hp).2 hg.size⟩⟩
theorem NatL.grow {B base : Nat} {w w' : World} {v v' : Value} {L : List Nat} {p : Option Addr} {n c x : Nat} {C : List Value} (h1 : w.ownsRow base 23 1 v L.length C) (h2 : ∀ i, i < L.length → ∃ p n c, C[i]? = some (.slice p n c) ∧ OwnL B w (.slice p n c) (dig (L.getD i 0)))
    (h3 : w'.ownsRow base 23 1 v' (L.length + 1) (C ++ [.slice p n c])) (hg : w.grownBy w' v.ownBlock) (hx : OwnL B w (.slice p n c) (dig x)) : NatL B base w' v' (L ++ [x]) := by
  have hC : C.length = L.length := by have := h1.1; omega
  refine ⟨C ++ [.slice p n c], by rw [List.length_append]; exact h3, fun i hi => ?_⟩
  rw [List.length_append, List.length_singleton] at hi
  by_cases e : i < L.length
  · obtain ⟨p', n', c', q1, q2⟩ := h2 i e
    refine ⟨p', n', c', by rw [List.getElem?_append_left (by omega)]; exact q1, ?_⟩
    rw [show (L ++ [x]).getD i 0 = L.getD i 0 by simp [List.getD, List.getElem?_append_left e]]
    exact q2.kept13 h1 (by decide) hg
  · obtain rfl : i = L.length := by omega
    refine ⟨p, n, c, by rw [List.getElem?_append_right (by omega), hC]; simp, ?_⟩
    rw [show (L ++ [x]).getD L.length 0 = x by simp [List.getD]]
    exact hx.kept13 h1 (by decide) hg
theorem sl_lit1 (w : World) (u : Value) (t : TypeId) : Sl 1 (w.alloc (.cells #[u] t)) (.slice (some ⟨w.heap.size, 0, none⟩) 1 1) 1 [u] := by
  refine ⟨by simp, _, _, rfl, Nat.le_refl _, by unfold maxLen; omega, fun e => (by cases e), fun p hp _ => ?_⟩
  obtain rfl := Option.some.inj hp
  refine ⟨rfl, by simp, fun j hj => ?_⟩
  obtain rfl : j = 0 := by simp at hj; omega
  rw [cell_of_row _ w.heap.size _ #[u] t (0, 0) (heap_alloc_new w _)]
  rfl
/-- 'append' of a natural to such a row -/
theorem append_nat1 {w w0 : World} {ops : Array Oper} {rest : List Oper} {o : Oper} {a : Act} {Q : Exit → Act → World → Prop} (hgd : o.guard = none) (s x : Operand) (t : TypeId)
    (ht : Tryz.prog.underlying t = some (.slice 23)) (ho : o.op = .call { callee := .builtin .append, args := #[s, x], argTypes := #[t, t] })
    {B base y n c : Nat} {v u : Value} {L : List Nat} {p : Option Addr} (hL : NatL B base w0 v L) (hbase : base ≤ w0.heap.size) (hy : OwnL B w0 (.slice p n c) (dig y)) (hw : w = w0.alloc (.cells #[.slice p n c] 23)) (hu : u = .slice (some ⟨w0.heap.size, 0, none⟩) 1 1) (hlen : L.length ≤ 1000)
    (hs : a.eval s = v) (hx : a.eval x = u)
    (h : ∀ v' w', NatL B base w' v' (L ++ [y]) → (∀ X, Ext X w0 → X.heap.size ≤ base → Ext X w') → wpList Tryz.prog ops Q rest (a.put o.dst v') w') : wpList Tryz.prog ops Q (o :: rest) a w := by
  subst hw hu
  have X := (Ext.refl w0).alloc (.cells #[.slice p n c] 23)
  obtain ⟨C, h1, h2⟩ := hL.ext X
  refine wpList_append_sl hgd s x t ho base 23 (.slice none 0 0) 1 24 ht info_nat rfl (by decide) v L.length C hs h1 _ 1 [.slice p n c] hx (sl_lit1 _ _ _) (by intro u hu; simp at hu; subst hu; rfl) (by unfold maxLen; omega) (by omega) (Nat.le_trans hbase X.size) fun v' w' h3 hg => ?_
  exact h v' w' (NatL.grow h1 h2 h3 hg (hy.ext X)) fun Y hY hb => (hY.trans X).grown hg fun k hk => Nat.le_trans hb (h1.lt k hk).1
/-- the same at a step of a region that draws its order -/
theorem step_append_nat {w w0 : World} {ops : Array Oper} {o : Oper} {a : Act} {K : Act → World → Prop} {Q : Exit → Act → World → Prop} {E : Prop} (hgd : o.guard = none) (s x : Operand) (t : TypeId)
    (ht : Tryz.prog.underlying t = some (.slice 23)) (ho : o.op = .call { callee := .builtin .append, args := #[s, x], argTypes := #[t, t] })
    {B base y n c : Nat} {v : Value} {L : List Nat} {p : Option Addr} (hL : NatL B base w0 v L) (hbase : base ≤ w0.heap.size) (hy : OwnL B w0 (.slice p n c) (dig y)) (hw : w = w0.alloc (.cells #[.slice p n c] 23)) (hlen : L.length ≤ 1000)
    (hs : a.eval s = v) (hx : a.eval x = .slice (some ⟨w0.heap.size, 0, none⟩) 1 1)
    (h : ∀ g c w', NatL B base w' (.slice (some ⟨g, 0, none⟩) (L.length + 1) c) (L ++ [y]) → (∀ X, Ext X w0 → X.heap.size ≤ base → Ext X w') → K (a.put o.dst (.slice (some ⟨g, 0, none⟩) (L.length + 1) c)) w') :
    if Region.wanted o (yielded ops a.tmps) = true then Oper.wp Tryz.prog o a w K Q else E := by
  subst hw
  have X := (Ext.refl w0).alloc (.cells #[.slice p n c] 23)
  obtain ⟨C, h1, h2⟩ := hL.ext X
  obtain ⟨i, hi, hz, hsize, hby⟩ := info_parts info_nat
  refine step_append_lies _ hgd s x t ho base 23 i (.slice none 0 0) 1 24 ht hi hz hsize hby rfl (by decide) v L.length C hs h1 ⟨w0.heap.size, 0, none⟩ 1 1 [.slice p n c] hx rfl ?_ (by intro u hu; simp at hu; subst hu; rfl) (by decide) (by unfold maxLen; omega) (by omega) (Nat.le_trans hbase X.size) _ rfl fun g cap w' h3 hg _ _ => ?_
  · exact World.news_of_block (heap_alloc_new w0 _)
  · exact h g cap w' (NatL.grow h1 h2 h3 hg (hy.ext X)) fun Y hY hb => (hY.trans X).grown hg fun k hk => Nat.le_trans hb (h1.lt k hk).1
theorem own_one {B : Nat} {w : World} (hB : B ≤ w.heap.size) : OwnL B (w.alloc (.cells #[.int .u64 1] 54)) (.slice (some ⟨w.heap.size, 0, none⟩) 1 1) (dig 1) := by
  rw [dig_one one_lt_Bs (by decide)]
  exact (own_lit w [1] (fun x hx => by simp at hx; subst hx; exact one_lt_Bs) #[.int .u64 1] rfl 1 rfl (by rw [Lmax_def]; decide)).mono hB
/-- the row of one natural 1 -/
theorem natL_one {B base : Nat} {w : World} (hB : B ≤ w.heap.size) (hb : base ≤ w.heap.size + 1) :
    NatL B base ((w.alloc (.cells #[.int .u64 1] 54)).alloc (.cells #[.slice (some ⟨w.heap.size, 0, none⟩) 1 1] 23)) (.slice (some ⟨w.heap.size + 1, 0, none⟩) 1 1) [1] := by
  refine ⟨[.slice (some ⟨w.heap.size, 0, none⟩) 1 1], ⟨rfl, .inr ⟨w.heap.size + 1, 1, #[.slice (some ⟨w.heap.size, 0, none⟩) 1 1], rfl, hb, ?_, Nat.le_refl _, by unfold maxLen; omega, rfl, rfl⟩⟩, fun i hi => ?_⟩
  · have := heap_alloc_new (w.alloc (.cells #[.int .u64 1] 54)) (.cells #[.slice (some ⟨w.heap.size, 0, none⟩) 1 1] 23)
    simpa using this
  · obtain rfl : i = 0 := by simp at hi; omega
    refine ⟨_, _, _, rfl, ?_⟩
    have h := (own_one (B := B) (w := w) hB).ext ((Ext.refl _).alloc (.cells #[.slice (some ⟨w.heap.size, 0, none⟩) 1 1] 23))
    exact h
/-- the first m choices out of r -/
def pas (r m : Nat) : List Nat := (List.range m).map (bin r)
theorem pas_length (r m : Nat) : (pas r m).length = m := by simp [pas]
theorem pas_get (r : Nat) {m i : Nat} (h : i < m) : (pas r m).getD i 0 = bin r i := by simp [pas, List.getD, h]
theorem pas_succ (r m : Nat) : pas r m ++ [bin r m] = pas r (m + 1) := by simp [pas, List.range_succ]
theorem pas_one (r : Nat) : pas r 1 = [1] := by simp [pas, List.range_succ, bin_zero]
theorem bin_inN {B : Nat} {w : World} {v : Value} {r j : Nat} (h : OwnL B w v (dig (bin r j))) (hr : r ≤ 64) : InN w v 2 (bin r j) := ⟨_, h.limbs, val_dig _, bin_len hr⟩

set_option maxHeartbeats 1600000 in
set_option maxRecDepth 100000 in
theorem rchoose_ok (w : World) (k n : Nat) (hkn : k ≤ n) (hn : n ≤ 64) :
    Calls Tryz.prog 8 #[.int .i64 (k : Int), .int .i64 (n : Int)] w fun e w' => ∃ r, e = .returned (.tuple #[r, .int .i64 0]) ∧ OwnL w.heap.size w' r (dig (bin n k)) ∧ Ext w w' := by
  have t1 : (n : Int) ≤ 64 := by omega
  have t0 : (k : Int) ≤ n := by omega
  have N64 := Lib.hid hn
  have KN := Lib.hid hkn
  have MAY : Hid (decide (mayP (k : Int) (n : Int)) = true) := by show _ = _; rw [decide_eq_true_eq]; unfold mayP; omega
  clear hn hkn
  go_enter Tryz.func8, Tryz.ntmps8
  go_wp2_with fail
  refine (rmay13_calls _ _ _ true MAY.out).mono ?_
  rintro e w1 ⟨rfl, x1⟩
  have X1 : Hid (Ext w ((w1.alloc (.cells #[.int .u64 1] 54)).alloc (.cells #[.slice (some ⟨w1.heap.size, 0, none⟩) 1 1] 23))) := (x1.alloc _).alloc _
  have R1 : Hid (NatL w.heap.size w.heap.size ((w1.alloc (.cells #[.int .u64 1] 54)).alloc (.cells #[.slice (some ⟨w1.heap.size, 0, none⟩) 1 1] 23)) (.slice (some ⟨w1.heap.size + 1, 0, none⟩) 1 1) (pas 0 1)) := by
    rw [pas_one]; exact natL_one x1.size (Nat.le_succ_of_le x1.size)
  clear x1
  go_wp2_with fail
  go_loopw [6, 7] (fun v6 v7 wr => ∃ r : Nat, v7 = .int .i64 (r : Int) ∧ r ≤ n ∧ NatL w.heap.size w.heap.size wr v6 (pas r (r + 1)) ∧ Ext w wr) (fun _ v7 _ => n - (intOf v7).toNat)
  case atStart => exact ⟨0, rfl, Nat.zero_le _, R1.out, X1.out⟩
  case round =>
    clear R1 X1 MAY
    rename World => w5
    obtain ⟨r, rfl, hr, hR, hx⟩ := hrel
    have X5 := Lib.hid hx
    obtain ⟨g, gc, rfl, hg, hcells⟩ := hR.open (by rw [pas_length]; omega)
    have HG := Lib.hid hg
    rw [pas_length] at hcells ⊢
    have HCE := Lib.hid hcells
    clear hx hR hg hcells
    by_cases hrn : r < n
    · have LT := Lib.hid hrn
      have hr64 : (r : Int) ≤ 63 := by omega
      obtain ⟨d, hd⟩ : ∃ d, r + 1 = d := ⟨_, rfl⟩
      have HD := Lib.hid hd
      have R64 : Hid (r ≤ 64) := by have := N64.out; show r ≤ 64; omega
      have hd64 : (d : Int) ≤ 64 := by omega
      have X6 : Hid (Ext w5 ((w5.alloc (.cells #[.int .u64 1] 54)).alloc (.cells #[.slice (some ⟨w5.heap.size, 0, none⟩) 1 1] 23))) := ((Ext.refl _).alloc _).alloc _
      have R6 : Hid (NatL w.heap.size w5.heap.size ((w5.alloc (.cells #[.int .u64 1] 54)).alloc (.cells #[.slice (some ⟨w5.heap.size, 0, none⟩) 1 1] 23)) (.slice (some ⟨w5.heap.size + 1, 0, none⟩) 1 1) (pas d 1)) := by
        rw [pas_one]; exact natL_one X5.out.size (Nat.le_succ _)
      have hrni : (r : Int) < (n : Int) := by omega
      rw [hd]
      clear hr hd
      go_wp2_with fail
      go_loopw [8, 9] (fun v8 v9 wr => ∃ m : Nat, v9 = .int .i64 (m : Int) ∧ 1 ≤ m ∧ m ≤ d ∧ NatL w.heap.size w5.heap.size wr v8 (pas d m) ∧ Ext w5 wr) (fun _ v9 _ => d - (intOf v9).toNat)
      case atStart => exact ⟨1, rfl, Nat.le_refl _, by have := HD.out; omega, R6.out, X6.out⟩
      case round =>
        clear R6 X6
        rename World => w6
        obtain ⟨m, rfl, hm1, hmd, hR, hx⟩ := hrel
        have R := Lib.hid hR
        have X := Lib.hid hx
        obtain ⟨va, vc, rfl⟩ := hR.shape
        rw [pas_length] at R ⊢
        clear hR hx
        by_cases hm : m < d
        · obtain ⟨q, rfl⟩ : ∃ q, m = q + 1 := ⟨m - 1, by omega⟩
          have LM := Lib.hid hm
          have hrd := HD.out
          obtain ⟨p1, n1, c1, hc1, o1⟩ := HCE.out q (by omega)
          obtain ⟨p2, n2, c2, hc2, o2⟩ := HCE.out (q + 1) (by omega)
          rw [pas_get r (by omega)] at o1 o2
          have O1 := Lib.hid (o1.ext X.out)
          have O2 := Lib.hid (o2.ext X.out)
          have hd1 := (At.ext ⟨hc1, HG.out⟩ X.out).1
          have hd2 := (At.ext ⟨hc2, HG.out⟩ X.out).1
          have hq1 : q < d := by omega
          have hq2 : (q : Int) + 2 ≤ 64 := by omega
          have hwq : IntKind.i64.wrap ((q : Int) + 1 - 1) = (q : Int) := by rw [IntWalk.i64_in _ (by omega)]; omega
          have hwq2 : IntKind.i64.wrap (q : Int) = (q : Int) := by rw [IntWalk.i64_in _ (by omega)]
          have hwq3 : (q : Int) + 1 - 1 = q := by omega
          have HB : Hid (bin r q + bin r (q + 1) = bin d (q + 1)) := by show _ = _; rw [← HD.out, bin]
          have HLN : Hid ((pas d (q + 1)).length ≤ 1000) := by show _ ≤ 1000; rw [pas_length]; omega
          have S6 : Hid (w5.heap.size ≤ w6.heap.size) := X.out.size
          have hmi : (q : Int) + 1 < (d : Int) := by omega
          have hq4 : (0 : Int) ≤ (q : Int) + 1 := by omega
          have hq5 : (0 : Int) ≤ ((q + 1 : Nat) : Int) := by omega
          have hq6 : ((q : Int) + 1).toNat = q + 1 := by omega
          have hmj : ((q + 1 : Nat) : Int) < (d : Int) := by omega
          clear o1 o2 hc1 hc2 hm1 hmd hrd
          go_wp2_with fail
          have E0 : Hid (Ext w6 w6.drew) := (Ext.refl w6).drew
          have S0 : Hid (w.heap.size ≤ w6.drew.heap.size) := Nat.le_trans X5.out.size (Nat.le_trans X.out.size E0.out.size)
          go_region_law (first
            | (refine step_append_nat (y := bin r q + bin r (q + 1)) rfl _ _ 56 Tryz.underlying56 rfl R7.out S7.out O7.out rfl HLN.out (by simp [Act.eval]) (by simp [Act.eval]) ?_; intro g8 c8 w8 hown' hgrow; have HN2 := Lib.hid hown'; have HX2 := Lib.hid hgrow; clear hown' hgrow)
            | (go_simp; go_at_call 30; refine (nadd02 (bin_inN (O1.out.ext E0.out) R64.out) (bin_inN (O2.out.ext E0.out) R64.out) (by decide)).mono ?_; rintro e w7 ⟨u7, rfl, o7, x7⟩; obtain ⟨p7, n7, c7, rfl⟩ := o7.slice'; have X7 : Hid (Ext w6 w7) := E0.out.trans x7; have R7 := Lib.hid (R.out.ext X7.out); have O7 : Hid (OwnL w.heap.size w7 (.slice p7 n7 c7) (dig (bin r q + bin r (q + 1)))) := o7.mono S0.out; have S7 : Hid (w5.heap.size ≤ w7.heap.size) := Nat.le_trans X.out.size X7.out.size; clear o7 x7))
          all_goals
            have HN3 : Hid (NatL w.heap.size w5.heap.size w8 (.slice (some ⟨g8, 0, none⟩) ((pas d (q + 1)).length + 1) c8) (pas d (q + 1 + 1))) := by
              have h := HN2.out
              rw [HB.out, pas_succ] at h
              exact h
            have X8 := Lib.hid (HX2.out _ (X.out.trans X7.out) (Nat.le_refl _))
            clear HN2 HX2 X7 O7 R7 S7 X R E0 S0
            go_wp2_with fail
            exact ⟨⟨q + 1 + 1, by first | rfl | go_num, by omega, LM.out, HN3.out, X8.out⟩, by simp [intOf]; have := LM.out; omega⟩
        · obtain rfl : m = d := by omega
          have HLN : Hid ((pas m m).length ≤ 1000) := by show _ ≤ 1000; rw [pas_length]; omega
          have H1 := Lib.hid (own_one (B := w.heap.size) (w := w6) (Nat.le_trans X5.out.size X.out.size))
          have X7 : Hid (Ext w6 (w6.alloc (.cells #[.int .u64 1] 54))) := (Ext.refl _).alloc _
          have R7 := Lib.hid (R.out.ext X7.out)
          have HB7 : Hid (w5.heap.size ≤ (w6.alloc (.cells #[.int .u64 1] 54)).heap.size) := Nat.le_trans X.out.size X7.out.size
          have HS7 : Hid ((.slice (some ⟨w6.heap.size + 1, 0, none⟩) 1 1 : Value) = .slice (some ⟨(w6.alloc (.cells #[.int .u64 1] 54)).heap.size, 0, none⟩) 1 1) := by show _ = _; simp
          clear hm hmd hm1
          go_wp2_with (at_builtin; refine append_nat1 (y := 1) rfl _ _ 56 Tryz.underlying56 rfl R7.out HB7.out H1.out rfl HS7.out HLN.out rfl rfl ?_; intro v' w' hown' hgrow; have HN2 := Lib.hid hown'; have HX2 := Lib.hid hgrow; clear hown' hgrow)
          refine ⟨⟨r + 1, by first | rfl | (rw [HD.out]) | go_num, LT.out, ?_, HX2.out _ (X5.out.trans (X.out.trans X7.out)) X5.out.size⟩, by simp [intOf]; have := LT.out; omega⟩
          have h := (HN2.out).mono X5.out.size
          rw [show pas m m ++ [1] = pas (r + 1) (r + 1 + 1) by rw [← pas_succ, HD.out, bin_self]] at h
          exact h
    · obtain rfl : n = r := by omega
      obtain ⟨p1, n1, c1, hc1, o1⟩ := HCE.out k (by have := KN.out; omega)
      rw [pas_get n (by have := KN.out; omega)] at o1
      have O1 := Lib.hid o1
      have hkn1 : k < n + 1 := by have := KN.out; omega
      clear o1 hr hrn
      go_wp2_with fail
      go_ret2
      exact ⟨_, rfl, O1.out, X5.out⟩
end Go.Proofs.YtkfioaoooodmnaaGreat
