/- Contracts of package quo: guess, take, back. -/
import Derived.Test.YtomhfipgabpfiaaGreatDoorShift
import Derived.Test.YtomhfipgabpfiaaGreatDoorDiv1
import Derived.Lib.AppendZerosOnto
namespace Go.Proofs.YtomhfipgabpfiaaGreatDoor
open Go Go.RowKit

theorem loadCells_none (P : Program) (w : World) (a : Addr) : (loadCells a 0).run P w = .ok #[] w := by simp [loadCells, loadCellsFrom]

/-- 'append(s, make([]uint64, m)...)' to a slice of the call's own -/
theorem run_append_zeros {w : World} (base : Nat) (t tn ty : TypeId) (kq kn : IntKind) (ht : Tryz.prog.underlying t = some (.slice 46)) (htn : Tryz.prog.underlying tn = some (.int kn))
    (v : Value) (n : Nat) (xs : List Value) (hown : w.ownsRow base 46 1 v n xs) (hn0 : 0 < n) (m : Nat) (hlen : n + m ≤ Lmax) (hbase : base ≤ w.heap.size) :
    ∃ v' w', (Builtin.append_ #[t, tn] ty #[v, .int kq (m : Int)]).run Tryz.prog w = .ok v' w' ∧ w'.ownsRow base 46 1 v' (n + m) (xs ++ (List.replicate m 0).map lv) ∧ w.grownBy w' v.ownBlock := by
  obtain ⟨i, hi, hz, hsize, hby⟩ := info_parts info_u64
  have hl := lmax_le hlen
  rcases hown.2 with ⟨_, h0⟩ | ⟨g, cap, cur, rfl, hbg, hg, hnc, hcm, hcs, htake⟩
  · omega
  have hx := hown.1
  by_cases hm : m = 0
  · subst hm
    have hw : IntKind.i64.wrap 0 = 0 := by rw [IntKind.wrap_i64]; rfl
    refine ⟨.slice (some ⟨g, 0, none⟩) n cap, w, ?_, by simpa using hown, World.grownBy.refl _ _⟩
    simp [Builtin.append_, run_underlying ht, run_underlying htn, sizeOf, typeInfo, hi, asInt, asIntOf, hw, hnc, storeCells]
  rw [show (List.replicate m 0).map lv = List.replicate m (lv 0) from List.map_replicate]
  have hzc : ∀ k, (Builtin.zeroCells (Value.int IntKind.u64 0).cells k).toList = List.replicate k (lv 0) := by
    intro k
    apply List.ext_getElem
    · simp [Builtin.zeroCells, Value.cells]
    · intro j h1 h2
      simp [Builtin.zeroCells, Value.cells, lv, Nat.mod_one]
  have hxl : (xs ++ List.replicate m (lv 0)).length = (n + m) * 1 := by simp; omega
  by_cases hroom : n + m ≤ cap
  · have hfit : n + m ≤ cur.size := by omega
    have hst := run_storeCells_at Tryz.prog g n 46 (List.replicate m (lv 0)) 0 cur w hg (by simpa using hfit) (fun u hu => by rw [List.eq_of_mem_replicate hu]; rfl)
    simp only [Nat.add_zero] at hst
    obtain ⟨R, hR⟩ : ∃ R, R = (cur.toList.take n ++ List.replicate m (lv 0) ++ cur.toList.drop (n + (List.replicate m (lv 0)).length)).toArray := ⟨_, rfl⟩
    rw [← hR] at hst
    refine ⟨.slice (some ⟨g, 0, none⟩) (n + m) cap, w.setRow g R, ?_, ⟨hxl, .inr ⟨g, cap, _, rfl, hbg, setRow_heap w g cur R 46 (0, 0) hg, hroom, hcm, ?_, ?_⟩⟩, ⟨rfl, rfl, rfl, by simp, fun k _ hk => setRow_other w g k _ (fun e => hk (by simp [Value.ownBlock, e]))⟩⟩
    · have hw : IntKind.i64.wrap (m : Int) = m := by rw [IntKind.wrap_i64]; omega
      have hneg : ¬ ((m : Int) < 0) := by omega
      have h48i : ¬ (281474976710656 < (m : Int) * (i.bytes : Int)) := by rw [hby]; omega
      have hz' := hzc m
      simp [Builtin.append_, run_underlying ht, run_underlying htn, sizeOf, typeInfo, zeroValue, hi, hz, asInt, asIntOf, hw, hneg, h48i, hroom, hsize, hm, hz', Addr.add_lit, hst]
    · rw [hR]; simp; omega
    · rw [hR, ← htake]
      have : (List.take (n * 1) cur.toList ++ List.replicate m (lv 0)).length = (n + m) * 1 := by rw [htake]; exact hxl
      simp only [Nat.mul_one] at this ⊢
      rw [← this]; exact List.take_left
  · have hge := grownCap_ge w (n + m) cap 46
    have hgm : grownCap w (n + m) cap 46 ≤ maxLen := grownCap_le_maxLen w (n + m) cap 46 (by unfold maxLen; omega)
    have holds : ∀ j u, xs[j]? = some u → w.drew.cell? ((⟨g, 0, none⟩ : Addr).add j) = some u := fun j u hu => hown.cells (g := g) rfl j u hu
    have hr := Lib.run_append_grow_zeros (P := Tryz.prog) w t tn ty 46 i (.int .u64 0) kq kn ht htn hi hz (some ⟨g, 0, none⟩) n cap xs
      (by rw [hsize]; exact run_firstCells_some (P := Tryz.prog) w.drew 1 n ⟨g, 0, none⟩ n cap xs hx holds) m (by omega) (by omega) (by omega) (by omega) (by rw [hby]; omega)
      (growslice_fits (by omega) (by rw [hby]; omega))
    refine ⟨_, _, hr, ⟨hxl, .inr ⟨w.heap.size, _, _, rfl, hbase, heap_alloc_new w.drew _, hge, hgm, ?_, ?_⟩⟩, ⟨rfl, rfl, rfl, by simp, fun k hk _ => Below.heap_alloc w.drew _ k hk⟩⟩
    · simp only [Array.size_append, List.size_toArray, size_zeroCells, hx, show (Value.int IntKind.u64 0).cells.size = 1 from rfl]
      omega
    · simp only [Array.toList_append, hzc, List.append_assoc]
      rw [← List.append_assoc, ← hxl]
      exact List.take_left

theorem append_zeros {w : World} {ops : Array Oper} {rest : List Oper} {o : Oper} {a : Act} {Q : Exit → Act → World → Prop} (hgd : o.guard = none) (s x : Operand) (t tn : TypeId) (kn : IntKind)
    (ht : Tryz.prog.underlying t = some (.slice 46)) (htn : Tryz.prog.underlying tn = some (.int kn)) (ho : o.op = .call { callee := .builtin .append, args := #[s, x], argTypes := #[t, tn] })
    (base : Nat) (v : Value) (n : Nat) (xs : List Value) (hs : a.eval s = v) (hown : w.ownsRow base 46 1 v n xs) (hn0 : 0 < n) (hbase : base ≤ w.heap.size)
    (kq : IntKind) (m : Nat) (hx : a.eval x = .int kq (m : Int)) (hlen : n + m ≤ Lmax)
    (h : ∀ v' w', w'.ownsRow base 46 1 v' (n + m) (xs ++ (List.replicate m 0).map lv) → w.grownBy w' v.ownBlock → wpList Tryz.prog ops Q rest (a.put o.dst v') w') : wpList Tryz.prog ops Q (o :: rest) a w := by
  obtain ⟨v', w', hr, h1, h2⟩ := run_append_zeros base t tn o.type kq kn ht htn v n xs hown hn0 m hlen hbase
  exact Lib.wpList_append_run w hgd s x t tn ho v _ hs hx v' w' hr (h v' w' h1 h2)

set_option maxHeartbeats 400000 in
set_option maxRecDepth 100000 in
theorem guess_calls (w : World) (hi lo d : Nat) (hd : d < Bs) (hl : lo < Bs) (_hd0 : 0 < d) :
    Calls Tryz.prog 71 #[.int .u64 (hi : Int), .int .u64 (lo : Int), .int .u64 (d : Int)] w fun e w' => e = .returned (.int .u64 (guessN hi lo d : Nat)) ∧ Ext w w' := by
  by_cases h : d ≤ hi
  · have HE : Hid (((guessN hi lo d : Nat) : Int) = 18446744073709551615) := by show _ = _; rw [guessN, if_pos h, Bs_def]; rfl
    clear hd hl
    go_enter Tryz.func71, Tryz.ntmps71
    go_wp2_with fail
    go_ret
    exact ⟨ret_eq (int_eq (by rw [HE.out])), Ext.refl _⟩
  · have HE : Hid (guessN hi lo d = (hi * Bs + lo) / d) := by show _ = _; rw [guessN, if_neg h]
    have HC := Lib.hid (worddiv_calls w hi lo d hd hl (by omega))
    clear hd hl
    go_enter Tryz.func71, Tryz.ntmps71
    go_wp2_with (go_at_call 90; refine (HC.out).mono ?_; rintro e w' ⟨rfl, hx⟩)
    go_ret
    exact ⟨ret_eq (int_eq (by rw [HE.out]; simp)), hx⟩

/-- the memory of the long division: what is left stands in block g, the quotient in block gq -/
structure DivMem (w : World) (g m cm : Nat) (O : List Nat) (gq k : Nat) (Q : List Nat) (wr : World) : Prop where
  ownL : wr.ownsRow w.heap.size 46 1 (.slice (some ⟨g, 0, none⟩) m cm) m (O.map lv)
  ownQ : wr.ownsRow w.heap.size 46 1 (.slice (some ⟨gq, 0, none⟩) k k) k (Q.map lv)
  ne : g ≠ gq
  ext : Ext w wr
section
variable {w wr : World} {g m cm gq k : Nat} {O Q : List Nat}
theorem DivMem.lenL (h : DivMem w g m cm O gq k Q wr) : O.length = m := by have := h.ownL.1; simpa using this
theorem DivMem.lenQ (h : DivMem w g m cm O gq k Q wr) : Q.length = k := by have := h.ownQ.1; simpa using this
theorem DivMem.cellL (h : DivMem w g m cm O gq k Q wr) {j : Nat} (hj : j < m) : wr.cell? ⟨g, j, none⟩ = some (.int .u64 (el O j : Nat)) := by
  have := h.lenL
  rw [h.ownL.cellAt j (by omega)]
  simp [lv, el, List.getElem?_eq_getElem (show j < O.length by omega)]
theorem DivMem.cellQ (h : DivMem w g m cm O gq k Q wr) {j : Nat} (hj : j < k) : wr.cell? ⟨gq, j, none⟩ = some (.int .u64 (el Q j : Nat)) := by
  have := h.lenQ
  rw [h.ownQ.cellAt j (by omega)]
  simp [lv, el, List.getElem?_eq_getElem (show j < Q.length by omega)]
theorem DivMem.frozL (h : DivMem w g m cm O gq k Q wr) (j : Nat) : wr.frozen? ⟨g, j, none⟩ = false := h.ownL.frozenAt j
theorem DivMem.frozQ (h : DivMem w g m cm O gq k Q wr) (j : Nat) : wr.frozen? ⟨gq, j, none⟩ = false := h.ownQ.frozenAt j
theorem DivMem.gL (h : DivMem w g m cm O gq k Q wr) : w.heap.size ≤ g ∧ g < wr.heap.size := h.ownL.lt g rfl
theorem DivMem.gQ (h : DivMem w g m cm O gq k Q wr) : w.heap.size ≤ gq ∧ gq < wr.heap.size := h.ownQ.lt gq rfl
theorem DivMem.setL (h : DivMem w g m cm O gq k Q wr) (j z : Nat) : DivMem w g m cm (O.set j z) gq k Q (wr.setCell ⟨g, j, none⟩ (.int .u64 (z : Int))) := by
  obtain ⟨o3, g3⟩ := h.ownL.stored j (.int .u64 (z : Int))
  refine ⟨by rw [List.map_set]; exact o3, h.ownQ.kept g3 (.inr (by simp [Value.ownBlock]; exact fun e => h.ne e.symm)), h.ne, Below.setCell h.ext (by show w.heap.size ≤ g; exact h.gL.1) _⟩
theorem DivMem.setQ (h : DivMem w g m cm O gq k Q wr) (j z : Nat) : DivMem w g m cm O gq k (Q.set j z) (wr.setCell ⟨gq, j, none⟩ (.int .u64 (z : Int))) := by
  obtain ⟨o3, g3⟩ := h.ownQ.stored j (.int .u64 (z : Int))
  refine ⟨h.ownL.kept g3 (.inr (by simp [Value.ownBlock]; exact h.ne)), by rw [List.map_set]; exact o3, h.ne, Below.setCell h.ext (by show w.heap.size ≤ gq; exact h.gQ.1) _⟩
theorem DivMem.later {w2 : World} (h : DivMem w g m cm O gq k Q wr) (x : Ext wr w2) : DivMem w g m cm O gq k Q w2 :=
  ⟨ownsRow_ext h.ownL x, ownsRow_ext h.ownQ x, h.ne, h.ext.trans x⟩
end

theorem own_at {w : World} {base : Nat} {e : TypeId} {v : Value} {n : Nat} {xs : List Value} (h : w.ownsRow base e 1 v n xs) (hn : 0 < n) : ∃ g cm, v = .slice (some ⟨g, 0, none⟩) n cm ∧ n ≤ cm ∧ cm ≤ maxLen := by
  rcases h.2 with ⟨_, h0⟩ | ⟨g, cap, cur, rfl, _, _, hc, hm, _⟩
  · omega
  · exact ⟨g, cap, rfl, hc, hm⟩
theorem DivMem.start {w w7 w8 : World} {g m cm k : Nat} {O : List Nat} (hL : w7.ownsRow w.heap.size 46 1 (.slice (some ⟨g, 0, none⟩) m cm) m (O.map lv))
    (hQ : w8.ownsRow w7.heap.size 46 1 (.slice (some ⟨w7.heap.size, 0, none⟩) k k) k ((List.replicate k 0).map lv)) (hg : w7.grownBy w8 none) (x : Ext w w7) :
    DivMem w g m cm O w7.heap.size k (List.replicate k 0) w8 := by
  have hlt := hL.lt g rfl
  refine ⟨hL.kept hg (.inr (by simp [Value.ownBlock])), ?_, by omega, x.grown hg (by intro k hk; cases hk)⟩
  rcases hQ.2 with h | ⟨g', cap, cur, e, hb, rest⟩
  · exact ⟨hQ.1, .inl h⟩
  · exact ⟨hQ.1, .inr ⟨g', cap, cur, e, Nat.le_trans x.size hb, rest⟩⟩

theorem addz_calls (w : World) (x c : Nat) (hc : c ≤ 1) :
    Calls Tryz.prog 67 #[.int .u64 (x : Int), .int .u64 0, .int .u64 (c : Int)] w fun e w' =>
      e = .returned (.tuple #[.int .u64 (addLo x 0 c : Nat), .int .u64 (addHi x 0 c : Nat)]) ∧ w = w' := add_calls w x 0 c hc

theorem tk_bounds {x q over : Nat} (hx : x < Bs) (hq : q < Bs) (ho : over < Bs) : mulHi x q + addHi (mulLo x q) over 0 ≤ 18446744073709551615 := by
  have h := tkOver_lt hx hq ho
  unfold tkOver at h
  rw [Bs_def] at h
  omega

set_option maxHeartbeats 2000000 in
set_option maxRecDepth 100000 in
theorem take_calls {w wr : World} {g m cm gq k : Nat} {O Q D : List Nat} {dv : Value} (hM : DivMem w g m cm O gq k Q wr) (hO : ∀ x ∈ O, x < Bs) (hD : Limbs w dv D) (n : Nat) (hn : n = D.length) (i q pc : Nat) (hi : i + n < m) (hq : q < Bs) (hm : m ≤ 1048576) (hpc : n + 1 ≤ pc) (hpc2 : pc ≤ maxLen) :
    Calls Tryz.prog 72 #[.slice (some ⟨g, i, none⟩) (n + 1) pc, dv, .int .u64 (q : Int)] wr fun e w' =>
      ∃ (bor : Nat) (O' : List Nat), e = .returned (.int .u64 (bor : Int)) ∧ bor ≤ 1 ∧ Hid (val O' + Bs ^ i * (q * val D) = val O + Bs ^ (i + n + 1) * bor) ∧ (∀ x ∈ O', x < Bs) ∧ (∀ j, i + n + 1 ≤ j → el O' j = el O j) ∧ DivMem w g m cm O' gq k Q w' := by
  obtain ⟨da, dc, rfl, d1, d2, d3⟩ := hD.open
  have HLO := Lib.hid hM.lenL
  have hni : (n : Int) ≤ 1048576 := by omega
  have hii : (i : Int) ≤ 1048576 := by omega
  rw [← hn] at d1 d3 ⊢
  unfold maxLen at d2 hpc2
  have HN := Lib.hid hn
  have HD3 := Lib.hid d3
  have HI0 : Hid (TakeInv D i q O 0 0 0 O) := TakeInv.start hO
  have HO := Lib.hid hO
  have HM0 := Lib.hid hM
  clear hn d3 hM hO
  go_enter Tryz.func72, Tryz.ntmps72
  go_wp2_with fail
  go_loopw [6, 7, 15] (fun v6 v7 v15 wx => ∃ (j over bor : Nat) (O' : List Nat), v15 = .int .i64 (j : Int) ∧ v7 = .int .u64 (over : Int) ∧ v6 = .int .u64 (bor : Int) ∧ j ≤ n ∧ Hid (TakeInv D i q O j over bor O') ∧ DivMem w g m cm O' gq k Q wx) (fun _ _ v15 _ => n - (intOf v15).toNat)
  case atStart => exact ⟨0, 0, 0, O, rfl, rfl, rfl, Nat.zero_le _, HI0, HM0.out⟩
  case round =>
    obtain ⟨j, over, bor, O', rfl, rfl, rfl, hj, hI, hM⟩ := hrel
    have HM := Lib.hid hM
    have hbor := hI.out.bor_le
    have hover := hI.out.over_lt
    by_cases hjn : j < n
    · obtain ⟨b, o, rfl, hb, hc⟩ := HD3.out j hjn
      have hcD : wr.cell? ⟨b, o + j, none⟩ = some (.int .u64 (el D j : Nat)) := by rw [Below.cell hM.ext (p := ⟨b, o + j, none⟩) hb]; exact hc j hjn
      have hcO := hM.cellL (j := i + j) (by omega)
      have hfO := hM.frozL (i + j)
      have hDj := el_lt hD.2 j
      have hOj := el_lt hI.out.lt (i + j)
      have mb := tk_bounds hDj hq hover
      have HX := Lib.hid (hI.out.next hD.2 hq (by have := HLO.out; omega))
      clear hc hM
      go_wp2_with (first
        | (go_at_call 66; (with_reducible refine (mul_calls _ _ _ hDj hq).mono ?_); rintro e w' ⟨rfl, rfl⟩)
        | (go_at_call 67; (with_reducible refine (add0_calls _ (mulLo (el D j) q) over).mono ?_); rintro e w' ⟨rfl, rfl⟩)
        | (go_at_call 79; (with_reducible refine (sub_calls _ _ _ bor hbor).mono ?_); rintro e w' ⟨rfl, rfl⟩))
      exact ⟨⟨j + 1, tkOver (el D j) q over, _, _, by go_num, int_eq (by unfold tkOver; omega), rfl, by omega, HX, HM.out.setL (i + j) _⟩, by simp [intOf]; omega⟩
    · obtain rfl : j = n := by omega
      have hcO := hM.cellL (j := i + j) (by omega)
      have hfO := hM.frozL (i + j)
      have HF : Hid (val (O'.set (i + j) (subLo (el O' (i + j)) over bor)) + Bs ^ i * (q * val D) = val O + Bs ^ (i + j + 1) * subHi (el O' (i + j)) over bor) := by
        have h1 := hI.out
        have h2 := HN.out
        subst h2
        exact h1.fin (by have := HLO.out; omega)
      clear hM
      go_wp2_with (go_at_call 79; (with_reducible refine (sub_calls _ _ _ bor hbor).mono ?_); rintro e w' ⟨rfl, rfl⟩)
      go_ret
      exact ⟨_, _, rfl, subHi_le _ _ _, HF, set_lt hI.out.lt (subLo_lt _ _ _), fun l hl => by rw [el_set_other (by omega)]; exact hI.out.same l (by omega), HM.out.setL (i + j) _⟩

set_option maxHeartbeats 2000000 in
set_option maxRecDepth 100000 in
theorem back_calls {w wr : World} {g m cm gq k : Nat} {O Q D : List Nat} {dv : Value} (hM : DivMem w g m cm O gq k Q wr) (hO : ∀ x ∈ O, x < Bs) (hD : Limbs w dv D) (n : Nat) (hn : n = D.length) (i pc : Nat) (hi : i + n < m) (hm : m ≤ 1048576) (hpc : n + 1 ≤ pc) (hpc2 : pc ≤ maxLen) :
    Calls Tryz.prog 73 #[.slice (some ⟨g, i, none⟩) (n + 1) pc, dv] wr fun e w' =>
      ∃ (car : Nat) (O' : List Nat), e = .returned (.int .u64 (car : Int)) ∧ car ≤ 1 ∧ Hid (val O' + Bs ^ (i + n + 1) * car = val O + Bs ^ i * val D) ∧ (∀ x ∈ O', x < Bs) ∧ (∀ j, i + n + 1 ≤ j → el O' j = el O j) ∧ DivMem w g m cm O' gq k Q w' := by
  obtain ⟨da, dc, rfl, d1, d2, d3⟩ := hD.open
  have HLO := Lib.hid hM.lenL
  have hni : (n : Int) ≤ 1048576 := by omega
  have hii : (i : Int) ≤ 1048576 := by omega
  rw [← hn] at d1 d3 ⊢
  unfold maxLen at d2 hpc2
  have HN := Lib.hid hn
  have HD3 := Lib.hid d3
  have HI0 : Hid (BackInv D i O 0 0 O) := BackInv.start hO
  have HO := Lib.hid hO
  have HM0 := Lib.hid hM
  clear hn d3 hM hO
  go_enter Tryz.func73, Tryz.ntmps73
  go_wp2_with fail
  go_loopw [4, 9] (fun v4 v9 wx => ∃ (j car : Nat) (O' : List Nat), v9 = .int .i64 (j : Int) ∧ v4 = .int .u64 (car : Int) ∧ j ≤ n ∧ Hid (BackInv D i O j car O') ∧ DivMem w g m cm O' gq k Q wx) (fun _ v9 _ => n - (intOf v9).toNat)
  case atStart => exact ⟨0, 0, O, rfl, rfl, Nat.zero_le _, HI0, HM0.out⟩
  case round =>
    obtain ⟨j, car, O', rfl, rfl, hj, hI, hM⟩ := hrel
    have HM := Lib.hid hM
    have hcar := hI.out.car_le
    by_cases hjn : j < n
    · obtain ⟨b, o, rfl, hb, hc⟩ := HD3.out j hjn
      have hcD : wr.cell? ⟨b, o + j, none⟩ = some (.int .u64 (el D j : Nat)) := by rw [Below.cell hM.ext (p := ⟨b, o + j, none⟩) hb]; exact hc j hjn
      have hcO := hM.cellL (j := i + j) (by omega)
      have hfO := hM.frozL (i + j)
      have HX := Lib.hid (hI.out.next hD.2 (by have := HLO.out; omega))
      clear hc hM
      go_wp2_with (go_at_call 67; (with_reducible refine (add_calls _ _ _ car hcar).mono ?_); rintro e w' ⟨rfl, rfl⟩)
      exact ⟨⟨j + 1, _, _, by go_num, rfl, by omega, HX, HM.out.setL (i + j) _⟩, by simp [intOf]; omega⟩
    · obtain rfl : j = n := by omega
      have hcO := hM.cellL (j := i + j) (by omega)
      have hfO := hM.frozL (i + j)
      have HF : Hid (val (O'.set (i + j) (addLo (el O' (i + j)) 0 car)) + Bs ^ (i + j + 1) * addHi (el O' (i + j)) 0 car = val O + Bs ^ i * val D) := by
        have h1 := hI.out
        have h2 := HN.out
        subst h2
        exact h1.fin (by have := HLO.out; omega)
      have HC := Lib.hid (fun W => addz_calls W (el O' (i + j)) car hcar)
      have HHI : Hid (addHi (el O' (i + j)) 0 car ≤ 1) := addHi_le (el_lt hI.out.lt _) Bs_pos hcar
      clear hM
      go_wp2_with (go_at_call 67; (with_reducible refine (HC.out _).mono ?_); rintro e w' ⟨rfl, rfl⟩)
      go_ret
      exact ⟨_, _, rfl, HHI.out, HF, set_lt hI.out.lt (addLo_lt _ _ _), fun l hl => by rw [el_set_other (by omega)]; exact hI.out.same l (by omega), HM.out.setL (i + j) _⟩
end Go.Proofs.YtomhfipgabpfiaaGreatDoor
