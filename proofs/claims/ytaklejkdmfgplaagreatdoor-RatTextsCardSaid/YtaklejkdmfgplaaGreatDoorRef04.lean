/- Contracts of package tombolaref04: Ten, Show, Many. -/
import Derived.Test.YtaklejkdmfgplaaGreatDoorPartA
import Derived.Test.YtaklejkdmfgplaaGreatDoorPartB
namespace Go.Proofs.YtaklejkdmfgplaaGreatDoor
open Go Go.RowKit

/-- the rounds of Ten: Q are the digits of the quotient so far -/
structure TenInv (L : List Nat) (i r : Nat) (Q : List Nat) : Prop where
  len : i + Q.length = L.length
  lt : ∀ x ∈ Q, x < 65536
  v_eq : v16 Q = v16 (L.drop i) / 10
  r_eq : r = v16 (L.drop i) % 10
theorem TenInv.start (L : List Nat) : TenInv L L.length 0 [] :=
  ⟨by simp, (fun x hx => by cases hx), by rw [List.drop_length, v16_nil], by rw [List.drop_length, v16_nil]⟩
theorem TenInv.r_lt {L : List Nat} {i r : Nat} {Q : List Nat} (h : TenInv L i r Q) : r ≤ 9 := by have := h.r_eq; omega
theorem TenInv.next {L : List Nat} {i r : Nat} {Q : List Nat} (h : TenInv L (i + 1) r Q) (h16 : ∀ x ∈ L, x < 65536) : TenInv L i ((r * 65536 + el L i) % 10) ((r * 65536 + el L i) / 10 :: Q) := by
  have h1 := h.len
  have h2 := h.r_lt
  have h3 := el_16 h16 i
  have hi : i < L.length := by omega
  have e : v16 (L.drop i) = el L i + 65536 * v16 (L.drop (i + 1)) := by rw [List.drop_eq_getElem_cons hi, v16_cons, el_of_lt hi]
  have hv := h.v_eq
  have hr := h.r_eq
  refine ⟨by rw [List.length_cons]; omega, fun x hx => ?_, ?_, by rw [e]; omega⟩
  · rcases List.mem_cons.1 hx with rfl | hx
    · omega
    · exact h.lt x hx
  · rw [v16_cons, e, hv]; omega

/-- v reads as the limbs A, in a block from B on -/
def LimbsN (B : Nat) (w : World) (v : Value) (A : List Nat) : Prop := Limbs w v A ∧ ∀ p n c, v = .slice (some p) n c → B ≤ p.block
theorem LimbsN.kept {B : Nat} {w w' : World} {v : Value} {A : List Nat} {row : Option Nat} (h : LimbsN B w v A) (hg : w.grownBy w' row) (hr : ∀ g, row = some g → g < B) : Limbs w' v A := by
  obtain ⟨⟨⟨h1, a, cap, rfl, h3, h4, h5, h6⟩, h7⟩, hb⟩ := h
  refine ⟨⟨h1, a, cap, rfl, h3, h4, h5, fun p hp h0 => ?_⟩, h7⟩
  obtain ⟨q1, q2, q3⟩ := h6 p hp h0
  have hB := hb p _ _ (by rw [hp])
  exact ⟨q1, Nat.lt_of_lt_of_le q2 hg.size, fun j hj => hg.cell (q3 j hj) (fun e => by have := hr p.block e.symm; omega)⟩

set_option maxHeartbeats 1000000 in
set_option maxRecDepth 1000000 in
theorem ten_calls {w : World} {v : Value} {A : List Nat} (hA : Limbs w v A) (h16 : ∀ x ∈ A, x < 65536) (hlen : A.length ≤ Lmax) :
    Calls Tryz.prog 127 #[v] w fun e w' => ∃ (v' : Value) (r : Nat), e = .returned (.tuple #[v', .int .u64 (r : Int)]) ∧ Hid (r = v16 A % 10) ∧ LimbsN w.heap.size w' v' (dig16 (v16 A / 10)) ∧ Ext w w' := by
  obtain ⟨a, cap, rfl, h1, h2, h3⟩ := hA.open
  have hLb : (A.length : Int) ≤ 1099511627776 := by have h := hlen; rw [Lmax_def] at h; omega
  have H3 := Lib.hid h3
  have HN := Lib.hid hlen
  clear h3 hlen h1 h2
  go_enter Tryz.func127, Tryz.ntmps127
  go_wp2_with (at_make; refine make_limbs rfl _ _ 22 Tryz.underlying22 rfl A.length _ rfl rfl rfl HN.out ?_; intro w1 hown1 hg1; have O1 := Lib.hid hown1; clear hown1)
  have hI0 : MulMem w w.heap.size A.length (List.replicate A.length 0 ++ []) w1 := ⟨by rw [List.append_nil]; exact O1.out, (Ext.refl w).grown hg1 (by intro k hk; cases hk)⟩
  go_loopw [5, 6, 7] (fun v5 v6 _ wr => ∃ (i r : Nat) (Q : List Nat), v6 = .int .i64 ((i : Int) - 1) ∧ v5 = .int .u64 (r : Int) ∧ TenInv A i r Q ∧ MulMem w w.heap.size A.length (List.replicate i 0 ++ Q) wr) (fun _ v6 _ _ => (intOf v6 + 1).toNat)
  case atStart => exact ⟨A.length, 0, [], rfl, rfl, TenInv.start A, hI0⟩
  case round =>
    obtain ⟨i, r, Q, rfl, rfl, hS, hI⟩ := hrel
    by_cases hn : i = 0
    · subst hn
      have hQn : Q.length = A.length := by simpa using hS.len
      have HS := Lib.hid hS
      have HQ := Lib.hid hQn
      have hT : Limbs wr (.slice (some ⟨w.heap.size, 0, none⟩) A.length A.length) Q := by
        have := hI.limbs (by simpa using hQn) (by simpa using lt_bs_16 hS.lt)
        simpa using this
      have hr' : Hid (r = v16 A % 10) := by show r = _; rw [hS.r_eq]; simp
      have hv : Hid (v16 Q = v16 A / 10) := by show _ = _; rw [hS.v_eq]; simp
      have HT : Hid (Limbs wr (.slice (some ⟨w.heap.size, 0, none⟩) Q.length A.length) Q) := by show Limbs _ _ _; rwa [hQn]
      have hx := hI.ext
      have hcell : ∀ k, k < A.length → wr.cell? ⟨w.heap.size, k, none⟩ = some (.int .u64 (el Q k : Nat)) := fun k hk => by
        have := hI.cell hk (by simpa using hQn)
        simpa using this
      have HC := Lib.hid hcell
      clear hS hI hcell hQn hT hI0
      go_wp2_with fail
      go_loop [8] (fun v8 => ∃ n : Nat, v8 = .int .i64 (n : Int) ∧ n ≤ A.length ∧ (∀ i, n ≤ i → el Q i = 0)) (fun v8 => (intOf v8).toNat)
      case atStart => exact ⟨A.length, rfl, Nat.le_refl _, fun i hi => el_of_ge (by rw [HQ.out]; exact hi)⟩
      case round =>
        obtain ⟨n, rfl, hn, hz⟩ := hrel
        have HZ := Lib.hid hz
        clear hz
        have hsl := HT.out.take (n := n) (by rw [HQ.out]; exact hn)
        by_cases h0 : n = 0
        · have HF := Lib.hid (dig16_take HS.out.lt (by rw [HQ.out]; exact hn) HZ.out (.inl h0))
          subst h0
          go_wp2_with fail
          go_ret2
          exact ⟨_, r, rfl, hr', ⟨by rw [← hv.out, ← HF.out]; exact hsl, fun p n c e => by cases e; exact Nat.le_refl _⟩, hx⟩
        · have hcl := HC.out (n - 1) (by omega)
          have HE : Hid ((((el Q (n - 1) : Nat) : Int) == 0) = false → Q.take n = dig16 (v16 Q)) := fun h => dig16_take HS.out.lt (by rw [HQ.out]; exact hn) HZ.out (.inr (by simpa using h))
          go_wp2_with fail
          · rename_i hz _
            refine ⟨⟨n - 1, by omega, by omega, fun i hi => ?_⟩, by simp [intOf]; omega⟩
            by_cases hi' : n ≤ i
            · exact HZ.out i hi'
            · obtain rfl : i = n - 1 := by omega
              simpa using hz
          · rename_i hz _
            go_ret2
            exact ⟨_, r, rfl, hr', ⟨by rw [← hv.out, ← HE.out hz]; exact hsl, fun p n c e => by cases e; exact Nat.le_refl _⟩, hx⟩
    · obtain ⟨m, rfl⟩ : ∃ m, i = m + 1 := ⟨i - 1, by omega⟩
      have hm : m < A.length := by have := hS.len; omega
      obtain ⟨b, o, rfl, hb, hc⟩ := H3.out m hm
      have hcA : wr.cell? ⟨b, o + m, none⟩ = some (.int .u64 (el A m : Nat)) := by rw [Below.cell hI.ext (p := ⟨b, o + m, none⟩) hb]; exact hc m hm
      have hr9 : (r : Int) ≤ 9 := by have := hS.r_lt; omega
      have hel : ((el A m : Nat) : Int) ≤ 65535 := by have := el_16 h16 m; omega
      have hcq := hI.cell hm (by have := hS.len; simp; omega)
      have hfq := hI.froz m
      have HS := Lib.hid hS
      clear hc hS
      go_wp2_with fail
      exact ⟨⟨m, _, _, rfl, int_eq (by rfl), HS.out.next h16, by rw [← zeros_set]; exact hI.set (Nat.le_refl _) _ _⟩, by simp [intOf]⟩
theorem dropZ_le (l : List Nat) : (dropZ l).length ≤ l.length := by
  induction l with
  | nil => simp [dropZ]
  | cons x l ih =>
    rw [dropZ]
    split
    · simp; omega
    · simp
theorem dgs_len_le {n k : Nat} (h : n < 10 ^ k) : (dgs n).length ≤ k := by
  rw [← dropZ_fixw h]
  exact Nat.le_trans (dropZ_le _) (by rw [fixw_length]; exact Nat.le_refl _)
theorem dgs_len_bs {n k : Nat} (h : n < Bs ^ k) : (dgs n).length ≤ 20 * k := by
  refine dgs_len_le (Nat.lt_of_lt_of_le h ?_)
  rw [Nat.pow_mul]
  exact Nat.pow_le_pow_left (by rw [Bs_def]; decide) k


/-- 'make' of bytes: so many 0s -/
theorem make_bytes {w : World} {ops : Array Oper} {rest : List Oper} {o : Oper} {a : Act} {Q : Exit → Act → World → Prop} (hgd : o.guard = none) (l c : Operand) (t : TypeId)
    (ht : Tryz.prog.underlying t = some (.slice 5)) (hop : o.op = Op.makeSlice t l c) (n : Nat) (C : Int) (hC : C = (n : Int)) (hl : a.eval l = .int .i64 C) (hc : a.eval c = .int .i64 C) (hn : n ≤ Lmax)
    (h : ∀ w', w'.ownsRow w.heap.size 5 1 (.slice (some ⟨w.heap.size, 0, none⟩) n n) n (List.replicate n (.int .u8 0)) → w.grownBy w' none →
      wpList Tryz.prog ops Q rest (a.put o.dst (.slice (some ⟨w.heap.size, 0, none⟩) n n)) w') : wpList Tryz.prog ops Q (o :: rest) a w := by
  obtain ⟨i, hi, hz, hsize, hby⟩ := info_parts info_u8
  have hn' : n ≤ 1099511627776 := by rw [← Lmax_def]; exact hn
  refine wpList_make_full w hgd l c t hop w.heap.size 5 i (.int .u8 0) 1 ht hi hz hsize .i64 .i64 C C n hl hc hC hC (by rw [hby]; omega) (lmax_fits hn).1 (Nat.le_refl _) (fun w' h1 h2 => h w' ?_ h2)
  rw [show (Value.int IntKind.u8 0).cells = #[Value.int IntKind.u8 0] from rfl, Nat.mul_one, toList_madeCells_one] at h1
  simpa using h1

/-- the bytes that Show has got together so far -/
structure TurnMem (w : World) (n V : Nat) (T : List Nat) (tv v : Value) (wr : World) : Prop where
  own : wr.ownsRow w.heap.size 5 1 tv T.length (T.map bv)
  lim : Limbs wr v (dig16 V)
  d_eq : dgs n = dgs V ++ T.reverse
  v_le : V ≤ n
  ext : Ext w wr
theorem TurnMem.len {w : World} {n V : Nat} {T : List Nat} {tv v : Value} {wr : World} (h : TurnMem w n V T tv v wr) : T.length ≤ (dgs n).length := by
  rw [h.d_eq, List.length_append, List.length_reverse]; omega

/-- the bytes that Show turns -/
structure BackMem (wb : World) (D : List Nat) (m j : Nat) (wr : World) : Prop where
  own : wr.ownsRow wb.heap.size 5 1 (.slice (some ⟨wb.heap.size, 0, none⟩) m m) m (List.replicate j (.int .u8 0) ++ (D.drop j).map bv)
  ext : Ext wb wr
theorem BackMem.cell {wb : World} {D : List Nat} {m j : Nat} {wr : World} (h : BackMem wb D m (j + 1) wr) (hj : j < m) : wr.cell? ⟨wb.heap.size, j, none⟩ = some (.int .u8 0) := by
  rw [h.own.cellAt j (by omega), List.getElem?_append_left (by simp)]
  simp
theorem BackMem.froz {wb : World} {D : List Nat} {m j : Nat} {wr : World} (h : BackMem wb D m j wr) (k : Nat) : wr.frozen? ⟨wb.heap.size, k, none⟩ = false := h.own.frozenAt k
theorem BackMem.next {wb : World} {D : List Nat} {m j : Nat} {wr : World} (h : BackMem wb D m (j + 1) wr) (hj : j < D.length) : BackMem wb D m j (wr.setCell ⟨wb.heap.size, j, none⟩ (bv (el D j))) := by
  obtain ⟨o3, _⟩ := h.own.stored j (bv (el D j))
  refine ⟨?_, Below.setCell h.ext (Nat.le_refl _) _⟩
  have e : (List.replicate (j + 1) (Value.int .u8 0) ++ (D.drop (j + 1)).map bv).set j (bv (el D j)) = List.replicate j (Value.int .u8 0) ++ (D.drop j).map bv := by
    rw [List.replicate_succ', List.append_assoc, List.set_append_right _ _ (by simp), List.drop_eq_getElem_cons hj, el_of_lt hj, List.map_cons]
    simp only [List.length_replicate, Nat.sub_self, List.singleton_append, List.set_cons_zero]
  rw [← e]
  exact o3
theorem BackMem.conv {wb : World} {D : List Nat} {wr : World} (h : BackMem wb D D.length 0 wr) (hd : ∀ d ∈ D, d < 10) :
    (convert 120 9 (.slice (some ⟨wb.heap.size, 0, none⟩) D.length D.length)).run Tryz.prog wr = .ok (.string ⟨(D.map db).toArray⟩) wr := by
  have hl : (D.map db).length = D.length := by simp
  have := run_convert_bytes_back (P := Tryz.prog) wr 120 9 5 ⟨wb.heap.size, 0, none⟩ D.length (D.map db) Tryz.underlying120 Tryz.underlying5 Tryz.underlying9 (fun j hj => by
    have hj' : j < D.length := by omega
    rw [Addr.add_lit, Nat.zero_add, h.own.cellAt j (by omega)]
    simp only [List.replicate_zero, List.nil_append, List.drop_zero, List.getElem?_map, List.getElem?_eq_getElem hj', Option.map_some, List.getElem_map]
    rw [bv_db (hd _ (List.getElem_mem hj'))])
  rwa [hl] at this

set_option maxHeartbeats 2000000 in
set_option maxRecDepth 1000000 in
theorem refshow_calls {w : World} {v : Value} {A : List Nat} (hA : Limbs w v A) (hln : A.length ≤ 65536) :
    Calls Tryz.prog 86 #[v] w fun e w' => e = .returned (.string ⟨(showL (val A)).toArray⟩) ∧ Ext w w' := by
  have HL : Hid (4 * A.length + 4 ≤ Lmax) := by show _ ≤ Lmax; rw [Lmax_def]; omega
  obtain ⟨n, hn⟩ : ∃ n, n = val A := ⟨_, rfl⟩
  have HDL : Hid ((dgs n).length ≤ 1310720) := Nat.le_trans (dgs_len_bs (k := A.length) (by rw [hn]; exact val_lt hA.2)) (by omega)
  have H16 : Hid (∀ V, V ≤ n → (dig16 V).length ≤ 262144) := by
    intro V hV
    refine Nat.le_trans (dig16_len_le (k := 4 * A.length) (Nat.lt_of_le_of_lt hV (by rw [hn, bs_pow]; exact val_lt hA.2))) (by omega)
  have HN := Lib.hid hn
  rw [← hn]
  clear hn hln
  go_enter Tryz.func86, Tryz.ntmps86
  go_wp2_with fail
  refine (refdigits_calls hA HL.out).mono ?_
  rintro e w1 ⟨l0, rfl, hl0, hx1⟩
  rw [← HN.out] at hl0
  obtain ⟨a0, cap0, rfl, k1, k2, -⟩ := hl0.open
  unfold maxLen at k2
  by_cases hn0 : n = 0
  · have hlen : (dig16 n).length = 0 := by rw [hn0, dig16_zero]; rfl
    have HS : Hid (showL n = [48]) := by show _ = _; rw [hn0]; rfl
    clear hn0
    go_wp2_with fail
    go_ret
    exact ⟨ret_eq (by rw [HS.out]; rfl), hx1⟩
  · have hlen : (((dig16 n).length : Int) == (0 : Int)) = false := by rw [dig16_pos hn0, List.length_cons]; simp; omega
    have HS : Hid (showL n = (dgs n).map db) := showL_pos hn0
    have HI0 : Hid (∀ v, Limbs w1 v (dig16 n) → TurnMem w n n [] (.slice none 0 0) v w1) := fun v hv => ⟨World.ownsRow_nil .., hv, by simp, Nat.le_refl _, hx1⟩
    clear hn0
    go_wp2_with fail
    clear hlen
    go_loopg [3, 4, 5, 6, 17] n (fun V v tv _ _ _ wr => ∃ T : List Nat, TurnMem w n V T tv v wr)
    case atStart => exact ⟨[], HI0.out _ hl0⟩
    case round =>
      obtain ⟨T, hI⟩ := hrel
      have hlim := hI.lim
      obtain ⟨a, cap, rfl, k1, k2, -⟩ := hlim.open
      unfold maxLen at k2
      have HI := Lib.hid hI
      clear hI
      by_cases h0 : gk = 0
      · have hlen : (dig16 gk).length = 0 := by rw [h0, dig16_zero]; rfl
        obtain ⟨pa, pc, rfl⟩ := own_shape HI.out.own
        have HD : Hid (dgs n = T.reverse) := by show _ = _; rw [HI.out.d_eq, h0, dgs_zero, List.nil_append]
        obtain ⟨m, hm⟩ : ∃ m, m = T.length := ⟨_, rfl⟩
        rw [← hm]
        have hmb : (m : Int) ≤ 1310720 := by have h1 := HI.out.len; have h2 := HDL.out; omega
        have HM := Lib.hid hm
        have HDm : Hid ((dgs n).length = m) := by show _ = _; rw [HD.out, List.length_reverse, HM.out]
        have HML : Hid (m ≤ Lmax) := by show _ ≤ Lmax; rw [Lmax_def]; omega
        clear h0 hm
        go_wp2_with (at_make; refine make_bytes rfl _ _ 120 Tryz.underlying120 rfl m _ rfl rfl rfl HML.out ?_; intro w2 hown2 hg2; have O2 := Lib.hid hown2; clear hown2)
        obtain ⟨wb, rfl⟩ : ∃ wb : World, wb = wr := ⟨_, rfl⟩
        have hB0 : BackMem wb (dgs n) m m w2 := ⟨by rw [List.drop_eq_nil_of_le (by rw [HDm.out]; exact Nat.le_refl _)]; simpa using O2.out, (Ext.refl wb).grown hg2 (by intro k hk; cases hk)⟩
        have HTI : Hid (∀ i j, i + (j + 1) = m → (T.map bv)[i]? = some (bv (el (dgs n) j))) := by
          intro i j hij
          have e : T = (dgs n).reverse := by rw [HD.out, List.reverse_reverse]
          have hjn : j < (dgs n).length := by rw [HDm.out]; omega
          rw [e, List.getElem?_map, List.getElem?_reverse (by rw [HDm.out]; omega), show (dgs n).length - 1 - i = j by rw [HDm.out]; omega, List.getElem?_eq_getElem hjn, el_of_lt hjn]
          rfl
        go_loopw [8] (fun v8 wr => ∃ j i : Nat, v8 = .int .i64 (i : Int) ∧ i + j = m ∧ BackMem wb (dgs n) m j wr) (fun v8 _ => m - (intOf v8).toNat)
        case atStart => exact ⟨m, 0, rfl, by omega, hB0⟩
        case round =>
          obtain ⟨j, i, rfl, hij, hM⟩ := hrel
          by_cases hj0 : j = 0
          · subst hj0
            obtain rfl : i = m := by omega
            have hM' := hM
            rw [← HDm.out] at hM'
            have hcv := hM'.conv (fun d hd => dgs_lt n d hd)
            rw [HDm.out] at hcv
            go_wp2_with fail
            go_ret
            exact ⟨ret_eq (by rw [HS.out]; rfl), HI.out.ext.trans hM.ext⟩
          · obtain ⟨j, rfl⟩ : ∃ k, j = k + 1 := ⟨j - 1, by omega⟩
            have him : i < m := by omega
            have hix : (m : Int) - 1 - (i : Int) = (j : Int) := by omega
            have hcO := hM.cell (by omega)
            have hfO := hM.froz j
            have hti := HTI.out i j hij
            obtain ⟨gt, rfl, hgt, -, -, hct⟩ := own_cell (show wb.ownsRow w.heap.size 5 1 (.slice pa m pc) m (T.map bv) by have h := HI.out.own; rwa [← HM.out] at h) him
            have hcT : wr.cell? ⟨gt, i, none⟩ = some (.int .u8 (48 + ((el (dgs n) j : Nat) : Int))) := by rw [Below.cell hM.ext (p := ⟨gt, i, none⟩) hgt, hct i him, hti]; rfl
            clear hct hti
            go_wp2_with fail
            exact ⟨⟨j, i + 1, by go_num, by omega, hM.next (by rw [HDm.out]; omega)⟩, by simp [intOf]; omega⟩
      · have hlen : (0 : Int) < ((dig16 gk).length : Int) := by rw [dig16_pos h0, List.length_cons]; omega
        have HTN := Lib.hid (ten_calls hlim (dig16_lt gk) (by rw [Lmax_def]; exact Nat.le_trans (H16.out gk HI.out.v_le) (by omega)))
        have HLT : Hid (gk / 10 < gk) := Nat.div_lt_self (by omega) (by omega)
        have HDG : Hid (dgs gk = dgs (gk / 10) ++ [gk % 10]) := dgs_pos h0
        have HTL : Hid (T.length ≤ 1310720) := Nat.le_trans HI.out.len HDL.out
        clear h0
        go_wp2_with (first
          | (go_at_call 127; refine (HTN.out).mono ?_; rintro e w2 ⟨q, r, rfl, hr, hq, hx2⟩; rw [v16_dig16] at hq hr; have hr9 : (r : Int) ≤ 9 := by have := hr.out; omega)
          | (at_builtin; refine wpList_append_sl rfl _ _ 120 rfl w.heap.size 5 (.int .u8 0) 1 1 Tryz.underlying120 info_u8 rfl (by decide) _ T.length (T.map bv) rfl (ownsRow_ext HI.out.own (hx2.alloc _)) _ 1 [bv r] rfl (sl_lit _ _ #[bv r] 1 rfl (by unfold maxLen; omega)) (by simp [Value.oneCell', bv]) (by have := HTL.out; unfold maxLen; omega) (by have := HTL.out; omega) ((HI.out.ext.trans hx2).alloc _).size ?_; intro v' w' hown' hgrow; have hE := own_grow_ext HI.out.own HI.out.ext (hx2.alloc _) hgrow; have HO := Lib.hid hown'; clear hown'))
        have hq' : Limbs w' q (dig16 (gk / 10)) := LimbsN.kept (B := wr.heap.size) ⟨hq.1.ext ((Ext.refl w2).alloc _), hq.2⟩ hgrow (fun g hg => (HI.out.own.lt g hg).2)
        go_roundg (gk / 10)
        case measure => exact HLT.out
        case rel => exact ⟨T ++ [r], by have := HO.out; simpa using this, hq', by rw [HI.out.d_eq, HDG.out, hr.out]; simp, by have := HI.out.v_le; have := HLT.out; omega, hE⟩
end Go.Proofs.YtaklejkdmfgplaaGreatDoor