/- Contracts of package dec, first part: digits, Show, Many. -/
import Derived.Test.YtomhfipgabpfiaaGreatDoorDiv1
import Derived.Test.YtomhfipgabpfiaaGreatDoorDecPlain
import Derived.Test.YtomhfipgabpfiaaGreatDoorBuilder
import Derived.Laws.IdiomStrings
import Derived.Deep.LoopGhost
namespace Go.Proofs.YtomhfipgabpfiaaGreatDoor
open Go Go.RowKit

/-- a digit's byte as a value -/
def bv (d : Nat) : Value := .int .u8 ((48 : Int) + (d : Int))
theorem bv_db {d : Nat} (h : d < 10) : bv d = .int .u8 ((db d).toNat : Int) := by rw [db_toNat h]; rfl
theorem map_bv {l : List Nat} (h : ∀ d ∈ l, d < 10) : l.map bv = (l.map db).map fun b => Value.int .u8 (b.toNat : Int) := by
  rw [List.map_map]
  exact List.map_congr_left fun d hd => bv_db (h d hd)

/-- the cells in the rounds of digits -/
structure DigMem (w : World) (g k n : Nat) (wr : World) : Prop where
  own : wr.ownsRow g 103 1 (.slice (some ⟨g, 0, none⟩) 20 20) 20 (List.replicate k (.int .u8 0) ++ (fixw (20 - k) n).map bv)
  ext : Ext w wr

theorem DigMem.cell {w : World} {g k n : Nat} {wr : World} (h : DigMem w g (k + 1) n wr) (hk : k < 20) : wr.cell? ⟨g, k, none⟩ = some (.int .u8 0) := by
  rw [h.own.cellAt k (by omega), List.getElem?_append_left (by simp)]
  simp
theorem DigMem.froz {w : World} {g k n : Nat} {wr : World} (h : DigMem w g k n wr) (j : Nat) : wr.frozen? ⟨g, j, none⟩ = false := h.own.frozenAt j
theorem fixw_succ (j m : Nat) : ∀ n, m = n / 10 ^ j → fixw (j + 1) n = m % 10 :: fixw j n := by
  intro n hm
  rw [Nat.add_comm, fixw_add, ← hm]
  simp [fixw]
theorem DigMem.next {w : World} {g k n m : Nat} {wr : World} (h : DigMem w g (k + 1) n wr) (hg : w.heap.size ≤ g) (hk : k < 20) (hm : m = n / 10 ^ (20 - (k + 1))) :
    DigMem w g k n (wr.setCell ⟨g, k, none⟩ (bv (m % 10))) := by
  obtain ⟨o3, _⟩ := h.own.stored k (bv (m % 10))
  refine ⟨?_, Below.setCell h.ext (by show w.heap.size ≤ g; exact hg) _⟩
  have e : (List.replicate (k + 1) (Value.int .u8 0) ++ (fixw (20 - (k + 1)) n).map bv).set k (bv (m % 10)) = List.replicate k (Value.int .u8 0) ++ (fixw (20 - k) n).map bv := by
    rw [List.replicate_succ', List.append_assoc, List.set_append_right _ _ (by simp)]
    rw [show 20 - k = 20 - (k + 1) + 1 by omega, fixw_succ _ m n hm]
    simp
  rw [← e]
  exact o3

theorem DigMem.conv {w : World} {g n : Nat} {wr : World} (h : DigMem w g 0 n wr) :
    (convert 88 9 (.slice (some ⟨g, 2, none⟩) 18 18)).run Tryz.prog wr = .ok (.string ⟨((fixw 18 n).map db).toArray⟩) wr := by
  have hl : ((fixw 18 n).map db).length = 18 := by simp [fixw_length]
  have := run_convert_bytes_back (P := Tryz.prog) wr 88 9 5 ⟨g, 2, none⟩ 18 ((fixw 18 n).map db) Tryz.underlying88 Tryz.underlying5 Tryz.underlying9 (fun j hj => by
    have hj' : j < 18 := by omega
    rw [Addr.add_lit, h.own.cellAt (2 + j) (by omega)]
    have e : fixw 20 n = fixw 2 (n / 10 ^ 18) ++ fixw 18 n := fixw_add 2 18 n
    simp only [List.replicate_zero, List.nil_append, Nat.sub_zero, e, List.map_append]
    rw [List.getElem?_append_right (by simp [fixw_length])]
    simp only [List.length_map, fixw_length, Nat.add_sub_cancel_left]
    have hjf : j < (fixw 18 n).length := by rw [fixw_length]; exact hj'
    simp only [List.getElem?_map, List.getElem?_eq_getElem hjf, Option.map_some, List.getElem_map]
    rw [bv_db (fixw_lt 18 n _ (List.getElem_mem hjf))])
  rwa [hl] at this

set_option maxHeartbeats 1000000 in
set_option maxRecDepth 1000000 in
theorem digits_calls (w : World) (n : Nat) (hn : n < Bs) :
    Calls Tryz.prog 82 #[.int .u64 (n : Int), .int .i64 18] w fun e w' => e = .returned (.string ⟨((fixw 18 n).map db).toArray⟩) ∧ Ext w w' := by
  have hn' : (n : Int) ≤ 18446744073709551615 := by rw [Bs_def] at hn; omega
  have I0 : Hid (∀ C : Array Value, C.toList = List.replicate 20 (.int .u8 0) → DigMem w w.heap.size 20 n (w.alloc (.cells C 103))) := by
    intro C hC
    refine ⟨⟨by simp [fixw], .inr ⟨w.heap.size, 20, C, rfl, Nat.le_refl _, heap_alloc_new w _, Nat.le_refl _, by unfold maxLen; omega, by rw [← Array.length_toList, hC]; simp, by rw [hC]; simp [fixw]⟩⟩, (Ext.refl w).alloc _⟩
  go_enter Tryz.func82, Tryz.ntmps82
  go_wp2_with fail
  go_loopw [0, 6] (fun v0 v6 wr => ∃ k m : Nat, v6 = .int .i64 ((k : Int) - 1) ∧ v0 = .int .u64 (m : Int) ∧ k ≤ 20 ∧ m ≤ n ∧ m = n / 10 ^ (20 - k) ∧ DigMem w w.heap.size k n wr) (fun _ v6 _ => (intOf v6 + 1).toNat)
  case atStart => exact ⟨20, n, rfl, rfl, Nat.le_refl _, Nat.le_refl _, by simp, I0.out _ rfl⟩
  case round =>
    obtain ⟨k, m, rfl, rfl, hk, hmn, hm, hI⟩ := hrel
    have HM := Lib.hid hm
    clear hm
    by_cases h0 : k = 0
    · subst h0
      have hcv := hI.conv
      go_wp2_with fail
      go_ret
      exact ⟨rfl, hI.ext⟩
    · obtain ⟨j, rfl⟩ : ∃ j, k = j + 1 := ⟨k - 1, by omega⟩
      have hc := hI.cell (by omega)
      have hf := hI.froz j
      have hm' : (m : Int) ≤ 18446744073709551615 := by omega
      go_wp2_with fail
      have hd : m / 10 = n / 10 ^ (20 - j) := by
        rw [HM.out, Nat.div_div_eq_div_mul, ← Nat.pow_succ]; congr 2; omega
      exact ⟨⟨j, m / 10, rfl, int_eq (by simp), by omega, by omega, hd, hI.next (Nat.le_refl _) (by omega) HM.out⟩, by simp [intOf]⟩

theorem sl_lit (w : World) (e : TypeId) (C : Array Value) (n : Nat) (hn : n = C.size) (hl : n ≤ maxLen) : Sl 1 (w.alloc (.cells C e)) (.slice (some ⟨w.heap.size, 0, none⟩) n n) n C.toList := by
  subst hn
  refine ⟨by simp, _, _, rfl, Nat.le_refl _, hl, (fun e => by cases e), fun p hp _ => ?_⟩
  obtain rfl := Option.some.inj hp
  refine ⟨rfl, by simp, fun j hj => ?_⟩
  have hj' : j < C.size := by simpa using hj
  rw [cell_of_row _ w.heap.size _ C e (0, 0) (heap_alloc_new w _), Nat.zero_add, Array.getElem?_eq_getElem hj']
  simp

theorem info_str : (Tryz.prog.info? 9).map (fun i => (i.zero, i.size, i.bytes)) = some (some (.string ⟨#[]⟩), 1, 16) := by kernel_rfl

/-- ten to the power of 18, by a name -/
theorem ts_ex : ∃ b : Nat, b = 10 ^ 18 := ⟨_, rfl⟩
noncomputable def Ts : Nat := Classical.choose ts_ex
theorem Ts_def : Ts = 10 ^ 18 := Classical.choose_spec ts_ex
theorem Ts_lt : Ts < Bs := by rw [Ts_def, Bs_def]; decide
theorem Ts_pos : 0 < Ts := by rw [Ts_def]; decide

/-- the text of the i-th part, of 18 digits -/
noncomputable def part (n i : Nat) : Value := .string ⟨((fixw 18 (n / Ts ^ i)).map db).toArray⟩
noncomputable def parts (n k : Nat) : List Value := (List.range k).map (part n)
theorem parts_length (n k : Nat) : (parts n k).length = k := by simp [parts]
theorem parts_succ (n k : Nat) : parts n (k + 1) = parts n k ++ [part n k] := by simp [parts, List.range_succ]

theorem OwnL.kept {B : Nat} {w w' : World} {v : Value} {A : List Nat} {row : Option Nat} (h : OwnL B w v A) (hg : w.grownBy w' row) (hr : ∀ g, row = some g → g < B) : OwnL B w' v A := by
  refine ⟨?_, h.2⟩
  rcases h.1 with h1 | ⟨a, h1, h2, h3, h4⟩
  · refine .inl (h1.kept hg ?_)
    cases hv : v.ownBlock with
    | none => exact .inl rfl
    | some b =>
      right
      intro e
      have h5 := (h1.lt b hv).1
      have h6 := hr b e.symm
      omega
  · exact .inr ⟨a, h1, h2, h3, fun p hp => ⟨(h4 p hp).1, Nat.lt_of_lt_of_le (h4 p hp).2 hg.size⟩⟩

theorem own_shape {w : World} {B : Nat} {e : TypeId} {s : Nat} {v : Value} {n : Nat} {xs : List Value} (h : w.ownsRow B e s v n xs) : ∃ a cap, v = .slice a n cap := by
  rcases h.2 with ⟨rfl, rfl⟩ | ⟨g, cap, cur, rfl, _⟩
  · exact ⟨_, _, rfl⟩
  · exact ⟨_, _, rfl⟩

theorem own_grow_ext {w wr w' : World} {e : TypeId} {s : Nat} {v : Value} {n : Nat} {xs : List Value} (h : wr.ownsRow w.heap.size e s v n xs) (k : Ext w wr) {w5 : World} (k5 : Ext wr w5) (hg : w5.grownBy w' v.ownBlock) : Ext w w' :=
  (k.trans k5).grown hg (fun b hb => (h.lt b hb).1)

theorem own_cell {w : World} {B : Nat} {e : TypeId} {a : Option Addr} {n cap : Nat} {xs : List Value} (h : w.ownsRow B e 1 (.slice a n cap) n xs) {j : Nat} (hj : j < n) :
    ∃ g, a = some ⟨g, 0, none⟩ ∧ g < w.heap.size ∧ n ≤ cap ∧ cap ≤ maxLen ∧ ∀ i, i < n → w.cell? ⟨g, i, none⟩ = xs[i]? := by
  rcases h.2 with ⟨_, h0⟩ | ⟨g, cap', cur, e', hg, hh, hc, hm, _⟩
  · omega
  · cases e'
    exact ⟨g, rfl, (Array.getElem?_eq_some_iff.1 hh).1, hc, hm, fun i hi => h.cellAt i (by omega)⟩

/-- the builder in the rounds of Show -/
structure BldMem (wb : World) (n k j : Nat) (wr : World) : Prop where
  bld : Lib.IsBuilder 90 5 wb.heap.size wb.heap.size (Lib.byteCells ((fixw (18 * (k - j)) (n / Ts ^ j)).map db)) wr
  ext : Ext wb wr

theorem BldMem.start (wb : World) (n k : Nat) (C : Array Value) (hC : C = #[.pointer none, .slice none 0 0]) : BldMem wb n k k (wb.alloc (.cells C 90)) := by
  subst hC
  refine ⟨.inl ⟨Nat.le_refl _, .slice none 0 0, heap_alloc_new wb _, ?_, by simp [Value.ownBlock]⟩, (Ext.refl wb).alloc _⟩
  rw [Nat.sub_self]
  exact World.ownsRow_nil ..
theorem BldMem.next {wb wr w2 : World} {n k m : Nat} {sb : ByteArray} (h : BldMem wb n k (m + 1) wr) (hk : m < k) (hs : sb = ⟨((fixw 18 (n / Ts ^ m)).map db).toArray⟩)
    (h2 : Lib.BuilderAt 90 5 wb.heap.size wb.heap.size (.pointer (some ⟨wb.heap.size, 0, none⟩)) (Lib.byteCells ((fixw (18 * (k - (m + 1))) (n / Ts ^ (m + 1))).map db) ++ Lib.strCells sb) w2) (hb : Below wb.heap.size wr w2) : BldMem wb n k m w2 := by
  refine ⟨.inr ?_, h.ext.below hb⟩
  have e : Lib.byteCells ((fixw (18 * (k - (m + 1))) (n / Ts ^ (m + 1))).map db) ++ Lib.strCells sb = Lib.byteCells ((fixw (18 * (k - m)) (n / Ts ^ m)).map db) := by
    rw [hs, show 18 * (k - m) = 18 * (k - (m + 1)) + 18 by omega, fixw_add, Nat.pow_succ, ← Nat.div_div_eq_div_mul, Ts_def]
    simp [Lib.byteCells, Lib.strCells]
  rw [← e]
  exact h2

theorem trim_digits {k n : Nat} (h : n < 10 ^ k) : Lib.trimLeftB ((fixw k n).map db) 48 = (dgs n).map db := by
  have key : ∀ l : List Nat, (∀ d ∈ l, d < 10) → (l.map db).dropWhile (· == 48) = (dropZ l).map db := by
    intro l
    induction l with
    | nil => intro _; rfl
    | cons d l ih =>
      intro hd
      have h1 := hd d (List.mem_cons_self ..)
      rw [List.map_cons, List.dropWhile_cons, dropZ]
      by_cases h0 : d = 0
      · rw [if_pos h0, if_pos (by rw [beq_iff_eq]; exact (db_eq h1).2 h0)]
        exact ih fun y hy => hd y (List.mem_cons_of_mem _ hy)
      · rw [if_neg h0, if_neg (by rw [beq_iff_eq]; exact fun e => h0 ((db_eq h1).1 e))]
        rfl
  rw [Lib.trimLeftB, key _ (fixw_lt k n), dropZ_fixw h]

theorem pow_ts (k n m : Nat) (h : n < Bs ^ m) (hk : n / Ts ^ k ≠ 0) : k ≤ 2 * m := by
  have h1 : Ts ^ k ≤ n := by
    rcases Nat.lt_or_ge n (Ts ^ k) with g | g
    · exact absurd (Nat.div_eq_of_lt g) hk
    · exact g
  have h2 : (2 ^ 32) ^ k ≤ Ts ^ k := Nat.pow_le_pow_left (by rw [Ts_def]; decide) k
  have h3 : (2 ^ 32) ^ k < Bs ^ m := Nat.lt_of_le_of_lt (Nat.le_trans h2 h1) h
  rw [Bs_eq, ← Nat.pow_mul, ← Nat.pow_mul] at h3
  have h4 := (Nat.pow_lt_pow_iff_right (by decide : 1 < 2)).1 h3
  omega

structure ShowMem (w : World) (n k V : Nat) (pv v : Value) (wr : World) : Prop where
  own : wr.ownsRow w.heap.size 9 1 pv k (parts n k)
  lim : Limbs wr v (dig V)
  v_eq : V = n / Ts ^ k
  ext : Ext w wr

set_option maxHeartbeats 2000000 in
set_option maxRecDepth 1000000 in
theorem show_calls {w : World} {v : Value} {A : List Nat} (hA : Limbs w v A) (hln : A.length ≤ 65536) :
    Calls Tryz.prog 53 #[v] w fun e w' => e = .returned (.string ⟨(showL (val A)).toArray⟩) ∧ Ext w w' := by
  have HL : Hid (A.length ≤ Lmax) := by show _ ≤ Lmax; rw [Lmax_def]; omega
  obtain ⟨n, hn⟩ : ∃ n, n = val A := ⟨_, rfl⟩
  have HDL : Hid (∀ V, V ≤ n → (dig V).length ≤ 65536) := by
    intro V hV
    refine Nat.le_trans (dig_len_le (Nat.lt_of_le_of_lt hV (by rw [hn]; exact val_lt hA.2))) hln
  rw [← hn]
  have HN := Lib.hid hn
  have HLN := Lib.hid hln
  clear hn hln
  go_enter Tryz.func53, Tryz.ntmps53
  go_wp2_with fail
  refine (trim_calls hA HL.out).mono ?_
  rintro e w1 ⟨a1, rfl, ha1, hx1⟩
  rw [← HN.out] at ha1
  go_wp2_with fail
  go_loopg [3, 4] n (fun V pv v wr => ∃ k : Nat, V ≤ n ∧ k ≤ 131073 ∧ ShowMem w n k V pv v wr)
  case atStart => exact ⟨0, Nat.le_refl _, by omega, World.ownsRow_nil .., ha1.limbs, by simp, hx1⟩
  case round =>
    obtain ⟨k, hV, hk3, hI⟩ := hrel
    have hlim := hI.lim
    obtain ⟨a, cap, rfl, k1, k2, -⟩ := hlim.open
    unfold maxLen at k2
    by_cases h0 : gk = 0
    · have hlen : (dig gk).length = 0 := by rw [h0, dig_zero]; rfl
      have H0 := Lib.hid h0
      obtain ⟨wb, rfl⟩ : ∃ wb : World, wb = wr := ⟨_, rfl⟩
      obtain ⟨pa, pc, rfl⟩ := own_shape hI.own
      have HI := Lib.hid hI
      have HB0 : Hid (∀ C : Array Value, C = #[.pointer none, .slice none 0 0] → BldMem wb n k k (wb.alloc (.cells C 90))) := BldMem.start wb n k
      have HBD : Hid (n < 10 ^ (18 * k)) := by
        have h1 := HI.out.v_eq
        rw [h0] at h1
        have h2 : n < Ts ^ k := by
          rcases Nat.lt_or_ge n (Ts ^ k) with g | g
          · exact g
          · have := Nat.div_pos g (Nat.pow_pos Ts_pos); omega
        show n < _
        rw [Nat.pow_mul, ← Ts_def]; exact h2
      clear h0 hI
      go_wp2_with fail
      clear hlen
      go_loopw [11] (fun v11 wx => ∃ j : Nat, v11 = .int .i64 ((j : Int) - 1) ∧ j ≤ k ∧ BldMem wb n k j wx) (fun v11 _ => (intOf v11 + 1).toNat)
      case atStart => exact ⟨k, rfl, Nat.le_refl _, HB0.out _ rfl⟩
      case round =>
        obtain ⟨j, rfl, hj, hM⟩ := hrel
        by_cases hj0 : j = 0
        · subst hj0
          obtain ⟨s1, hs1⟩ : ∃ s1 : ByteArray, s1 = ⟨((fixw (18 * k) n).map db).toArray⟩ := ⟨_, rfl⟩
          have hB := bldString_calls wb.heap.size wb.heap.size ((fixw (18 * (k - 0)) (n / Ts ^ 0)).map db) wr hM.bld hM.ext.size
          rw [Nat.sub_zero, Nat.pow_zero, Nat.div_one, ← hs1] at hB
          have HBS := Lib.hid hB
          have H3 : Hid ((⟨(Lib.trimLeftB s1.data.toList 48).toArray⟩ : ByteArray) = ⟨((dgs n).map db).toArray⟩) := by
            show (_ : ByteArray) = _
            rw [hs1]
            show (⟨(Lib.trimLeftB ((fixw (18 * k) n).map db) 48).toArray⟩ : ByteArray) = _
            rw [trim_digits HBD.out]
          obtain ⟨s3, hs3⟩ : ∃ s3 : ByteArray, s3 = ⟨((dgs n).map db).toArray⟩ := ⟨_, rfl⟩
          rw [← hs3] at H3
          have HM := Lib.hid hM
          clear hB hM hs1
          by_cases hn0 : n = 0
          · have hs4 : s3 = ⟨#[]⟩ := by rw [hs3, hn0, dgs_zero]; rfl
            have HR : Hid (showL n = [48]) := by show _ = _; rw [hn0]; rfl
            clear hs3 hn0
            subst hs4
            go_wp2_with (first
              | (go_at_call 85; refine (HBS.out).mono ?_; rintro e w2 ⟨rfl, hx2⟩)
              | (go_at_call 84; refine (trimLeft_one s1 48 (by decide) _).mono ?_; rintro e w3 ⟨rfl, rfl⟩; rw [H3.out]))
            go_ret
            exact ⟨by rw [HR.out]; rfl, HI.out.ext.trans (HM.out.ext.below hx2)⟩
          · have hne : s3.toList.isEmpty = false := by
              rw [Lib.toList_data, hs3]
              simp [dgs_ne hn0]
            have hne2 : ¬ s3.toList = [] := by intro e; rw [e] at hne; exact absurd hne (by decide)
            have HR : Hid ((⟨(showL n).toArray⟩ : ByteArray) = s3) := by show (_ : ByteArray) = _; rw [hs3, showL_pos hn0]
            clear hs3 hn0
            go_wp2_with (first
              | (go_at_call 85; refine (HBS.out).mono ?_; rintro e w2 ⟨rfl, hx2⟩)
              | (go_at_call 84; refine (trimLeft_one s1 48 (by decide) _).mono ?_; rintro e w3 ⟨rfl, rfl⟩; rw [H3.out]))
            go_ret
            exact ⟨by rw [HR.out]; rfl, HI.out.ext.trans (HM.out.ext.below hx2)⟩
        · obtain ⟨m, rfl⟩ : ∃ m, j = m + 1 := ⟨j - 1, by omega⟩
          obtain ⟨g, rfl, hg, hpc, hpm, hcells⟩ := own_cell HI.out.own (j := m) (by omega)
          unfold maxLen at hpm
          obtain ⟨sb, hsb⟩ : ∃ sb : ByteArray, sb = ⟨((fixw 18 (n / Ts ^ m)).map db).toArray⟩ := ⟨_, rfl⟩
          have hc : wr.cell? ⟨g, m, none⟩ = some (.string sb) := by
            rw [Below.cell hM.ext (p := ⟨g, m, none⟩) hg, hcells m (by omega), hsb]
            simp [parts, part, show m < k by omega]
          have hsz : sb.size = 18 := by rw [hsb]; simp [ByteArray.size, fixw_length]
          have hW := writeString_calls wb.heap.size wb.heap.size _ sb wr hM.bld (by rw [hsz]; simp [Lib.byteCells, fixw_length]; omega) hM.ext.size
          have HW := Lib.hid hW
          have HSB := Lib.hid hsb
          have HM := Lib.hid hM
          clear hW hsb hM hsz hcells
          go_wp2_with (go_at_call 83; refine (HW.out).mono ?_; rintro e w2 ⟨rfl, h2, hb2⟩)
          exact ⟨⟨m, rfl, by omega, HM.out.next (by omega) HSB.out h2 hb2⟩, by simp [intOf]⟩
    · have hlen : (0 : Int) < ((dig gk).length : Int) := by rw [dig_pos h0, List.length_cons]; omega
      have HI := Lib.hid hI
      obtain ⟨d, hd⟩ : ∃ d, d = gk % Ts := ⟨_, rfl⟩
      have hdB : d < Bs := by rw [hd]; exact Nat.lt_trans (Nat.mod_lt _ Ts_pos) Ts_lt
      have HK : Hid (k ≤ 131072) := by
        have := pow_ts k n A.length (by rw [HN.out]; exact val_lt hA.2) (by rw [← HI.out.v_eq]; exact h0)
        have h2 := HLN.out
        show k ≤ 131072
        omega
      have hL : Limbs (wr.alloc (.cells #[.int .u64 1000000000000000000] 46)) (.slice (some ⟨wr.heap.size, 0, none⟩) 1 1) [Ts] :=
        limbs_lit wr [Ts] (by simpa using Ts_lt) _ (by simp [lv, Ts_def]) 1 rfl (by rw [Lmax_def]; simp)
      have hvT : val [Ts] = Ts := by simp [val]
      have hdv := div1_calls (hlim.ext ((Ext.refl wr).alloc _)) hL (by rw [Lmax_def]; exact Nat.le_trans (HDL.out gk hV) (by omega)) (by rw [Lmax_def]; decide) (by rw [hvT]; exact Ts_pos) (by rw [hvT]; exact Ts_lt)
      rw [hvT, val_dig, ← hd] at hdv
      have HD := Lib.hid hdv
      have HD1 : Hid ((dig d).length ≤ Lmax) := by
        show _ ≤ Lmax
        rw [Lmax_def]; exact Nat.le_trans (dig_len_le (k := 1) (by simpa using hdB)) (by omega)
      have HS : Hid (smallN (val (dig d)) = d) := by show smallN _ = d; rw [val_dig, smallN, if_pos hdB]
      obtain ⟨sb, hsb⟩ : ∃ sb : ByteArray, sb = ⟨((fixw 18 d).map db).toArray⟩ := ⟨_, rfl⟩
      have HB := Lib.hid hsb
      have HP : Hid (Value.string sb = part n k) := by
        show Value.string _ = Value.string _
        rw [hsb]
        have e : fixw 18 (gk % Ts) = fixw 18 gk := by rw [Ts_def]; exact fixw_mod 18 gk
        rw [hd, e, HI.out.v_eq]
      have HDD := Lib.hid hd
      have HDB := Lib.hid hdB
      have hlt : gk / Ts < gk := Nat.div_lt_self (by omega) (by rw [Ts_def]; decide)
      have HLT := Lib.hid hlt
      clear hdv hvT hI hd hdB hlt hsb
      go_wp2_with (first
        | (go_at_call 41; refine (HD.out).mono ?_; rintro e w2 ⟨q, r, rfl, hq, hr, hx2⟩)
        | (go_at_call 47; refine (small_calls hr.limbs HD1.out).mono ?_; rintro e w' ⟨rfl, rfl⟩; rw [HS.out])
        | (go_at_call 82; refine (digits_calls _ d HDB.out).mono ?_; rintro e w3 ⟨rfl, hx3⟩; rw [← HB.out])
        | (at_builtin; refine wpList_append_sl rfl _ _ 85 rfl w.heap.size 9 (.string ⟨#[]⟩) 1 16 Tryz.underlying85 info_str rfl (by decide) _ k (parts n k) rfl (ownsRow_ext HI.out.own ((((Ext.refl wr).alloc _).trans hx2).trans (hx3.alloc _))) _ 1 [.string sb] rfl (sl_lit _ _ #[.string sb] 1 rfl (by unfold maxLen; omega)) (by simp [Value.oneCell']) (by have := HK.out; unfold maxLen; omega) (by have := HK.out; omega) (((HI.out.ext.alloc _).trans hx2).trans (hx3.alloc _)).size ?_; intro v' w' hown' hgrow; have hE := own_grow_ext HI.out.own HI.out.ext ((((Ext.refl wr).alloc _).trans hx2).trans (hx3.alloc _)) hgrow; have HO := Lib.hid hown'; clear hown'))
      · have hq' := hq.ext hx3
        have hqk := (hq'.ext ((Ext.refl _).alloc _)).kept hgrow (fun g hg => by have := (HI.out.own.lt g hg).2; simp; omega)
        go_roundg (gk / Ts)
        case measure => exact HLT.out
        case rel => exact ⟨k + 1, Nat.le_trans (Nat.le_of_lt HLT.out) hV, by have := HK.out; omega, by rw [parts_succ, ← HP.out]; exact HO.out, hqk.limbs, by rw [HI.out.v_eq, Nat.div_div_eq_div_mul, Nat.pow_succ], hE⟩
end Go.Proofs.YtomhfipgabpfiaaGreatDoor
