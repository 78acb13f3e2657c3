/- Contracts of package nat, second part: sums, differences, products. -/
import Derived.Test.YtomhfipgabpfiaaGreatDoorNat1
namespace Go.Proofs.YtomhfipgabpfiaaGreatDoor
open Go Go.RowKit

theorem Below.of_ext {w0 w : World} (h : Ext w0 w) : Below w0.heap.size w0 w := h

/-- what holds in the rounds of each: k limbs are made -/
structure EachInv (w0 : World) (g bc n : Nat) (F : Nat → Nat → Nat → Nat × Nat) (A B : List Nat) (k : Nat) (wr : World) : Prop where
  own : wr.ownsRow g 46 1 (.slice (some ⟨g, 0, none⟩) n n) n ((outsTo F A B k ++ List.replicate (n - k) 0).map lv)
  cell : wr.cell? ⟨bc, 0, none⟩ = some (.int .u64 (carryTo F A B k : Nat))
  froz : wr.frozen? ⟨bc, 0, none⟩ = false
  ext : Ext w0 wr

section
variable {w0 : World} {g bc n : Nat} {F : Nat → Nat → Nat → Nat × Nat} {A B : List Nat} {k : Nat} {wr w2 : World} {u : Value}
theorem EachInv.cell2 (h : EachInv w0 g bc n F A B k wr) (hw : wr.setCell ⟨bc, 0, none⟩ u = w2) (hb : bc < g) (hk : k < n) : w2.cell? ⟨g, k, none⟩ = some (lv 0) := by
  subst hw
  rw [World.cell?_of_block (w := wr) (Below.heap_setCell _ _ _ _ (by show g ≠ bc; omega)), h.own.cellAt k (by omega)]
  simp [outsTo_length, show 0 < n - k by omega]
theorem EachInv.froz2 (h : EachInv w0 g bc n F A B k wr) (hw : wr.setCell ⟨bc, 0, none⟩ u = w2) (hb : bc < g) (j : Nat) : w2.frozen? ⟨g, j, none⟩ = false := by
  subst hw
  rw [World.frozen?_of_block (w := wr) (Below.heap_setCell _ _ _ _ (by show g ≠ bc; omega)), h.own.frozenAt j]
theorem EachInv.next (h : EachInv w0 g bc n F A B k wr) (hw : wr.setCell ⟨bc, 0, none⟩ (.int .u64 (carryTo F A B (k + 1) : Nat)) = w2) (hb : bc < g) (hbc : w0.heap.size ≤ bc) (hk : k < n) :
    EachInv w0 g bc n F A B (k + 1) (w2.setCell ⟨g, k, none⟩ (.int .u64 ((F (el A k) (el B k) (carryTo F A B k)).1 : Nat))) := by
  subst hw
  have o2 : (wr.setCell ⟨bc, 0, none⟩ (.int .u64 (carryTo F A B (k + 1) : Nat))).ownsRow g 46 1 (.slice (some ⟨g, 0, none⟩) n n) n ((outsTo F A B k ++ List.replicate (n - k) 0).map lv) :=
    ownsRow_setCell_below h.own (by show bc < g; exact hb) _
  obtain ⟨o3, g3⟩ := o2.stored k (.int .u64 ((F (el A k) (el B k) (carryTo F A B k)).1 : Nat))
  refine ⟨?_, ?_, ?_, ?_⟩
  · obtain ⟨m, hm⟩ : ∃ m, n - k = m + 1 := ⟨n - k - 1, by omega⟩
    rw [outsTo, show n - (k + 1) = m by omega, ← set_outs, ← hm, outsTo_length, List.map_set]
    exact o3
  · rw [cell_set_other (.inl (by omega))]
    exact cell_set_same h.cell _
  · rw [World.frozen?_setCell, World.frozen?_setCell]
    exact h.froz
  · exact Below.setCell (Below.setCell h.ext (by show w0.heap.size ≤ bc; exact hbc) _) (by show w0.heap.size ≤ g; omega) _
theorem EachInv.out (h : EachInv w0 g bc n F A B n wr) (hl : ∀ x ∈ outsTo F A B n, x < Bs) : Limbs wr (.slice (some ⟨g, 0, none⟩) n n) (outsTo F A B n) := by
  have := h.own
  rw [Nat.sub_self, List.replicate_zero, List.append_nil] at this
  exact ⟨by rw [outsTo_length]; exact Own.sl (B := g) (e := 46) (.inl this), hl⟩
end

set_option maxHeartbeats 1000000 in
theorem each_calls {w0 w : World} {v u : Value} {A B : List Nat} (hA : Limbs w0 v A) (hB : Limbs w0 u B) (hlA : A.length ≤ Lmax) (hlB : B.length ≤ Lmax) (hln : max A.length B.length + 1 ≤ Lmax)
    (hx : Ext w0 w) (bc : Nat) (hbc : w0.heap.size ≤ bc) (hbl : bc < w.heap.size) (hc0 : w.cell? ⟨bc, 0, none⟩ = some (.int .u64 0)) (hf0 : w.frozen? ⟨bc, 0, none⟩ = false)
    (f : FuncId) (hcall : ∀ args W, (callFunc f args).run Tryz.prog W = .ok (.enter f args) W)
    (F : Nat → Nat → Nat → Nat × Nat) (hF : ∀ x y c, x < Bs → y < Bs → c ≤ 1 → (F x y c).1 < Bs ∧ (F x y c).2 ≤ 1)
    (hstep : ∀ (W : World) (x y c : Nat), c ≤ 1 → W.cell? ⟨bc, 0, none⟩ = some (.int .u64 (c : Int)) → W.frozen? ⟨bc, 0, none⟩ = false →
      Calls Tryz.prog f #[.int .u64 (x : Int), .int .u64 (y : Int), .pointer (some ⟨bc, 0, none⟩)] W fun e W' =>
        e = .returned (.int .u64 ((F x y c).1 : Nat)) ∧ W.setCell ⟨bc, 0, none⟩ (.int .u64 ((F x y c).2 : Nat)) = W') :
    Calls Tryz.prog 76 #[v, u, .func (.func f) #[] #[.pointer (some ⟨bc, 0, none⟩)]] w fun e w' =>
      ∃ r, e = .returned r ∧ OwnL w0.heap.size w' r (dig (val (outsTo F A B (max A.length B.length + 1)))) ∧ Ext w0 w' := by
  have hoA := hA.open
  have hoB := hB.open
  obtain ⟨a, cap, rfl, h1, h2, -⟩ := hoA
  obtain ⟨b, cap', rfl, g1, g2, -⟩ := hoB
  have HL := Lib.hid hlA
  have HL' := Lib.hid hlB
  have HF := Lib.hid hF
  have HS := Lib.hid hstep
  have HC := Lib.hid hc0
  have HG := Lib.hid hf0
  obtain ⟨n, hn⟩ : ∃ n, n = max A.length B.length + 1 := ⟨_, rfl⟩
  rw [← hn] at hln ⊢
  have kn := lmax_le hln
  have lA : A.length < n := by omega
  have lB : B.length < n := by omega
  have HM := Lib.hid hn
  have HN := Lib.hid hln
  clear hn
  have kA := lmax_le hlA
  have kB := lmax_le hlB
  unfold maxLen at h2 g2
  clear hlA hlB hln hF hstep hc0 hf0
  go_enter Tryz.func76, Tryz.ntmps76
  go_wp2_with (at_make; refine make_limbs rfl _ _ 23 Tryz.underlying23 rfl n _ (by rw [HM.out]; omega) rfl rfl HN.out ?_; intro w1 hown1 hg1; have O1 := Lib.hid hown1; clear hown1)
  have hI0 : EachInv w0 w.heap.size bc n F A B 0 w1 := ⟨by simpa [outsTo] using O1.out, (hg1.cell HC.out (by simp)), by rw [World.frozen?_of_block (hg1.block bc hbl (by simp))]; exact HG.out, hx.grown hg1 (by intro k hk; cases hk)⟩
  go_loopw [18] (fun v18 wr => ∃ k : Nat, v18 = .int .i64 (k : Int) ∧ k ≤ n ∧ EachInv w0 w.heap.size bc n F A B k wr) (fun v18 _ => n - (intOf v18).toNat)
  case atStart => exact ⟨0, rfl, Nat.zero_le _, hI0⟩
  case round =>
    obtain ⟨k, rfl, hk, hI⟩ := hrel
    by_cases hkn : k < n
    · have hc1 := carryTo_le HF.out hA.2 hB.2 k
      have hAk := hA.ext hI.ext
      have hBk := hB.ext hI.ext
      go_wp2_with (first
        | (go_at_call 80; first | ((with_reducible refine (limb_calls hAk _).mono ?_); rintro e w' ⟨rfl, rfl⟩; rw [limbAt_nat]) | ((with_reducible refine (limb_calls hBk _).mono ?_); rintro e w' ⟨rfl, rfl⟩; rw [limbAt_nat]))
        | ((with_reducible refine (HS.out wr _ _ _ hc1 hI.cell hI.froz).mono ?_); rintro e w2 ⟨rfl, hw2⟩; have HW := Lib.hid hw2; clear hw2; have c2 := hI.cell2 HW.out hbl hkn; have f2 := hI.froz2 HW.out hbl k))
      exact ⟨⟨k + 1, by go_num, by omega, hI.next HW.out hbl hbc hkn⟩, by simp [intOf]; omega⟩
    · obtain rfl : k = n := by omega
      have hT := hI.out (fun x hx => outsTo_lt HF.out hA.2 hB.2 k x hx)
      have hlen : Hid ((outsTo F A B k).length ≤ Lmax) := by show _ ≤ Lmax; rw [outsTo_length]; exact HN.out
      go_wp2_with (go_at_call 49; refine (trim_calls hT hlen.out).mono ?_; rintro e w' ⟨r, rfl, hr, hx'⟩)
      go_ret
      exact ⟨r, rfl, hr.mono hI.ext.size, hI.ext.trans hx'⟩

set_option maxHeartbeats 400000 in
theorem add1_calls (bc : Nat) (W : World) (x y c : Nat) (hc : c ≤ 1) (h1 : W.cell? ⟨bc, 0, none⟩ = some (.int .u64 (c : Int))) (h2 : W.frozen? ⟨bc, 0, none⟩ = false) :
    Calls Tryz.prog 77 #[.int .u64 (x : Int), .int .u64 (y : Int), .pointer (some ⟨bc, 0, none⟩)] W fun e W' =>
      e = .returned (.int .u64 ((addF x y c).1 : Nat)) ∧ W.setCell ⟨bc, 0, none⟩ (.int .u64 ((addF x y c).2 : Nat)) = W' := by
  go_enter Tryz.func77, Tryz.ntmps77
  go_wp2_with (go_at_call 67; refine (add_calls _ x y c hc).mono ?_; rintro e w' ⟨rfl, rfl⟩)
  go_ret
  exact ⟨rfl, rfl⟩

theorem RetNat.mk {w w' : World} {n m : Nat} {r : Value} (h : OwnL w.heap.size w' r (dig m)) (k : Ext w w') (e : m = n) : RetNat w n (.returned r) w' := ⟨r, rfl, e ▸ h, k⟩

set_option maxHeartbeats 400000 in
theorem natadd_calls {w : World} {v u : Value} {A B : List Nat} (hA : Limbs w v A) (hB : Limbs w u B) (hlA : A.length < Lmax) (hlB : B.length < Lmax) :
    Calls Tryz.prog 43 #[v, u] w (RetNat w (val A + val B)) := by
  have HLA := Lib.hid hlA
  have HLB := Lib.hid hlB
  have hA1 := Lib.hid hA.2
  have hB1 := Lib.hid hB.2
  clear hlA hlB
  go_enter Tryz.func43, Tryz.ntmps43
  go_wp2_with (go_at_call 76; refine (each_calls hA hB (Nat.le_of_lt HLA.out) (Nat.le_of_lt HLB.out) (by have := HLA.out; have := HLB.out; omega) ((Ext.refl w).alloc _) w.heap.size (Nat.le_refl _) (by simp) (by simp [go_sem]) (by simp [go_sem]) _ (fun _ _ => by simp [go_sem]) addF addF_ok (fun W x y c => add1_calls _ W x y c)).mono ?_; rintro e w' ⟨r, rfl, hr, hx⟩)
  go_ret
  exact RetNat.mk hr hx (add_outs hA1.out hB1.out)
end Go.Proofs.YtomhfipgabpfiaaGreatDoor
