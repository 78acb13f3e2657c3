/- The frame of the cards, of whole numbers: a struct of a sign and a natural is opened. -/
import Derived.Test.YtomhfipgabpfiaaGreatDoorCardBase
namespace Go.Proofs.YtomhfipgabpfiaaGreatDoor
open Go Go.ChangeShapes Go.WideShapes Go.ChangeAt Go.RowKit
set_option maxRecDepth 100000

theorem cells_nat : Tryz.prog.cellsOf 23 = 1 := by kernel_rfl
theorem cells_bool : Tryz.prog.cellsOf 4 = 1 := by kernel_rfl
theorem cells_int : Tryz.prog.cellsOf 25 = 2 := by kernel_rfl

section
variable {H : Type} {enc : TypeId × Value → H} {W : World} {base b0 : Nat}

theorem limbs_of_trod {t : TypeId} {fuel : Nat} {c : Value} {x : DataW H × List MemPlace} (ht : Tryz.prog.underlying t = some (.slice 46)) (hf : DataW.trod enc Tryz.prog W base (fun _ => true) true fuel t [c] = some x) : ∃ A, Limbs W c A := by
  rcases open_ints ht Tryz.underlying46 cells_u64 hf with ⟨hc, -⟩ | ⟨a', len', cap', zs, hc, hb, hl, hm, hz, -, hcell, hwf⟩
  · have e : c = .slice none 0 0 := by simpa using hc
    rw [e]
    exact ⟨[], Limbs.nil W⟩
  · have e : c = .slice (some a') len' cap' := by simpa using hc
    rw [e]
    simp only [if_true] at hz
    refine ⟨(zs.take len').map Int.toNat, ⟨by simp, some a', cap', ?_, by simp; omega, hm, (fun e => by cases e), fun p hp h0 => ?_⟩, fun x hx => ?_⟩
    · simp [hz, Nat.min_eq_left hl]
    · obtain rfl := Option.some.inj hp
      have h1 : 0 < zs.length := by simp at h0; omega
      obtain ⟨b, off, rfl, hc2⟩ := ints_at hcell h1
      refine ⟨rfl, ?_, fun j hj => ?_⟩
      · have := hc2 0 h1
        rcases Nat.lt_or_ge b W.heap.size with g | g
        · exact g
        · simp [World.cell?, Array.getElem?_eq_none g] at this
      · have hj' : j < zs.length ∧ j < len' := by simp at hj; omega
        rw [hc2 j hj'.1]
        have hb0 := bounds_u64 (hwf zs[j] (List.getElem_mem hj'.1))
        simp [lv, List.getD, hj'.1]
        omega
    · obtain ⟨z, hz', rfl⟩ := List.mem_map.1 hx
      have hb0 := bounds_u64 (hwf z (List.mem_of_mem_take hz'))
      rw [Bs_def]; omega

theorem bool_of_trod {t : TypeId} {fuel : Nat} {c : Value} {x : DataW H × List MemPlace} (ht : Tryz.prog.underlying t = some .bool) (hf : DataW.trod enc Tryz.prog W base (fun _ => true) true fuel t [c] = some x) : ∃ b, c = .bool b := by
  cases fuel with
  | zero => simp [DataW.trod] at hf
  | succ n =>
    unfold DataW.trod at hf
    rw [ht] at hf
    cases c <;> simp_all

/-- a whole number, as it comes in -/
theorem open_whole {v : Value} {d : DataW H} {ps : List MemPlace} {r : Reach} (hval : Value.okWide Tryz.prog W r b0 25 v) (h : DataW.Trod enc Tryz.prog W base (fun _ => true) true 25 v d ps) :
    ∃ b u A, v = .agg #[.bool b, u] ∧ Limbs W u A := by
  obtain ⟨cs, rfl, hsz⟩ := okWide_struct Tryz.underlying25 hval
  rw [cells_int] at hsz
  obtain ⟨c0, c1, rfl⟩ : ∃ c0 c1, cs = #[c0, c1] := ⟨cs[0], cs[1], by
    refine Array.ext (by simpa using hsz) fun i h1 h2 => ?_
    have : i = 0 ∨ i = 1 := by simp at h2; omega
    rcases this with rfl | rfl <;> rfl⟩
  obtain ⟨fuel, hf⟩ := h
  obtain ⟨y0, y1, n, -, -, h0, h1⟩ := trod_struct2 Tryz.underlying25 hf
  simp only [Value.cells, cells_bool, cells_nat, List.drop_zero, List.take_succ_cons, List.take_zero, List.drop_succ_cons, List.take_nil] at h0 h1
  obtain ⟨b, rfl⟩ := bool_of_trod Tryz.underlying4 h0
  obtain ⟨A, hA⟩ := limbs_of_trod Tryz.underlying23 h1
  exact ⟨b, c1, A, rfl, hA⟩
end
end Go.Proofs.YtomhfipgabpfiaaGreatDoor
