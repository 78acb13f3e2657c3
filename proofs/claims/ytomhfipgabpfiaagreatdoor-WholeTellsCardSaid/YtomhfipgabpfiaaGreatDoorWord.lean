/- Contracts of package word, and of math/bits below it. -/
import Derived.Test.YtomhfipgabpfiaaGreatDoorBase
import Derived.Test.YtomhfipgabpfiaaGreatDoorPlain
import Derived.Test.YtomhfipgabpfiaaGreatDoorShelf
import Derived.WalkLawsBesides
import Derived.WalkMore
namespace Go.Proofs.YtomhfipgabpfiaaGreatDoor
open Go Go.RowKit Go.Shelf

theorem one_calls (w : World) (c : Nat) :
    Calls Tryz.prog 89 #[.int .u64 (c : Int)] w fun e w' => e = .returned (.int .u64 ((min c 1 : Nat) : Int)) ∧ w = w' := by
  go_enter Tryz.func89, Tryz.ntmps89
  go_wp2
  all_goals (go_ret; exact ⟨ret_eq (int_eq (by omega)), rfl⟩)

theorem add64_run (x y c : Nat) (hc : c ≤ 1) (w : World) :
    (callFunc 88 #[.int .u64 (x : Int), .int .u64 (y : Int), .int .u64 (c : Int)]).run Tryz.prog w =
      .ok (.value (.tuple #[.int .u64 (addLo x y c : Nat), .int .u64 (addHi x y c : Nat)])) w := by
  unfold addLo addHi; rw [Bs_def]; exact Any7.bits_Add64 Tryz.lays25 x y c hc w

theorem sub64_run (x y c : Nat) (hc : c ≤ 1) (w : World) :
    (callFunc 93 #[.int .u64 (x : Int), .int .u64 (y : Int), .int .u64 (c : Int)]).run Tryz.prog w =
      .ok (.value (.tuple #[.int .u64 (subLo x y c : Nat), .int .u64 (subHi x y c : Nat)])) w := by
  unfold subLo subHi; rw [Bs_def]; exact Any7.bits_Sub64 Tryz.lays26 x y c hc w

theorem mul64_calls (x y : Nat) (hx : x < Bs) (hy : y < Bs) (w : World) :
    Calls Tryz.prog 87 #[.int .u64 (x : Int), .int .u64 (y : Int)] w fun e w' =>
      e = .returned (.tuple #[.int .u64 (mulHi x y : Nat), .int .u64 (mulLo x y : Nat)]) ∧ w = w' := by
  unfold mulHi mulLo
  rw [Bs_def] at *
  exact (Any.bits_Mul64 Tryz.lays264 x y hx hy w).mono fun _ _ ⟨h1, h2⟩ => ⟨h1, h2.symm⟩

theorem add_calls (w : World) (x y c : Nat) (hc : c ≤ 1) :
    Calls Tryz.prog 67 #[.int .u64 (x : Int), .int .u64 (y : Int), .int .u64 (c : Int)] w fun e w' =>
      e = .returned (.tuple #[.int .u64 (addLo x y c : Nat), .int .u64 (addHi x y c : Nat)]) ∧ w = w' := by
  have hm : min c 1 = c := by omega
  have h1 := fun W => add64_run x y c hc W
  go_enter Tryz.func67, Tryz.ntmps67
  go_wp2_with (go_at_call 89; refine (one_calls _ c).mono ?_; rintro e w' ⟨rfl, rfl⟩; rw [hm])
  go_ret2
  exact ⟨rfl, rfl⟩

theorem add0_calls (w : World) (x y : Nat) :
    Calls Tryz.prog 67 #[.int .u64 (x : Int), .int .u64 (y : Int), .int .u64 0] w fun e w' =>
      e = .returned (.tuple #[.int .u64 (addLo x y 0 : Nat), .int .u64 (addHi x y 0 : Nat)]) ∧ w = w' := add_calls w x y 0 (Nat.zero_le _)

theorem sub_calls (w : World) (x y c : Nat) (hc : c ≤ 1) :
    Calls Tryz.prog 79 #[.int .u64 (x : Int), .int .u64 (y : Int), .int .u64 (c : Int)] w fun e w' =>
      e = .returned (.tuple #[.int .u64 (subLo x y c : Nat), .int .u64 (subHi x y c : Nat)]) ∧ w = w' := by
  have hm : min c 1 = c := by omega
  have h1 := fun W => sub64_run x y c hc W
  go_enter Tryz.func79, Tryz.ntmps79
  go_wp2_with (go_at_call 89; refine (one_calls _ c).mono ?_; rintro e w' ⟨rfl, rfl⟩; rw [hm])
  go_ret2
  exact ⟨rfl, rfl⟩

theorem mul_calls (w : World) (x y : Nat) (hx : x < Bs) (hy : y < Bs) :
    Calls Tryz.prog 66 #[.int .u64 (x : Int), .int .u64 (y : Int)] w fun e w' =>
      e = .returned (.tuple #[.int .u64 (mulHi x y : Nat), .int .u64 (mulLo x y : Nat)]) ∧ w = w' := by
  go_enter Tryz.func66, Tryz.ntmps66
  go_wp2_with (go_at_call 87; refine (mul64_calls x y hx hy _).mono ?_; rintro e w' ⟨rfl, rfl⟩)
  go_ret2
  exact ⟨rfl, rfl⟩

/-- what holds in the rounds of word.Len: n bits and those of y are those of x; y has less than twice b -/
def LenInv (x y n b : Nat) : Prop := bl x = n + bl y ∧ (b ≠ 0 → y < 2 ^ (2 * b)) ∧ (b = 0 → y < 2) ∧ (b = 0 ∨ b = 1 ∨ b = 2 ∨ b = 4 ∨ b = 8 ∨ b = 16 ∨ b = 32) ∧ n + 2 * b ≤ 64

theorem LenInv.b_le {x y n b : Nat} (h : LenInv x y n b) : b ≤ 32 := by have := h.2.2.2.1; omega
theorem LenInv.n_le {x y n b : Nat} (h : LenInv x y n b) : n ≤ 64 := by have := h.2.2.2.2; omega
theorem LenInv.start {x : Nat} (h : x < Bs) : LenInv x x 0 32 := ⟨by simp, fun _ => by rw [Bs_def] at h; omega, by omega, by omega, by omega⟩
theorem LenInv.fin {x y n : Nat} (h : LenInv x y n 0) : bl x = n + y := by rw [h.1, bl_small (h.2.2.1 rfl)]
theorem LenInv.y_lt {x y n : Nat} (h : LenInv x y n 0) : y < 2 := h.2.2.1 rfl
theorem LenInv.big {x y n b : Nat} (h : LenInv x y n b) (hb : b ≠ 0) (hq : y / 2 ^ b ≠ 0) : LenInv x (y / 2 ^ b) (n + b) (b / 2) := by
  obtain ⟨h1, h2, _, h4, h5⟩ := h
  have h6 := h2 hb
  have h7 : y / 2 ^ b < 2 ^ b := by
    rw [Nat.div_lt_iff_lt_mul (Nat.two_pow_pos b), ← Nat.pow_add]
    rwa [show b + b = 2 * b by omega]
  refine ⟨by rw [h1, bl_shift hq]; omega, fun hb2 => ?_, fun hb0 => ?_, by omega, by omega⟩
  · have : 2 * (b / 2) = b := by omega
    rw [this]; exact h7
  · have : b = 1 := by omega
    subst this; simpa using h7
theorem LenInv.small {x y n b : Nat} (h : LenInv x y n b) (hb : b ≠ 0) (hq : y / 2 ^ b = 0) : LenInv x y n (b / 2) := by
  obtain ⟨h1, h2, _, h4, h5⟩ := h
  have h7 : y < 2 ^ b := by
    rcases Nat.lt_or_ge y (2 ^ b) with g | g
    · exact g
    · have := Nat.div_pos g (Nat.two_pow_pos b); omega
  refine ⟨h1, fun hb2 => ?_, fun hb0 => ?_, by omega, by omega⟩
  · have : 2 * (b / 2) = b := by omega
    rw [this]; exact h7
  · have : b = 1 := by omega
    subst this; simpa using h7

theorem nz_of {y b : Nat} (h : ((y : Int) / 2 ^ b != 0) = true) : y / 2 ^ b ≠ 0 := by
  intro e
  have : ((y : Int) / 2 ^ b) = ((y / 2 ^ b : Nat) : Int) := by simp
  rw [this, e] at h
  exact absurd h (by decide)
theorem z_of {y b : Nat} (h : ((y : Int) / 2 ^ b != 0) = false) : y / 2 ^ b = 0 := by
  have : ((y : Int) / 2 ^ b) = ((y / 2 ^ b : Nat) : Int) := by simp
  rw [this, bne_eq_false_iff_eq] at h
  omega

set_option maxHeartbeats 1000000 in
theorem len_calls (w : World) (x : Nat) (hx : x < Bs) :
    Calls Tryz.prog 69 #[.int .u64 (x : Int)] w fun e w' => e = .returned (.int .i64 (bl x : Nat)) ∧ w = w' := by
  go_enter Tryz.func69, Tryz.ntmps69
  go_wp2
  go_step3
  go_wp2
  go_step3
  go_wp2
  go_loop [0, 3, 4] (fun v0 v3 v4 => ∃ y n b : Nat, v0 = .int .u64 (y : Int) ∧ v3 = .int .i64 (n : Int) ∧ v4 = .int .i64 (b : Int) ∧ LenInv x y n b) (fun _ _ v4 => (intOf v4).toNat)
  case atStart => exact ⟨x, 0, 32, rfl, rfl, rfl, LenInv.start hx⟩
  case round =>
    obtain ⟨y, n, b, rfl, rfl, rfl, hI⟩ := hrel
    have hb := hI.b_le
    have hn := hI.n_le
    by_cases h0 : b = 0
    · subst h0
      have e0 := Lib.hid hI.fin
      have e1 := hI.y_lt
      go_wp2
      go_ret
      exact ⟨ret_eq (int_eq (by rw [e0.out]; omega)), rfl⟩
    · go_wp2
      · rename_i hq
        exact ⟨⟨_, _, _, by rw [Int.natCast_ediv, Int.natCast_pow]; rfl, by rw [Int.natCast_add], by rw [Int.natCast_ediv]; rfl, hI.big h0 (nz_of hq)⟩, by simp [intOf]; omega⟩
      · rename_i hq
        exact ⟨⟨_, _, _, rfl, rfl, by rw [Int.natCast_ediv]; rfl, hI.small h0 (z_of hq)⟩, by simp [intOf]; omega⟩

end Go.Proofs.YtomhfipgabpfiaaGreatDoor
