/- The contract of math/bits.Div64, and of word.Div. -/
import Derived.Test.YtomhfipgabpfiaaGreatDoorWord
import Derived.Test.YtomhfipgabpfiaaGreatDoorDivPlain
import Derived.Deep.DeepCutAuto
import Derived.Deep.CutBlock
import Derived.Deep.QuietTactic
import Derived.BigQuiet
import Derived.Lib.EndianBits
namespace Go.Proofs.YtomhfipgabpfiaaGreatDoor
open Go Go.RowKit Go.Shelf

theorem bl_half {x : Nat} (h : x ≠ 0) : bl x = 1 + bl (x / 2) := by
  by_cases h1 : x / 2 = 0
  · have : x = 1 := by omega
    subst this
    rw [bl_small (by omega)]; rfl
  · have := bl_shift (n := x) (k := 1) (by simpa using h1)
    simpa using this

theorem bitLen_bl : ∀ (x : Nat), x < Bs → Lib.bitLen x = bl x := by
  intro x
  induction x using Nat.strongRecOn with
  | _ x ih =>
    intro h
    by_cases h0 : x = 0
    · subst h0; rfl
    · rw [Lib.bitLen_half x h0 (by rw [← Bs_eq]; exact h), bl_half h0, ih (x / 2) (by omega) (by omega)]

theorem lz_calls (w : World) (x : Nat) (hx : x < Bs) :
    Calls Tryz.prog 105 #[.int .u64 (x : Int)] w fun e w' => e = .returned (.int .i64 ((64 - bl x : Nat) : Int)) ∧ w = w' := by
  have h := Any.bits_LeadingZeros64 Tryz.lays134 (x : Int) w (by omega) (by rw [Bs_def] at hx; omega)
  refine h.mono ?_
  rintro e w' ⟨rfl, rfl⟩
  refine ⟨ret_eq (int_eq ?_), rfl⟩
  have := bl_le_64 hx
  rw [Int.toNat_natCast, bitLen_bl x hx]
  omega

theorem and_mask (x : Nat) (h : x < Bs) : bits .and .u64 (x : Int) 4294967295 = ((x % Hs : Nat) : Int) := by
  have := bits_mask .u64 64 (by decide) wraps_u64 32 (by decide) (x : Int) (by omega) (by rw [Bs_def] at h; omega)
  rw [Hs_def]
  simpa using this
theorem or_join {x y i : Nat} (hi : i ≤ 64) (hx : x % 2 ^ i = 0) (hx1 : x < Bs) (hy : y < 2 ^ i) : bits .or .u64 (x : Int) (y : Int) = ((x + y : Nat) : Int) := by
  have h1 : (2 : Nat) ^ i ≤ 2 ^ 64 := Nat.pow_le_pow_right (by decide) hi
  have := bits_join .u64 64 (by decide) wraps_u64 i (x : Int) (y : Int) (by omega) (by exact_mod_cast hx) (by rw [Bs_def] at hx1; omega) (by omega) (by exact_mod_cast hy) (by omega)
  simpa using this
theorem shl_wrap (x s : Nat) : IntKind.u64.wrap ((x : Int) * 2 ^ s) = ((x * 2 ^ s % Bs : Nat) : Int) := by
  rw [IntKind.wrap_u64, Bs_def]
  simp

/-- u times Hs and d, less Q times Y, reckoned with words -/
theorem rest_wrap {u d Y Q R : Nat} (hQ : Q = (u * Hs + d) / Y) (hR : R = (u * Hs + d) % Y) (hY : Y < Bs) (hp : 0 < Y) :
    IntKind.u64.wrap (IntKind.u64.wrap (IntKind.u64.wrap ((u : Int) * 4294967296) + (d : Int)) - IntKind.u64.wrap ((Q : Int) * (Y : Int))) = (R : Int) := by
  have h1 : Y * Q + R = u * Hs + d := by rw [hQ, hR]; exact Nat.div_add_mod _ _
  have h2 : R < Y := by rw [hR]; exact Nat.mod_lt _ hp
  have h3 : ((Y * Q + R : Nat) : Int) = ((u * 4294967296 + d : Nat) : Int) := by rw [h1, Hs_def]
  simp only [Int.natCast_add, Int.natCast_mul] at h3
  rw [Bs_def] at hY
  simp only [IntKind.wrap_u64]
  rw [Int.mul_comm (Q : Int)]
  generalize (Y : Int) * (Q : Int) = t at *
  have e : ((4294967296 : Nat) : Int) = 4294967296 := rfl
  rw [e] at h3
  omega

set_option maxRecDepth 100000 in
set_option maxHeartbeats 4000000 in
theorem div64_calls (w : World) (hi lo y : Nat) (hy : y < Bs) (hl : lo < Bs) (hh : hi < y) :
    Calls Tryz.prog 99 #[.int .u64 (hi : Int), .int .u64 (lo : Int), .int .u64 (y : Int)] w fun e w' =>
      e = .returned (.tuple #[.int .u64 ((hi * Bs + lo) / y : Nat), .int .u64 ((hi * Bs + lo) % y : Nat)]) ∧ Ext w w' := by
  obtain ⟨s, hs⟩ : ∃ s, s = 64 - bl y := ⟨_, rfl⟩
  have hs63 : s ≤ 63 := by
    have : 0 < bl y := by have := bl_eq_zero y; omega
    omega
  have hy0 : ((y : Int) == 0) = false := by rw [beq_eq_false_iff_ne]; omega
  by_cases hz : hi = 0
  · subst hz
    have k1 : (1 : Int) ≤ (y : Int) := by omega
    have k0 : (0 : Int) ≤ (lo : Int) := by omega
    have k2 : (lo : Int) ≤ 18446744073709551615 := by rw [Bs_def] at hl; omega
    have k3 : (y : Int) ≤ 18446744073709551615 := by rw [Bs_def] at hy; omega
    have k4 : (lo : Int) / (y : Int) ≤ 18446744073709551615 := by
      have := Nat.div_le_self lo y
      have h : ((lo / y : Nat) : Int) ≤ 18446744073709551615 := by omega
      simpa using h
    have k5 : (0 : Int) ≤ (lo : Int) / (y : Int) := by
      have h : (0 : Int) ≤ ((lo / y : Nat) : Int) := Int.natCast_nonneg _
      simpa using h
    have k6 : (lo : Int) % (y : Int) ≤ 18446744073709551615 := by
      have := Nat.mod_le lo y
      have h : ((lo % y : Nat) : Int) ≤ 18446744073709551615 := by omega
      simpa using h
    have k7 : (0 : Int) ≤ (lo : Int) % (y : Int) := by
      have h : (0 : Int) ≤ ((lo % y : Nat) : Int) := Int.natCast_nonneg _
      simpa using h
    clear hs hy hl hh
    go_enter Tryz.func99, Tryz.ntmps99
    go_wp2_with fail
    go_quiet (fail)
    go_wp2_with fail
    go_ret2
    refine ⟨ret_eq ?_, ?_⟩
    · simp
    · exact (Ext.refl w).drewN _
  · have hz' : ((hi : Int) == 0) = false := by rw [beq_eq_false_iff_ne]; omega
    obtain ⟨n1, n2⟩ := norm_lt (by omega) hy hs
    have n3 := norm_high (hi := hi) (lo := lo) (show s ≤ 64 by omega)
    have n4 := norm_low (hi := hi) (lo := lo) (s := s)
    have n5 := norm_less (s := s) hh hl
    obtain ⟨Y, hY⟩ : ∃ Y, Y = y * 2 ^ s := ⟨_, rfl⟩
    obtain ⟨u, hu⟩ : ∃ u, u = (hi * Bs + lo) * 2 ^ s / Bs := ⟨_, rfl⟩
    obtain ⟨v, hv⟩ : ∃ v, v = (hi * Bs + lo) * 2 ^ s % Bs := ⟨_, rfl⟩
    have hfin := two_halves hu hv hY (by omega)
    rw [← hu] at n3 n5
    rw [← hY] at n1 n2 n5
    rw [← hv] at n4
    have hvB : v < Bs := by rw [hv]; exact Nat.mod_lt _ Bs_pos
    have E1 : IntKind.u64.wrap ((y : Int) * 2 ^ s) = (Y : Int) := by rw [shl_wrap, ← hY, Nat.mod_eq_of_lt n1]
    have E4 : bits .or .u64 (IntKind.u64.wrap ((hi : Int) * 2 ^ s)) ((lo : Int) / 2 ^ (64 - s)) = (u : Int) := by
      have a0 : hi * 2 ^ s ≤ u := by rw [n3]; exact Nat.le_add_right _ _
      have a1 : hi * 2 ^ s < Bs := by omega
      have a2 : lo / 2 ^ (64 - s) < 2 ^ s := by
        rw [Nat.div_lt_iff_lt_mul (Nat.two_pow_pos _), Nat.mul_comm, two_pow_split (by omega)]; exact hl
      have a3 : ((lo : Int) / 2 ^ (64 - s)) = ((lo / 2 ^ (64 - s) : Nat) : Int) := by simp
      rw [shl_wrap, Nat.mod_eq_of_lt a1, a3, or_join (i := s) (by omega) (Nat.mul_mod_left _ _) a1 a2, n3]
    have E5 : IntKind.u64.wrap ((lo : Int) * 2 ^ s) = (v : Int) := by rw [shl_wrap, n4]
    obtain ⟨y1, hy1⟩ : ∃ y1, y1 = Y / Hs := ⟨_, rfl⟩
    obtain ⟨y0, hy0'⟩ : ∃ y0, y0 = Y % Hs := ⟨_, rfl⟩
    obtain ⟨v1, hv1⟩ : ∃ v1, v1 = v / Hs := ⟨_, rfl⟩
    obtain ⟨v0, hv0⟩ : ∃ v0, v0 = v % Hs := ⟨_, rfl⟩
    have hYs : Y = y1 * Hs + y0 := by rw [hy1, hy0', Nat.mul_comm]; exact (Nat.div_add_mod _ _).symm
    have E2 : (Y : Int) / 4294967296 = (y1 : Int) := by rw [hy1, Hs_def]; simp
    have E3 : bits .and .u64 (Y : Int) 4294967295 = (y0 : Int) := by rw [and_mask Y n1, hy0']
    have E6 : (v : Int) / 4294967296 = (v1 : Int) := by rw [hv1, Hs_def]; simp
    have E7 : bits .and .u64 (v : Int) 4294967295 = (v0 : Int) := by rw [and_mask v hvB, hv0]
    rw [← hv1, ← hv0, hYs] at hfin
    rw [hYs] at n5
    have b1 : y1 < 4294967296 := by rw [Hs_def] at hy1; rw [Bs_def] at n1; omega
    have b2 : 2147483648 ≤ y1 := by rw [Hs_def] at hy1; rw [Bs_def] at n2; omega
    have b3 : y0 < 4294967296 := by rw [Hs_def] at hy0'; omega
    have b4 : v1 < 4294967296 := by rw [Hs_def] at hv1; rw [Bs_def] at hvB; omega
    have b5 : v0 < 4294967296 := by rw [Hs_def] at hv0; omega
    have hH0 : Half u v1 y1 y0 (u / y1) (u - u / y1 * y1) := Half.start n5 (by rw [Hs_def]; exact b4) (by rw [Hs_def]; omega) (by rw [Hs_def]; exact b1) (by rw [Hs_def]; exact b3)
    obtain ⟨q0, hq0⟩ : ∃ q0, q0 = u / y1 := ⟨_, rfl⟩
    obtain ⟨r0, hr0⟩ : ∃ r0, r0 = u - q0 * y1 := ⟨_, rfl⟩
    rw [← hq0, ← hr0] at hH0
    have E8 : (u : Int) / (y1 : Int) = (q0 : Int) := by rw [hq0]; simp
    have b6 : q0 ≤ 4294967297 := by have := hH0.q_le; rw [Hs_def] at this; omega
    have b7 := hH0.r_lt
    rw [Hs_def] at b7
    have b8 : ((q0 * y1 : Nat) : Int) ≤ 18446744073709551615 := by have := hH0.eq; rw [Bs_def] at n1; have := hH0.eq; omega
    have b9 : (0 : Int) ≤ ((q0 * y1 : Nat) : Int) := by omega
    have E9 : (u : Int) - ((q0 * y1 : Nat) : Int) = (r0 : Int) := by have := hH0.eq; omega
    simp only [Int.natCast_mul] at b8 b9 E9
    obtain ⟨Q1, hQ1⟩ : ∃ Q1, Q1 = (u * Hs + v1) / (y1 * Hs + y0) := ⟨_, rfl⟩
    have HQ1 := Lib.hid hQ1
    have c1 : (y1 : Int) ≤ 4294967295 := by omega
    have c2 : (2147483648 : Int) ≤ (y1 : Int) := by omega
    have c3 : (y0 : Int) ≤ 4294967295 := by omega
    have c4 : (v1 : Int) ≤ 4294967295 := by omega
    have c5 : (v0 : Int) ≤ 4294967295 := by omega
    have c6 : (q0 : Int) ≤ 4294967297 := by omega
    have c7 : (r0 : Int) ≤ 4294967295 := by omega
    have OK : HalfOk u v1 y1 y0 := ⟨n5, c4, c2, c3⟩
    obtain ⟨U, hU⟩ : ∃ U, U = (u * Hs + v1) % (y1 * Hs + y0) := ⟨_, rfl⟩
    have hYp : 0 < y1 * Hs + y0 := Nat.lt_of_le_of_lt (Nat.zero_le _) n5
    have hUY : U < y1 * Hs + y0 := by rw [hU]; exact Nat.mod_lt _ hYp
    obtain ⟨Q0, hQ0⟩ : ∃ Q0, Q0 = (U * Hs + v0) / (y1 * Hs + y0) := ⟨_, rfl⟩
    obtain ⟨R, hR⟩ : ∃ R, R = (U * Hs + v0) % (y1 * Hs + y0) := ⟨_, rfl⟩
    have OK2 : HalfOk U v0 y1 y0 := ⟨hUY, c5, c2, c3⟩
    have HQ0 := Lib.hid hQ0
    have hYB : y1 * Hs + y0 < Bs := by rw [← hYs]; exact n1
    have G1 : IntKind.u64.wrap (IntKind.u64.wrap (IntKind.u64.wrap ((u : Int) * 4294967296) + (v1 : Int)) - IntKind.u64.wrap ((Q1 : Int) * (Y : Int))) = (U : Int) := by
      rw [hYs]; exact rest_wrap hQ1 hU hYB hYp
    have G2 : IntKind.u64.wrap (IntKind.u64.wrap (IntKind.u64.wrap ((U : Int) * 4294967296) + (v0 : Int)) - IntKind.u64.wrap ((Q0 : Int) * (Y : Int))) = (R : Int) := by
      rw [hYs]; exact rest_wrap hQ0 hR hYB hYp
    have c8 : (Q1 : Int) ≤ 4294967295 := by have := quot_lt OK.hu OK.d; rw [← hQ1, Hs_def] at this; omega
    have c9 : (Q0 : Int) ≤ 4294967295 := by have := quot_lt OK2.hu OK2.d; rw [← hQ0, Hs_def] at this; omega
    have hH2 : Half U v0 y1 y0 (U / y1) (U - U / y1 * y1) := Half.start OK2.hu OK2.d (by rw [Hs_def]; omega) (by rw [Hs_def]; omega) OK2.z
    obtain ⟨q2, hq2⟩ : ∃ q2, q2 = U / y1 := ⟨_, rfl⟩
    obtain ⟨r2, hr2⟩ : ∃ r2, r2 = U - q2 * y1 := ⟨_, rfl⟩
    rw [← hq2, ← hr2] at hH2
    have G3 : (U : Int) / (y1 : Int) = (q2 : Int) := by rw [hq2]; simp
    have c10 : (q2 : Int) ≤ 4294967297 := by have := hH2.q_le; rw [Hs_def] at this; omega
    have c11 : (r2 : Int) ≤ 4294967295 := by have := hH2.r_lt; rw [Hs_def] at this; omega
    have b10 : ((q2 * y1 : Nat) : Int) ≤ 18446744073709551615 := by have := hH2.eq; rw [Bs_def] at hYB; omega
    have b11 : (0 : Int) ≤ ((q2 * y1 : Nat) : Int) := by omega
    have G4 : (U : Int) - ((q2 * y1 : Nat) : Int) = (r2 : Int) := by have := hH2.eq; omega
    simp only [Int.natCast_mul] at b10 b11 G4
    rw [← hQ1, ← hU, ← hQ0, ← hR, Hs_def] at hfin
    have HF1 := Lib.hid hfin.1
    have HF2 := Lib.hid hfin.2
    have HY := Lib.hid hy
    have HS := Lib.hid hs
    have HYS := Lib.hid hYs
    clear hU hQ0 hR hq2 hr2 hYp hUY hYB b1 b2 b3 b4 b5 b6 b7 hq0 hr0 hQ1 hs hy hl hz n1 n2 n3 n4 n5 hY hu hv hfin hvB hy1 hy0' hv1 hv0 hYs
    go_enter Tryz.func99, Tryz.ntmps99
    go_upto_block 0 with (go_at_call 105; refine (lz_calls _ y HY.out).mono ?_; rintro e w' ⟨rfl, rfl⟩; rw [← HS.out])
    go_cut [15, 16] (fun v15 _ wx => w = wx ∧ v15 = .int .u64 (Q1 : Int))
    case first =>
      go_wp2_with fail
      go_loop [15, 16] (fun v15 v16 => ∃ q r : Nat, v15 = .int .u64 (q : Int) ∧ v16 = .int .u64 (r : Int) ∧ Half u v1 y1 y0 q r) (fun v15 _ => (intOf v15).toNat)
      case atStart => exact ⟨q0, r0, rfl, rfl, hH0⟩
      case round =>
        clear E1 E2 E3 E4 E5 E6 E7 E8 E9 b8 b9 hH0 G1 G2 G3 G4 b10 b11 hH2
        obtain ⟨q, r, rfl, rfl, hI⟩ := hrel
        have k1 : (q : Int) ≤ 4294967297 := by have := hI.q_le; rw [Hs_def] at this; omega
        have k2 : (r : Int) ≤ 4294967295 := by have := hI.r_lt; rw [Hs_def] at this; omega
        obtain ⟨p, hp⟩ : ∃ p, p = q * y0 := ⟨_, rfl⟩
        have k3 : p < Bs := by have := hI.q_bound (by rw [Hs_def]; omega); have := Bs_pos; omega
        have K : IntKind.u64.wrap ((q : Int) * (y0 : Int)) = (p : Int) := by
          rw [IntKind.wrap_u64, ← Int.natCast_mul, ← hp]
          rw [Bs_def] at k3
          omega
        have HP := Lib.hid hp
        have HI := Lib.hid hI
        clear hp k3 hI
        by_cases hr : (4294967296 : Int) ≤ (r : Int) + (y1 : Int)
        · by_cases hq : (4294967296 : Int) ≤ (q : Int)
          · go_wp2_with fail
            go_meet
            case rel => exact ⟨rfl, int_eq (by rw [HQ1.out]; exact HI.out.last' OK HP.out hr (.inl hq))⟩
          by_cases hc : (4294967296 : Int) * (r : Int) + (v1 : Int) < (p : Int)
          · have q1 := Half.one HP.out (by omega)
            go_wp2_with fail
            go_meet
            case rel => exact ⟨rfl, int_eq (by rw [HQ1.out]; exact HI.out.last' OK HP.out hr (.inr hc))⟩
          · go_wp2_with fail
            go_meet
            case rel => exact ⟨rfl, int_eq (by rw [HQ1.out]; exact HI.out.right' OK HP.out (by omega))⟩
        · by_cases hq : (4294967296 : Int) ≤ (q : Int)
          · go_wp2_with fail
            exact ⟨⟨q - 1, r + y1, int_eq (by omega), int_eq (by omega), HI.out.next' OK HP.out hr (.inl hq)⟩, by simp [intOf]; omega⟩
          by_cases hc : (4294967296 : Int) * (r : Int) + (v1 : Int) < (p : Int)
          · have q1 := Half.one HP.out (by omega)
            go_wp2_with fail
            exact ⟨⟨q - 1, r + y1, int_eq (by omega), int_eq (by omega), HI.out.next' OK HP.out hr (.inr hc)⟩, by simp [intOf]; omega⟩
          · go_wp2_with fail
            go_meet
            case rel => exact ⟨rfl, int_eq (by rw [HQ1.out]; exact HI.out.right' OK HP.out (by omega))⟩
    case rest =>
      obtain ⟨rfl, rfl⟩ := hcut
      clear E1 E2 E3 E4 E5 E6 E7 E8 E9 b8 b9 hH0
      go_upto_block 2 with fail
      go_cut [18, 16] (fun v18 _ wx => w = wx ∧ v18 = .int .u64 (Q0 : Int))
      case first =>
        go_wp2_with fail
        go_loop [18, 16] (fun v18 v16 => ∃ q r : Nat, v18 = .int .u64 (q : Int) ∧ v16 = .int .u64 (r : Int) ∧ Half U v0 y1 y0 q r) (fun v18 _ => (intOf v18).toNat)
        case atStart => exact ⟨q2, r2, rfl, rfl, hH2⟩
        case round =>
          clear G1 G2 G3 G4 b10 b11 hH2
          obtain ⟨q, r, rfl, rfl, hI⟩ := hrel
          have k1 : (q : Int) ≤ 4294967297 := by have := hI.q_le; rw [Hs_def] at this; omega
          have k2 : (r : Int) ≤ 4294967295 := by have := hI.r_lt; rw [Hs_def] at this; omega
          obtain ⟨p, hp⟩ : ∃ p, p = q * y0 := ⟨_, rfl⟩
          have k3 : p < Bs := by have := hI.q_bound (by rw [Hs_def]; omega); have := Bs_pos; omega
          have K : IntKind.u64.wrap ((q : Int) * (y0 : Int)) = (p : Int) := by
            rw [IntKind.wrap_u64, ← Int.natCast_mul, ← hp]
            rw [Bs_def] at k3
            omega
          have HP := Lib.hid hp
          have HI := Lib.hid hI
          clear hp k3 hI
          by_cases hr : (4294967296 : Int) ≤ (r : Int) + (y1 : Int)
          · by_cases hq : (4294967296 : Int) ≤ (q : Int)
            · go_wp2_with fail
              go_meet
              case rel => exact ⟨rfl, int_eq (by rw [HQ0.out]; exact HI.out.last' OK2 HP.out hr (.inl hq))⟩
            by_cases hc : (4294967296 : Int) * (r : Int) + (v0 : Int) < (p : Int)
            · have q1 := Half.one HP.out (by omega)
              go_wp2_with fail
              go_meet
              case rel => exact ⟨rfl, int_eq (by rw [HQ0.out]; exact HI.out.last' OK2 HP.out hr (.inr hc))⟩
            · go_wp2_with fail
              go_meet
              case rel => exact ⟨rfl, int_eq (by rw [HQ0.out]; exact HI.out.right' OK2 HP.out (by omega))⟩
          · by_cases hq : (4294967296 : Int) ≤ (q : Int)
            · go_wp2_with fail
              exact ⟨⟨q - 1, r + y1, int_eq (by omega), int_eq (by omega), HI.out.next' OK2 HP.out hr (.inl hq)⟩, by simp [intOf]; omega⟩
            by_cases hc : (4294967296 : Int) * (r : Int) + (v0 : Int) < (p : Int)
            · have q1 := Half.one HP.out (by omega)
              go_wp2_with fail
              exact ⟨⟨q - 1, r + y1, int_eq (by omega), int_eq (by omega), HI.out.next' OK2 HP.out hr (.inr hc)⟩, by simp [intOf]; omega⟩
            · go_wp2_with fail
              go_meet
              case rel => exact ⟨rfl, int_eq (by rw [HQ0.out]; exact HI.out.right' OK2 HP.out (by omega))⟩
      case rest =>
        obtain ⟨rfl, rfl⟩ := hcut
        go_wp2_with fail
        go_ret2
        exact ⟨ret_eq (by rw [HF1.out, HF2.out]; simp), Ext.refl _⟩

set_option maxHeartbeats 400000 in
theorem worddiv_calls (w : World) (hi lo y : Nat) (hy : y < Bs) (hl : lo < Bs) (hh : hi < y) :
    Calls Tryz.prog 90 #[.int .u64 (hi : Int), .int .u64 (lo : Int), .int .u64 (y : Int)] w fun e w' =>
      e = .returned (.tuple #[.int .u64 ((hi * Bs + lo) / y : Nat), .int .u64 ((hi * Bs + lo) % y : Nat), .int .i64 0]) ∧ Ext w w' := by
  have hc := Lib.hid (div64_calls w hi lo y hy hl hh)
  have hy0 : ((y : Int) == 0) = false := by rw [beq_eq_false_iff_ne]; omega
  clear hy hl
  go_enter Tryz.func90, Tryz.ntmps90
  go_wp2_with (go_at_call 99; refine (hc.out).mono ?_; rintro e w' ⟨rfl, hx⟩)
  go_ret3
  exact ⟨rfl, hx⟩
end Go.Proofs.YtomhfipgabpfiaaGreatDoor
