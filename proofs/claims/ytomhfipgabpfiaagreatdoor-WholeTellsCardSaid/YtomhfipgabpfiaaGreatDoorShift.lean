/- Contracts of package nat: Shl, Shr. -/
import Derived.Test.YtomhfipgabpfiaaGreatDoorQuo1
import Derived.Test.YtomhfipgabpfiaaGreatDoorQuoPlain
import Derived.Lib.EndianBits
import Derived.IntWalk
namespace Go.Proofs.YtomhfipgabpfiaaGreatDoor
open Go Go.RowKit Go.Shelf

theorem or_low {x y i : Nat} (hi : i ≤ 64) (hx : x % 2 ^ i = 0) (hx1 : x < Bs) (hy : y < 2 ^ i) : bits .or .u64 (y : Int) (x : Int) = ((y + x : Nat) : Int) := by
  have h1 : (2 : Nat) ^ i ≤ 2 ^ 64 := Nat.pow_le_pow_right (by decide) hi
  have := bits_join_low .u64 64 (by decide) wraps_u64 i (y : Int) (x : Int) (by omega) (by exact_mod_cast hy) (by omega) (by omega) (by exact_mod_cast hx) (by rw [Bs_def] at hx1; omega)
  simpa using this
theorem shl_wrap' (x s : Nat) : IntKind.u64.wrap ((x : Int) * 2 ^ s) = ((x * 2 ^ s % Bs : Nat) : Int) := by
  rw [IntKind.wrap_u64, Bs_def]
  simp
/-- the limb that 'from' joins -/
theorem from_or {x y b : Nat} (hx : x < Bs) (hb : b ≤ 64) : bits .or .u64 ((x : Int) / 2 ^ b) (IntKind.u64.wrap ((y : Int) * 2 ^ (64 - b))) = ((fromV x y b : Nat) : Int) := by
  have p1 := Nat.two_pow_pos b
  have h1 : x / 2 ^ b < 2 ^ (64 - b) := by
    rw [Nat.div_lt_iff_lt_mul p1, Nat.mul_comm, ← bs_split hb]; exact hx
  have h2 : y * 2 ^ (64 - b) % Bs % 2 ^ (64 - b) = 0 := by
    rw [Nat.mul_comm y, bs_split hb, Nat.mul_comm (2 ^ b), Nat.mul_mod_mul_left, Nat.mul_mod_right]
  rw [shl_wrap', fromV]
  have e : ((x : Int) / 2 ^ b) = ((x / 2 ^ b : Nat) : Int) := by simp
  rw [e]
  exact or_low (by omega) h2 (Nat.mod_lt _ Bs_pos) h1

set_option maxHeartbeats 1000000 in
set_option maxRecDepth 100000 in
theorem from_calls {w : World} {v : Value} {A : List Nat} (hA : Limbs w v A) (p at0 : Int) (b : Nat) (hp : p = 64 * at0 + b) (hb : b ≤ 63) (h1 : -4611686018427387904 ≤ p) (h2 : p ≤ 4611686018427387904) :
    Calls Tryz.prog 100 #[v, .int .i64 p] w fun e w' => e = .returned (.int .u64 (fromV (limbAt A at0) (limbAt A (at0 + 1)) b : Nat)) ∧ w = w' := by
  obtain ⟨x, hx⟩ : ∃ x, x = limbAt A at0 := ⟨_, rfl⟩
  obtain ⟨y, hy⟩ : ∃ y, y = limbAt A (at0 + 1) := ⟨_, rfl⟩
  have hxB : x < Bs := by rw [hx]; exact limbAt_lt hA.2 _
  rw [← hx, ← hy]
  have c1 : Hid (Calls Tryz.prog 80 #[v, .int .i64 at0] w fun e w' => e = .returned (.int .u64 (x : Nat)) ∧ w = w') := by have := limb_calls hA at0; rwa [← hx] at this
  have c2 : Hid (Calls Tryz.prog 80 #[v, .int .i64 (at0 + 1)] w fun e w' => e = .returned (.int .u64 (y : Nat)) ∧ w = w') := by have := limb_calls hA (at0 + 1); rwa [← hy] at this
  have H1 : Hid (bits .or .u64 ((x : Int) / 2 ^ b) (IntKind.u64.wrap ((y : Int) * 2 ^ (64 - b))) = ((fromV x y b : Nat) : Int)) := from_or hxB (by omega)
  have H0 : Hid (b = 0 → fromV x y b = x) := fun e => by rw [e]; exact fromV_zero hxB
  have a1 : -100000000000000000 ≤ at0 := by omega
  have a2 : at0 ≤ 100000000000000000 := by omega
  have hb' : (b : Int) ≤ 63 := by omega
  obtain ⟨pa, pc, rfl, -, -, -⟩ := hA.open
  clear hx hy
  rcases Int.lt_or_le p 0 with hn | hn
  · by_cases hb0 : b = 0
    · have e1 : p.tdiv 64 = at0 := by rw [show p = at0 * 64 by omega]; exact Int.mul_tdiv_cancel _ (by omega)
      have e2 : p.tmod 64 = 0 := by rw [show p = at0 * 64 by omega]; exact Int.mul_tmod_left _ _
      have HF := Lib.hid (H0.out hb0)
      clear hp hb0 hb hb'
      go_enter Tryz.func100, Tryz.ntmps100
      go_wp2_with (go_at_call 80; refine (c1.out).mono ?_; rintro e w' ⟨rfl, rfl⟩)
      go_ret
      exact ⟨ret_eq (int_eq (by rw [HF.out])), rfl⟩
    · have e1 : p.tdiv 64 = at0 + 1 := by
        rw [show p = (at0 + 1) * 64 + ((b : Int) - 64) by omega, Int.add_comm, Int.tdiv_eq_ediv]
        split
        · omega
        · have : Int.sign 64 = 1 := rfl
          omega
      have e2 : p.tmod 64 = (b : Int) - 64 := by
        have := Int.mul_tdiv_add_tmod p 64
        rw [e1] at this
        omega
      have b1 : (b : Int) - 64 ≤ -1 := by omega
      have b2 : 1 ≤ (b : Int) := by omega
      have HP := Lib.hid hp
      have HB := Lib.hid hb
      clear hp hb0 hb
      go_enter Tryz.func100, Tryz.ntmps100
      go_wp2_with (go_at_call 80; first | ((with_reducible refine (c1.out).mono ?_); rintro e w' ⟨rfl, rfl⟩) | ((with_reducible refine (c2.out).mono ?_); rintro e w' ⟨rfl, rfl⟩))
      go_ret
      exact ⟨ret_eq (int_eq (by rw [H1.out])), rfl⟩
  · have e1 : p / 64 = at0 := by omega
    have e2 : p % 64 = (b : Int) := by omega
    have e3 : p.tdiv 64 = at0 := by rw [Int.tdiv_eq_ediv_of_nonneg hn]; exact e1
    have e4 : p.tmod 64 = (b : Int) := by rw [Int.tmod_eq_emod_of_nonneg hn]; exact e2
    by_cases hb0 : b = 0
    · have HF := Lib.hid (H0.out hb0)
      subst hb0
      clear hp hb hb'
      go_enter Tryz.func100, Tryz.ntmps100
      go_wp2_with (go_at_call 80; refine (c1.out).mono ?_; rintro e w' ⟨rfl, rfl⟩)
      go_ret
      exact ⟨ret_eq (int_eq (by rw [HF.out])), rfl⟩
    · have b2 : 1 ≤ (b : Int) := by omega
      clear hp hb0 hb
      go_enter Tryz.func100, Tryz.ntmps100
      go_wp2_with (go_at_call 80; first | ((with_reducible refine (c1.out).mono ?_); rintro e w' ⟨rfl, rfl⟩) | ((with_reducible refine (c2.out).mono ?_); rintro e w' ⟨rfl, rfl⟩))
      go_ret
      exact ⟨ret_eq (int_eq (by rw [H1.out])), rfl⟩

/-- the limbs of V, as 'shifted' makes them -/
def Shifted (A : List Nat) (place : Int) (V n : Nat) : Prop := ∃ (at0 : Int) (b : Nat), place = 64 * at0 + b ∧ b ≤ 63 ∧ ∀ i, i < n → fromV (limbAt A ((i : Int) + at0)) (limbAt A ((i : Int) + at0 + 1)) b = V / Bs ^ i % Bs

set_option maxHeartbeats 1000000 in
set_option maxRecDepth 100000 in
theorem shifted_calls {w : World} {v : Value} {A : List Nat} (hA : Limbs w v A) (n : Nat) (hn : n ≤ 1048576) (place : Int) (hp1 : -1048576 ≤ place) (hp2 : place ≤ 1048576) (V : Nat) (hS : Shifted A place V n) :
    Calls Tryz.prog 92 #[v, .int .i64 (n : Int), .int .i64 place] w (RetNat w (V % Bs ^ n)) := by
  obtain ⟨pa, pc, rfl, -, -, -⟩ := hA.open
  obtain ⟨at0, b, hpl, hb, hS⟩ := hS
  have hni : (n : Int) ≤ 1048576 := by omega
  have HN : Hid (n ≤ Lmax) := by show _ ≤ Lmax; rw [Lmax_def]; omega
  have HS := Lib.hid hS
  have HP := Lib.hid hpl
  have HB := Lib.hid hb
  clear hS hpl hn hb
  go_enter Tryz.func92, Tryz.ntmps92
  go_wp2_with (at_make; refine make_limbs rfl _ _ 23 Tryz.underlying23 rfl n _ rfl rfl rfl HN.out ?_; intro w1 hown1 hg1; have O1 := Lib.hid hown1; clear hown1)
  have hI0 : MulMem w w.heap.size n (limbsTo V 0 ++ List.replicate (n - 0) 0) w1 := ⟨by simpa [limbsTo] using O1.out, (Ext.refl w).grown hg1 (by intro k hk; cases hk)⟩
  go_loopw [13] (fun v13 wr => ∃ i : Nat, v13 = .int .i64 (i : Int) ∧ i ≤ n ∧ MulMem w w.heap.size n (limbsTo V i ++ List.replicate (n - i) 0) wr) (fun v13 _ => n - (intOf v13).toNat)
  case atStart => exact ⟨0, rfl, Nat.zero_le _, hI0⟩
  case round =>
    obtain ⟨i, rfl, hi, hI⟩ := hrel
    by_cases hin : i < n
    · have hcO := hI.cell hin (by rw [List.length_append, limbsTo_length, List.length_replicate]; omega)
      have hfO := hI.froz i
      have HI := Lib.hid hI
      have HF := Lib.hid (from_calls (hA.ext hI.ext) ((i : Int) * 64 + place) ((i : Int) + at0) b (by have := HP.out; omega) HB.out (by omega) (by omega))
      have HV := Lib.hid (HS.out i hin)
      clear hI
      go_wp2_with (go_at_call 100; refine (HF.out).mono ?_; rintro e w' ⟨rfl, rfl⟩; rw [HV.out])
      refine ⟨⟨i + 1, by go_num, by omega, ?_⟩, by simp [intOf]; omega⟩
      have := HI.out.set (Nat.le_refl _) i (V / Bs ^ i % Bs)
      rwa [show n - i = (n - (i + 1)) + 1 by omega, limbsTo_set] at this
    · obtain rfl : i = n := by omega
      have hT : Limbs wr (.slice (some ⟨w.heap.size, 0, none⟩) i i) (limbsTo V i) := by
        have := hI.limbs (by simp [limbsTo_length]) (by
          rw [Nat.sub_self, List.replicate_zero, List.append_nil]; exact limbsTo_lt V i)
        rwa [Nat.sub_self, List.replicate_zero, List.append_nil] at this
      have hlen : Hid ((limbsTo V i).length ≤ Lmax) := by show _ ≤ Lmax; rw [limbsTo_length]; exact HN.out
      go_wp2_with (go_at_call 49; refine (trim_calls hT hlen.out).mono ?_; rintro e w' ⟨r, rfl, hr, hx'⟩)
      go_ret
      rw [val_limbsTo] at hr
      exact RetNat.of_ext ⟨r, rfl, hr, hx'⟩ hI.ext

theorem may_calls (w : World) (n : Int) (b : Bool) (hb : decide (0 ≤ n ∧ n ≤ 65536) = b) :
    Calls Tryz.prog 91 #[.int .i64 n] w fun e w' => e = .returned (.bool b) ∧ w = w' := by
  have hn : n < 0 ∨ 65536 < n ∨ (0 ≤ n ∧ n ≤ 65536) := by omega
  have HB := Lib.hid hb
  clear hb
  rcases hn with h | h | ⟨h, h'⟩
  · have HE : Hid (b = false) := by show _ = _; rw [← HB.out]; simp; omega
    clear HB
    go_enter Tryz.func91, Tryz.ntmps91
    go_wp2_with fail
    go_ret
    exact ⟨ret_eq (by rw [HE.out]; rfl), rfl⟩
  · have HE : Hid (b = false) := by show _ = _; rw [← HB.out]; simp; omega
    have h0 : 0 ≤ n := by omega
    clear HB
    go_enter Tryz.func91, Tryz.ntmps91
    go_wp2_with fail
    go_ret
    exact ⟨ret_eq (by rw [HE.out]; simp; omega), rfl⟩
  · have HE : Hid (b = true) := by show _ = _; rw [← HB.out]; simp; omega
    clear HB
    go_enter Tryz.func91, Tryz.ntmps91
    go_wp2_with fail
    go_ret
    exact ⟨ret_eq (by rw [HE.out]; rfl), rfl⟩

/-- a natural shifted: by how many places, or an error -/
def RetShift (w : World) (n : Int) (V : Nat) (e : Ending) (w' : World) : Prop :=
  ∃ v, e = .returned (.tuple #[v, .int .i64 (if 0 ≤ n ∧ n ≤ 65536 then 0 else 1)]) ∧ OwnL w.heap.size w' v (dig (if 0 ≤ n ∧ n ≤ 65536 then V else 0)) ∧ Ext w w'

theorem shl_shifted {A : List Nat} (hA : ∀ x ∈ A, x < Bs) (n m : Nat) : Shifted A (-(n : Int)) (val A * 2 ^ n) m := by
  obtain ⟨c, b, hb, hc⟩ : ∃ c b : Nat, b ≤ 63 ∧ n + b = 64 * c := ⟨(n + 63) / 64, 64 * ((n + 63) / 64) - n, by omega, by omega⟩
  refine ⟨-(c : Int), b, by omega, hb, fun i _ => ?_⟩
  rw [← fromV_shl hA (show b ≤ 64 by omega) hc]
  have key : ∀ k : Nat, limbAt A ((k : Int) + -(c : Int)) = el (List.replicate c 0 ++ A) k := by
    intro k
    by_cases h : k < c
    · rw [limbAt_neg (by omega), el_pad_lt A h]
    · obtain ⟨j, rfl⟩ : ∃ j, k = j + c := ⟨k - c, by omega⟩
      rw [el_pad, ← limbAt_nat A j]; congr 1; omega
  rw [key, show (i : Int) + -(c : Int) + 1 = ((i + 1 : Nat) : Int) + -(c : Int) by omega, key]
theorem shr_shifted {A : List Nat} (hA : ∀ x ∈ A, x < Bs) (n m : Nat) : Shifted A (n : Int) (val A / 2 ^ n) m := by
  refine ⟨((n / 64 : Nat) : Int), n % 64, by omega, by omega, fun i _ => ?_⟩
  rw [← fromV_shr hA (show n % 64 ≤ 64 by omega) (show n = 64 * (n / 64) + n % 64 by omega), ← limbAt_nat A, ← limbAt_nat A]
  congr 1

set_option maxHeartbeats 1000000 in
set_option maxRecDepth 100000 in
theorem shl_calls {w : World} {v : Value} {A : List Nat} (hA : Limbs w v A) (hl : A.length ≤ 65536) (n : Int) :
    Calls Tryz.prog 70 #[v, .int .i64 n] w (RetShift w n (val A * 2 ^ n.toNat)) := by
  obtain ⟨pa, pc, rfl, -, -, -⟩ := hA.open
  by_cases h : 0 ≤ n ∧ n ≤ 65536
  · obtain ⟨m, rfl⟩ := Int.eq_ofNat_of_zero_le h.1
    have h1 : (m : Int) ≤ 65536 := h.2
    have hli : (A.length : Int) ≤ 65536 := by omega
    obtain ⟨L, hL⟩ : ∃ L, L = A.length + m / 64 + 1 := ⟨_, rfl⟩
    have HV : Hid (val A * 2 ^ m % Bs ^ L = val A * 2 ^ m) := by show _ = _; rw [hL]; exact Nat.mod_eq_of_lt (shl_fits hA.2 m)
    have HS := Lib.hid (shl_shifted hA.2 m L)
    have hc : (A.length : Int) + (m : Int) / 64 + 1 = (L : Int) := by omega
    have HL : Hid (L ≤ 1048576) := by show _ ≤ _; omega
    clear hL
    have HB : Hid (decide (0 ≤ (m : Int) ∧ (m : Int) ≤ 65536) = true) := by show _ = _; simpa using h1
    clear h hl
    go_enter Tryz.func70, Tryz.ntmps70
    go_wp2_with fail
    refine (may_calls _ _ true HB.out).mono ?_
    rintro e w' ⟨rfl, rfl⟩
    go_wp2_with fail
    refine (shifted_calls hA L HL.out (-(m : Int)) (by omega) (by omega) _ HS.out).mono ?_
    rintro e w' ⟨r, rfl, hr, hx⟩
    rw [HV.out] at hr
    go_wp2_with fail
    go_ret2
    exact ⟨r, by rw [if_pos ⟨by omega, h1⟩]; rfl, by rw [if_pos ⟨by omega, h1⟩]; exact hr, hx⟩
  · have HB : Hid (decide (0 ≤ n ∧ n ≤ 65536) = false) := by show _ = _; simpa using h
    have H := Lib.hid h
    clear h
    go_enter Tryz.func70, Tryz.ntmps70
    go_wp2_with fail
    refine (may_calls _ _ false HB.out).mono ?_
    rintro e w' ⟨rfl, rfl⟩
    go_wp2_with fail
    go_ret2
    exact ⟨_, by rw [if_neg H.out]; rfl, by rw [if_neg H.out, dig_zero]; exact OwnL.nil _ _, Ext.refl _⟩

set_option maxHeartbeats 1000000 in
set_option maxRecDepth 100000 in
theorem shr_calls {w : World} {v : Value} {A : List Nat} (hA : Limbs w v A) (hl : A.length ≤ 524288) (n : Int) :
    Calls Tryz.prog 74 #[v, .int .i64 n] w (RetShift w n (val A / 2 ^ n.toNat)) := by
  obtain ⟨pa, pc, rfl, -, -, -⟩ := hA.open
  by_cases h : 0 ≤ n ∧ n ≤ 65536
  · obtain ⟨m, rfl⟩ := Int.eq_ofNat_of_zero_le h.1
    have h1 : (m : Int) ≤ 65536 := h.2
    have hli : (A.length : Int) ≤ 524288 := by omega
    have HV : Hid (val A / 2 ^ m % Bs ^ A.length = val A / 2 ^ m) := Nat.mod_eq_of_lt (Nat.lt_of_le_of_lt (Nat.div_le_self _ _) (val_lt hA.2))
    have HS := Lib.hid (shr_shifted hA.2 m A.length)
    have HB : Hid (decide (0 ≤ (m : Int) ∧ (m : Int) ≤ 65536) = true) := by show _ = _; simpa using h1
    clear h hl
    go_enter Tryz.func74, Tryz.ntmps74
    go_wp2_with fail
    refine (may_calls _ _ true HB.out).mono ?_
    rintro e w' ⟨rfl, rfl⟩
    go_wp2_with fail
    refine (shifted_calls hA A.length (by omega) (m : Int) (by omega) (by omega) _ HS.out).mono ?_
    rintro e w' ⟨r, rfl, hr, hx⟩
    rw [HV.out] at hr
    go_wp2_with fail
    go_ret2
    exact ⟨r, by rw [if_pos ⟨by omega, h1⟩]; rfl, by rw [if_pos ⟨by omega, h1⟩]; exact hr, hx⟩
  · have HB : Hid (decide (0 ≤ n ∧ n ≤ 65536) = false) := by show _ = _; simpa using h
    have H := Lib.hid h
    clear h
    go_enter Tryz.func74, Tryz.ntmps74
    go_wp2_with fail
    refine (may_calls _ _ false HB.out).mono ?_
    rintro e w' ⟨rfl, rfl⟩
    go_wp2_with fail
    go_ret2
    exact ⟨_, by rw [if_neg H.out]; rfl, by rw [if_neg H.out, dig_zero]; exact OwnL.nil _ _, Ext.refl _⟩

theorem shl_ok {w : World} {v : Value} {A : List Nat} (hA : Limbs w v A) (hl : A.length ≤ 65536) (n : Nat) (hn : n ≤ 65536) :
    Calls Tryz.prog 70 #[v, .int .i64 (n : Int)] w fun e w' => ∃ r, e = .returned (.tuple #[r, .int .i64 0]) ∧ OwnL w.heap.size w' r (dig (val A * 2 ^ n)) ∧ Ext w w' :=
  (shl_calls hA hl n).mono fun _ _ ⟨r, h1, h2, h3⟩ => by
    have h : 0 ≤ (n : Int) ∧ (n : Int) ≤ 65536 := by omega
    rw [if_pos h] at h1 h2
    exact ⟨r, h1, h2, h3⟩
theorem shr_ok {w : World} {v : Value} {A : List Nat} (hA : Limbs w v A) (hl : A.length ≤ 524288) (n : Nat) (hn : n ≤ 65536) :
    Calls Tryz.prog 74 #[v, .int .i64 (n : Int)] w fun e w' => ∃ r, e = .returned (.tuple #[r, .int .i64 0]) ∧ OwnL w.heap.size w' r (dig (val A / 2 ^ n)) ∧ Ext w w' :=
  (shr_calls hA hl n).mono fun _ _ ⟨r, h1, h2, h3⟩ => by
    have h : 0 ≤ (n : Int) ∧ (n : Int) ≤ 65536 := by omega
    rw [if_pos h] at h1 h2
    exact ⟨r, h1, h2, h3⟩
end Go.Proofs.YtomhfipgabpfiaaGreatDoor
