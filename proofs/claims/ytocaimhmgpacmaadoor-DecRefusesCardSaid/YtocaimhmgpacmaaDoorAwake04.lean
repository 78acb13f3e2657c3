/- The statements' own examples on decimal digits: tombolalaw04.awake answers true. -/
import Derived.Test.YtocaimhmgpacmaaDoorHelp
import Derived.Test.YtocaimhmgpacmaaDoorDecLaw
namespace Go.Proofs.YtocaimhmgpacmaaDoor
open Go Go.RowKit

theorem mk_of {s : ByteArray} {l : List UInt8} (h : s.data.toList = l) : (⟨l.toArray⟩ : ByteArray) = s := by
  rw [← h]

/-- Show, its text by a name -/
theorem show_str {w : World} {v : Value} {A : List Nat} (hA : Limbs w v A) (hln : A.length ≤ 65536) (s : ByteArray) (hs : s.data.toList = showL (val A)) :
    Calls Tryd.prog 14 #[v] w fun e w' => e = .returned (.string s) ∧ Ext w w' :=
  (show_calls hA hln).mono fun _ _ ⟨h1, h2⟩ => ⟨by rw [h1, mk_of hs], h2⟩
theorem many_int {w : World} {v : Value} {A : List Nat} (hA : Limbs w v A) (hln : A.length ≤ 65536) (n : Int) (hn : n = ((showL (val A)).length : Nat)) :
    Calls Tryd.prog 16 #[v] w fun e w' => e = .returned (.int .i64 n) ∧ Ext w w' :=
  (many_calls hA hln).mono fun _ _ ⟨h1, h2⟩ => ⟨by rw [h1, hn], h2⟩
/-- Read, its error and its natural by names -/
theorem read_str (s : ByteArray) (w : World) (hs : s.size ≤ maxLen) (k : Int) (n : Nat) (hk : ((errR s.data.toList : Nat) : Int) = k) (hn : readN s.data.toList = n) :
    Calls Tryd.prog 19 #[.string s] w fun e w' => ∃ v, e = .returned (.tuple #[v, .int .i64 k]) ∧ OwnL w.heap.size w' v (dig n) ∧ Ext w w' :=
  (read_calls s w hs).mono fun _ _ ⟨v, h1, h2, h3⟩ => ⟨v, by rw [h1, hk], by rw [← hn]; exact h2, h3⟩
theorem same_true {w : World} {v u : Value} {A B : List Nat} (hA : Limbs w v A) (hB : Limbs w u B) (h : A = B) :
    Calls Tryd.prog 20 #[v, u] w fun e w' => e = .returned (.bool true) ∧ Ext w w' :=
  (same_calls hA hB).mono fun _ _ ⟨h1, h2⟩ => ⟨by rw [h1, decide_eq_true h], h2⟩

theorem many0_str (w : World) (c : UInt8) (k : Int) (hk : k = (c.toNat : Int)) (n : Nat) (m : Int) (hm : m = (n : Int)) (hn : n ≤ 65535) (s : ByteArray) (hs : s.data.toList = List.replicate n c) :
    Calls Tryd.prog 22 #[.int .u8 k, .int .i64 m] w fun e w' => e = .returned (.string s) ∧ Ext w w' := by
  subst hk hm
  exact (many0_calls w c n (by rw [Lmax_def]; omega)).mono fun _ _ ⟨h1, h2⟩ => ⟨by rw [h1, mk_of hs], h2⟩
theorem append_of {s t u : ByteArray} (h : u.data.toList = s.data.toList ++ t.data.toList) : s ++ t = u := by
  rw [← Lib.mk_data u, h, ← Lib.mk_data (s ++ t)]
  simp [ByteArray.data_append]
theorem litn (w : World) (A : List Nat) (hA : ∀ x ∈ A, x < Bs) (C : Array Value) (hC : C.toList = A.map lv) (n : Nat) (hn : n = A.length) (hl : A.length ≤ 100) : Limbs (w.alloc (.cells C 33)) (.slice (some ⟨w.heap.size, 0, none⟩) n n) A :=
  limbs_lit w A hA C hC n hn (by rw [Lmax_def]; omega)
theorem small_Bs {n : Nat} (h : n ≤ 65535) : n < Bs := by rw [Bs_def]; omega
theorem val_two : val [0, 1] = Bs := by simp [val]
theorem dig_two : dig Bs = [0, 1] := by
  rw [← val_two]; exact dig_val (by simp [Bs_pos, one_lt_Bs]) (.inr (by simp))
theorem show_two : showL Bs = [49, 56, 52, 52, 54, 55, 52, 52, 48, 55, 51, 55, 48, 57, 53, 53, 49, 54, 49, 54] := showL_of (by decide +kernel) (by rw [Bs_def]; decide +kernel)
theorem show_40 : showL (10 ^ 40) = 49 :: List.replicate 40 48 := showL_of (by decide +kernel) (by decide +kernel)
theorem read_two : readN [49, 56, 52, 52, 54, 55, 52, 52, 48, 55, 51, 55, 48, 57, 53, 53, 49, 54, 49, 54] = Bs := by rw [Bs_def]; decide +kernel
theorem show_999 : showL 999 = [57, 57, 57] := showL_of (by decide +kernel) (by decide +kernel)

set_option maxHeartbeats 1000000 in
set_option maxRecDepth 100000 in
theorem awake_calls (w : World) : Calls Tryd.prog 13 #[] w fun e w' => e = .returned (.bool true) ∧ Ext w w' := by
  go_enter Tryd.func13, Tryd.ntmps13
  go_wp2_with fail
  refine (read_str _ _ (by decide) 0 Bs (by decide +kernel) read_two).mono ?_
  rintro e w1 ⟨a, rfl, ha, x1⟩
  go_wp2_with fail
  refine (read_str _ _ (by decide) 4 0 (by decide +kernel) (by decide +kernel)).mono ?_
  rintro e w2 ⟨a2, rfl, -, x2⟩
  go_wp2_with fail
  refine (read_str _ _ (by decide) 3 0 (by decide +kernel) (by decide +kernel)).mono ?_
  rintro e w3 ⟨a3, rfl, -, x3⟩
  go_wp2_with fail
  refine (read_str _ _ (by decide) 3 0 (by decide +kernel) (by decide +kernel)).mono ?_
  rintro e w4 ⟨a4, rfl, -, x4⟩
  go_wp2_with fail
  refine (show_str (Limbs.nil _) (by decide) ⟨#[48]⟩ rfl).mono ?_
  rintro e w5 ⟨rfl, x5⟩
  go_wp2_with fail
  refine (show_str (A := [0, 1]) (litn _ _ (by simp [Bs_pos, one_lt_Bs]) _ rfl _ rfl (by decide)) (by decide) ⟨#[49, 56, 52, 52, 54, 55, 52, 52, 48, 55, 51, 55, 48, 57, 53, 53, 49, 54, 49, 54]⟩ (by rw [val_two, show_two])).mono ?_
  rintro e w6 ⟨rfl, x6⟩
  go_wp2_with fail
  refine (power_calls _ 40 (by decide)).mono ?_
  rintro e w7 ⟨p, rfl, hp, x7⟩
  go_wp2_with fail
  obtain ⟨s1, hs1⟩ : ∃ s : ByteArray, s.data.toList = 49 :: List.replicate 40 48 := ⟨⟨(49 :: List.replicate 40 48).toArray⟩, rfl⟩
  obtain ⟨s2, hs2⟩ : ∃ s : ByteArray, s.data.toList = List.replicate 40 48 := ⟨⟨(List.replicate 40 48).toArray⟩, rfl⟩
  have hap : (⟨#[49]⟩ : ByteArray) ++ s2 = s1 := append_of (by rw [hs1, hs2]; rfl)
  have hz : s2.size ≤ 40 := by rw [Lib.size_eq, hs2]; simp
  have HS1 := Lib.hid hs1
  have HS2 := Lib.hid hs2
  clear hs1 hs2
  refine (show_str hp.limbs (Nat.le_trans (dig_len_le (k := 3) (by rw [Bs_def]; decide)) (by decide)) s1 (by rw [val_dig, show_40]; exact HS1.out)).mono ?_
  rintro e w8 ⟨rfl, x8⟩
  go_wp2_with fail
  refine (many0_str _ 48 _ rfl 40 _ rfl (by decide) s2 HS2.out).mono ?_
  rintro e w9 ⟨rfl, x9⟩
  go_wp2_with fail
  have X := (((((((x2.trans x3).trans x4).trans x5).alloc _).trans x6).trans x7).trans x8).trans x9
  refine (same_true (ha.limbs.ext (X.alloc _)) (litn _ [0, 1] (by simp [Bs_pos, one_lt_Bs]) _ rfl _ rfl (by decide)) dig_two).mono ?_
  rintro e w10 ⟨rfl, x10⟩
  go_wp2_with fail
  refine (many_int (A := [999]) (litn _ _ (by simp; exact small_Bs (by decide)) _ rfl _ rfl (by decide)) (by decide) 3 (by rw [show val [999] = 999 by simp [val], show_999]; rfl)).mono ?_
  rintro e w11 ⟨rfl, x11⟩
  go_wp2_with fail
  go_ret
  exact ⟨rfl, ((((x1.trans X).alloc _).trans x10).alloc _).trans x11⟩
end Go.Proofs.YtocaimhmgpacmaaDoor
