/- The contracts of dec and its reference, their texts by names; small lemmas. -/
import Derived.Test.YtomhfipgabpfiaaGreatDoorDec2
import Derived.Test.YtomhfipgabpfiaaGreatDoorRef02
import Derived.Test.YtomhfipgabpfiaaGreatDoorDecLaw
namespace Go.Proofs.YtomhfipgabpfiaaGreatDoor
open Go Go.RowKit

/-- the law answers true; all that was there is as it was -/
def Yes (w : World) (e : Ending) (w' : World) : Prop := e = .returned (.bool true) ∧ Ext w w'

theorem own_lit (w : World) (A : List Nat) (hA : ∀ x ∈ A, x < Bs) (C : Array Value) (hC : C.toList = A.map lv) (n : Nat) (hn : n = A.length) (hl : A.length ≤ Lmax) :
    OwnL w.heap.size (w.alloc (.cells C 46)) (.slice (some ⟨w.heap.size, 0, none⟩) n n) A := by
  subst hn
  have hs : C.size = A.length := by rw [← Array.length_toList, hC]; simp
  exact ⟨.inl ⟨by simp, .inr ⟨w.heap.size, A.length, C, rfl, Nat.le_refl _, heap_alloc_new w _, Nat.le_refl _, (lmax_fits hl).1, by rw [hs]; simp, by rw [hC]; exact List.take_of_length_le (by simp)⟩⟩, hA⟩

theorem one_lt_Bs : 1 < Bs := by rw [Bs_def]; omega

theorem mk_of {s : ByteArray} {l : List UInt8} (h : s.data.toList = l) : (⟨l.toArray⟩ : ByteArray) = s := by
  rw [← h]

/-- Show, its text by a name -/
theorem show_str {w : World} {v : Value} {A : List Nat} (hA : Limbs w v A) (hln : A.length ≤ 65536) (s : ByteArray) (hs : s.data.toList = showL (val A)) :
    Calls Tryz.prog 53 #[v] w fun e w' => e = .returned (.string s) ∧ Ext w w' :=
  (show_calls hA hln).mono fun _ _ ⟨h1, h2⟩ => ⟨by rw [h1, mk_of hs], h2⟩

/-- Read, its error and its natural by names -/
theorem read_str (s : ByteArray) (w : World) (hs : s.size ≤ maxLen) (k : Int) (n : Nat) (hk : ((errR s.data.toList : Nat) : Int) = k) (hn : readN s.data.toList = n) :
    Calls Tryz.prog 52 #[.string s] w fun e w' => ∃ v, e = .returned (.tuple #[v, .int .i64 k]) ∧ OwnL w.heap.size w' v (dig n) ∧ Ext w w' :=
  (read_calls s w hs).mono fun _ _ ⟨v, h1, h2, h3⟩ => ⟨v, by rw [h1, hk], by rw [← hn]; exact h2, h3⟩

theorem append_of {s t u : ByteArray} (h : u.data.toList = s.data.toList ++ t.data.toList) : s ++ t = u := by
  rw [← Lib.mk_data u, h, ← Lib.mk_data (s ++ t)]
  simp [ByteArray.data_append]

theorem litn (w : World) (A : List Nat) (hA : ∀ x ∈ A, x < Bs) (C : Array Value) (hC : C.toList = A.map lv) (n : Nat) (hn : n = A.length) (hl : A.length ≤ 100) : Limbs (w.alloc (.cells C 46)) (.slice (some ⟨w.heap.size, 0, none⟩) n n) A :=
  limbs_lit w A hA C hC n hn (by rw [Lmax_def]; omega)

theorem small_Bs {n : Nat} (h : n ≤ 65535) : n < Bs := by rw [Bs_def]; omega

theorem val_two : val [0, 1] = Bs := by simp [val]

theorem dig_two : dig Bs = [0, 1] := by
  rw [← val_two]; exact dig_val (by simp [Bs_pos, one_lt_Bs]) (.inr (by simp))

theorem str_of (l : List UInt8) : ∃ s : ByteArray, s.data.toList = l := ⟨⟨l.toArray⟩, rfl⟩

theorem ten_bs (n : Nat) : 10 ^ n ≤ Bs ^ n := Nat.pow_le_pow_left (by rw [Bs_def]; omega) n

theorem dig_lmax {n k : Nat} (h : n < Bs ^ k) (hk : k ≤ 65536) : (dig n).length ≤ 65536 := Nat.le_trans (dig_len_le h) hk

theorem zero_bool {w : World} {v : Value} {A : List Nat} (hA : Limbs w v A) (hlen : A.length ≤ Lmax) (b : Bool) (hb : decide (val A = 0) = b) :
    Calls Tryz.prog 42 #[v] w fun e w' => e = .returned (.bool b) ∧ w = w' :=
  (zero_calls hA hlen).mono fun _ _ ⟨h1, h2⟩ => ⟨by rw [h1, hb], h2⟩

theorem cmp_int {w : World} {v u : Value} {A B : List Nat} (hA : Limbs w v A) (hB : Limbs w u B) (hlA : A.length ≤ Lmax) (hlB : B.length ≤ Lmax) (k : Int) (hk : cmpN (val A) (val B) = k) :
    Calls Tryz.prog 51 #[v, u] w fun e w' => e = .returned (.int .i64 k) ∧ w = w' :=
  (cmp_calls hA hB hlA hlB).mono fun _ _ ⟨h1, h2⟩ => ⟨by rw [h1, hk], h2⟩

theorem lmax_16 {n : Nat} (h : n ≤ 65536) : n ≤ Lmax := by rw [Lmax_def]; omega

/-- what one may do with a slice of the call's own -/
theorem OwnL.open {B : Nat} {w : World} {v : Value} {A : List Nat} (h : OwnL B w v A) :
    ∃ a cap, v = .slice a A.length cap ∧ A.length ≤ cap ∧ cap ≤ maxLen ∧
      (0 < A.length → ∃ g, a = some ⟨g, 0, none⟩ ∧ B ≤ g ∧ g < w.heap.size ∧ ∀ j, j < A.length → w.cell? ⟨g, j, none⟩ = some (.int .u64 (el A j : Nat)) ∧ w.frozen? ⟨g, j, none⟩ = false ∧
        ∀ z, z < Bs → OwnL B (w.setCell ⟨g, j, none⟩ (.int .u64 (z : Int))) v (A.set j z)) := by
  obtain ⟨h1, h2⟩ := h
  rcases h1 with h1 | ⟨a, rfl, h3, h4, h5⟩
  · rcases h1.2 with ⟨rfl, h0⟩ | ⟨g, cap, cur, rfl, hg, hh, hc, hm, hs, ht⟩
    · exact ⟨none, 0, by rw [h0], by omega, Nat.zero_le _, fun h => by omega⟩
    · refine ⟨_, cap, rfl, hc, hm, fun _ => ⟨g, rfl, hg, (Array.getElem?_eq_some_iff.1 hh).1, fun j hj => ⟨?_, h1.frozenAt j, fun z hz => ⟨.inl ?_, fun x hx => ?_⟩⟩⟩⟩
      · rw [h1.cellAt j (by omega)]
        simp [lv, el, List.getElem?_eq_getElem hj]
      · have := (h1.stored j (.int .u64 (z : Int))).1
        rw [List.length_set, List.map_set]
        exact this
      · exact set_lt h2 hz x hx
  · have : A.length = 0 := h3
    exact ⟨a, 0, by rw [this], by omega, Nat.zero_le _, fun h => by omega⟩

theorem digits_501 {l : List UInt8} (h : l.length ≤ 500) : (dig (readN l)).length ≤ 65536 := by
  by_cases hE : errR l = 0
  · have h1 := showL_lt (readN l)
    rw [show_read hE] at h1
    exact dig_lmax (Nat.lt_of_lt_of_le h1 (ten_bs _)) (by omega)
  · rw [readN, if_neg hE, dig_zero]; simp

end Go.Proofs.YtomhfipgabpfiaaGreatDoor
