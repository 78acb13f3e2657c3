/- FreqNames answers true: the examples; what is refused; weights at their ends; nil, and what nobody made. -/
import Derived.Test.YtefeglkbikcjeaaDoorFreqNam
import Derived.Test.YtefeglkbikcjeaaDoorRegTab
namespace Go.Proofs.YtefeglkbikcjeaaDoor
open Go Go.RowKit

def tabF : List (List Int × Value) := ([([], .int .i64 4), (List.replicate 65 0, .int .i64 5), (List.replicate 65 0 ++ [-1], .int .i64 5), ([0, -1], .int .i64 1), ([1048577], .int .i64 1), ([0], .int .i64 7), (List.replicate 64 0, .int .i64 7), ([1048576], .int .i64 0), ([0, 0, 1], .int .i64 0)] : List (List Int × Value))
theorem tabF_get : ∀ i, i < 9 → ∃ L, ∃ c : Nat, tabF[i]? = some (L, .int .i64 (c : Int)) ∧ errW L = c
  | 0, _ => ⟨_, 4, rfl, by decide +kernel⟩
  | 1, _ => ⟨_, 5, rfl, by decide +kernel⟩
  | 2, _ => ⟨_, 5, rfl, by decide +kernel⟩
  | 3, _ => ⟨_, 1, rfl, by decide +kernel⟩
  | 4, _ => ⟨_, 1, rfl, by decide +kernel⟩
  | 5, _ => ⟨_, 7, rfl, by decide +kernel⟩
  | 6, _ => ⟨_, 7, rfl, by decide +kernel⟩
  | 7, _ => ⟨_, 0, rfl, by decide +kernel⟩
  | 8, _ => ⟨_, 0, rfl, by decide +kernel⟩
  | n + 9, h => absurd h (by omega)
def manyW : List Int := List.replicate 64 1048576
theorem manyW_err : errW manyW = 0 := by decide +kernel
theorem manyW_sum : psum manyW manyW.length = 67108864 := by decide +kernel
theorem fill_set (n i : Nat) (h : i < n) (x : Int) : (List.replicate i x ++ List.replicate (n - i) 0).set i x = List.replicate (i + 1) x ++ List.replicate (n - (i + 1)) 0 := by
  obtain ⟨m, hm⟩ : ∃ m, n - i = m + 1 := ⟨n - i - 1, by omega⟩
  rw [hm, show n - (i + 1) = m by omega, List.set_append_right _ _ (by simp), List.length_replicate, Nat.sub_self, List.replicate_succ, List.set_cons_zero, List.replicate_succ', List.append_assoc]; rfl
theorem row_seen {t : TypeId} {B : Nat} {L : List Int} {v : Value} {w : World} {n : Nat} (h : w.ownsRow B t 1 v n (L.map zv)) (hn : L.length = n) (h0 : 1 ≤ n) : ∃ g cap, v = .slice (some ⟨g, 0, none⟩) n cap ∧ B ≤ g ∧ w.ownsRow g t 1 (.slice (some ⟨g, 0, none⟩) n cap) n (L.map zv) := by
  subst hn
  exact RowG.of h h0
theorem ownZ_of {t : TypeId} {g B : Nat} {L : List Int} {v : Value} {w : World} {n : Nat} (h : w.ownsRow g t 1 v n (L.map zv)) (hn : L.length = n) (hB : B ≤ g) (ht : t ∈ notBox := by decide) : OwnZ t B w v L := by
  subst hn
  exact ⟨Own.mono (.inl h) hB, ht⟩
theorem litz_at2 {t : TypeId} {w : World} (L : List Int) (C : Array Value) (hC : C.toList = L.map zv) (n : Nat) (hn : n = L.length) (hl : L.length ≤ 100000) (s : Nat) (hs : w.heap.size = s) (ht : t ∈ notBox := by decide) : OwnZ t 0 (w.alloc (.cells C t)) (.slice (some ⟨s, 0, none⟩) n n) L := by
  subst hs
  exact litz_n0 L C hC n hn hl (Nat.zero_le _) ht
theorem rowG_gen {t : TypeId} {g n cap : Nat} {L : List Int} {w : World} (h : RowG t g cap L w) (hn : L.length = n) : Ints w (.slice (some ⟨g, 0, none⟩) n cap) L := by subst hn; exact h.ownI.ints

set_option maxHeartbeats 4000000 in
set_option maxRecDepth 1000000 in
theorem freqNames_calls (w : World) : Calls Tryd.prog 5 #[] w (Yes w) := by
  go_enter Tryd.func5, Tryd.ntmps5
  go_wp2_with fail
  refine (awake10_calls _).mono ?_
  rintro e w1 ⟨rfl, x1⟩
  go_wp2_with (first
    | (at_builtin; refine append_ints rfl _ _ 53 2 Tryd.underlying53 info_i64 rfl g4 _ 65 ((List.replicate 65 0).map zv) rfl (ownsRow_ext' R4.out ((Ext.refl _).alloc _)) (by have := R4L.out; simp; omega) _ [(-1 : Int)] rfl (ints_lit w4 [(-1 : Int)] _ rfl 1 rfl (by simp)) (by decide) ?_; intro v5 w5 hown hgrow; (rw [← List.map_append] at hown); (simp only [List.length_cons, List.length_nil, Nat.zero_add, Nat.reduceAdd] at hown); obtain ⟨g5, c5, rfl, hg5, hr5⟩ := row_seen (L := List.replicate 65 0 ++ [-1]) hown (by simp) (by decide); have HG5 := Lib.hid hg5; have R5 := Lib.hid hr5; have X5 : Hid (Ext w3 w5) := (X4.out.alloc _).grown hgrow (fun k hk => by injection hk with hk; subst hk; exact HG4.out); clear hown hgrow hg5 hr5)
    | (at_builtin; refine append_ints rfl _ _ 53 2 Tryd.underlying53 info_i64 rfl w3.heap.size _ 0 [] rfl (World.ownsRow_made w3 #[] 0 (Nat.le_refl _) (Nat.zero_le _) rfl) (by simp) _ (List.replicate 65 0) rfl HI3.out (by decide) ?_; intro v4 w4 hown hgrow; (simp only [Nat.zero_add, List.nil_append, List.length_replicate] at hown); obtain ⟨g4, c4, rfl, hg4, hr4⟩ := row_seen (L := List.replicate 65 0) hown (by simp) (by decide); have HG4 := Lib.hid hg4; have R4 := Lib.hid hr4; have R4L : Hid (g4 < w4.heap.size) := (RowG.lt (t := 2) (cap := c4) (L := List.replicate 65 0) (by show World.ownsRow _ _ _ _ _ _ _; rw [List.length_replicate]; exact hr4)); have X4 : Hid (Ext w3 w4) := ((Ext.refl w3).alloc _).grown hgrow (fun k hk => by injection hk with hk; subst hk; exact Nat.le_refl _); clear hown hgrow hg4 hr4)
    | (at_make; refine make_ints rfl _ _ 53 2 Tryd.underlying53 info_i64 rfl 65 _ rfl rfl rfl (by decide) ?_; intro w3 hown hgrow; have Xw3 : Hid (Ext w w3) := Xw2.out.trans ((Ext.refl w2).grown hgrow (fun k hk => by cases hk)); have R3 : Hid (RowG 2 w2.heap.size 65 (List.replicate 65 0) w3) := RowG.made hown (by simp); have X23 : Hid (Ext w2 w3) := (Ext.refl w2).grown hgrow (fun k hk => by cases hk); have HI3 : Hid (Ints (w3.alloc (.cells #[] 2)) (.slice (some ⟨w2.heap.size, 0, none⟩) 65 65) (List.replicate 65 0)) := (rowG_gen R3.out (by simp)).ext ((Ext.refl _).alloc _); clear hown hgrow)
    | (at_make; refine make_ints rfl _ _ 53 2 Tryd.underlying53 info_i64 rfl 64 _ rfl rfl rfl (by decide) ?_; intro w2 hown hgrow; have Xw2 : Hid (Ext w w2) := x1.trans ((Ext.refl w1).grown hgrow (fun k hk => by cases hk)); have R2 : Hid (RowG 2 w1.heap.size 64 (List.replicate 64 0) w2) := RowG.made hown (by simp); clear hown hgrow))
  have Z0 : Hid (OwnZ 2 0 ((((((w5.alloc (.cells #[.int .i64 0, .int .i64 (-1)] 2)).alloc (.cells #[.int .i64 1048577] 2)).alloc (.cells #[.int .i64 0] 2)).alloc (.cells #[.int .i64 1048576] 2)).alloc (.cells #[.int .i64 0, .int .i64 0, .int .i64 1] 2)).alloc (.cells #[.slice none 0 0, .int .i64 4, .slice (some ⟨w2.heap.size, 0, none⟩) 65 65, .int .i64 5, .slice (some ⟨g5, 0, none⟩) 66 c5, .int .i64 5, .slice (some ⟨w5.heap.size, 0, none⟩) 2 2, .int .i64 1, .slice (some ⟨w5.heap.size + 1, 0, none⟩) 1 1, .int .i64 1, .slice (some ⟨w5.heap.size + 1 + 1, 0, none⟩) 1 1, .int .i64 7, .slice (some ⟨w1.heap.size, 0, none⟩) 64 64, .int .i64 7, .slice (some ⟨w5.heap.size + 1 + 1 + 1, 0, none⟩) 1 1, .int .i64 0, .slice (some ⟨w5.heap.size + 1 + 1 + 1 + 1, 0, none⟩) 3 3, .int .i64 0] 54)) (.slice none 0 0) []) := ⟨OwnI.nil _ _ _, by decide⟩
  have Z1 : Hid (OwnZ 2 0 ((((((w5.alloc (.cells #[.int .i64 0, .int .i64 (-1)] 2)).alloc (.cells #[.int .i64 1048577] 2)).alloc (.cells #[.int .i64 0] 2)).alloc (.cells #[.int .i64 1048576] 2)).alloc (.cells #[.int .i64 0, .int .i64 0, .int .i64 1] 2)).alloc (.cells #[.slice none 0 0, .int .i64 4, .slice (some ⟨w2.heap.size, 0, none⟩) 65 65, .int .i64 5, .slice (some ⟨g5, 0, none⟩) 66 c5, .int .i64 5, .slice (some ⟨w5.heap.size, 0, none⟩) 2 2, .int .i64 1, .slice (some ⟨w5.heap.size + 1, 0, none⟩) 1 1, .int .i64 1, .slice (some ⟨w5.heap.size + 1 + 1, 0, none⟩) 1 1, .int .i64 7, .slice (some ⟨w1.heap.size, 0, none⟩) 64 64, .int .i64 7, .slice (some ⟨w5.heap.size + 1 + 1 + 1, 0, none⟩) 1 1, .int .i64 0, .slice (some ⟨w5.heap.size + 1 + 1 + 1 + 1, 0, none⟩) 3 3, .int .i64 0] 54)) (.slice (some ⟨w2.heap.size, 0, none⟩) 65 65) (List.replicate 65 0)) := (ownZ_of (n := 65) (by have h := R3.out; unfold RowG at h; rw [List.length_replicate] at h; exact h) (by simp) (Nat.zero_le _)).ext (X5.out.trans (((((((Ext.refl _).alloc _).alloc _).alloc _).alloc _).alloc _).alloc _))
  have Z2 : Hid (OwnZ 2 0 ((((((w5.alloc (.cells #[.int .i64 0, .int .i64 (-1)] 2)).alloc (.cells #[.int .i64 1048577] 2)).alloc (.cells #[.int .i64 0] 2)).alloc (.cells #[.int .i64 1048576] 2)).alloc (.cells #[.int .i64 0, .int .i64 0, .int .i64 1] 2)).alloc (.cells #[.slice none 0 0, .int .i64 4, .slice (some ⟨w2.heap.size, 0, none⟩) 65 65, .int .i64 5, .slice (some ⟨g5, 0, none⟩) 66 c5, .int .i64 5, .slice (some ⟨w5.heap.size, 0, none⟩) 2 2, .int .i64 1, .slice (some ⟨w5.heap.size + 1, 0, none⟩) 1 1, .int .i64 1, .slice (some ⟨w5.heap.size + 1 + 1, 0, none⟩) 1 1, .int .i64 7, .slice (some ⟨w1.heap.size, 0, none⟩) 64 64, .int .i64 7, .slice (some ⟨w5.heap.size + 1 + 1 + 1, 0, none⟩) 1 1, .int .i64 0, .slice (some ⟨w5.heap.size + 1 + 1 + 1 + 1, 0, none⟩) 3 3, .int .i64 0] 54)) (.slice (some ⟨g5, 0, none⟩) 66 c5) (List.replicate 65 0 ++ [-1])) := (ownZ_of R5.out (by simp) (Nat.zero_le _)).ext (((((((Ext.refl _).alloc _).alloc _).alloc _).alloc _).alloc _).alloc _)
  have Z3 : Hid (OwnZ 2 0 ((((((w5.alloc (.cells #[.int .i64 0, .int .i64 (-1)] 2)).alloc (.cells #[.int .i64 1048577] 2)).alloc (.cells #[.int .i64 0] 2)).alloc (.cells #[.int .i64 1048576] 2)).alloc (.cells #[.int .i64 0, .int .i64 0, .int .i64 1] 2)).alloc (.cells #[.slice none 0 0, .int .i64 4, .slice (some ⟨w2.heap.size, 0, none⟩) 65 65, .int .i64 5, .slice (some ⟨g5, 0, none⟩) 66 c5, .int .i64 5, .slice (some ⟨w5.heap.size, 0, none⟩) 2 2, .int .i64 1, .slice (some ⟨w5.heap.size + 1, 0, none⟩) 1 1, .int .i64 1, .slice (some ⟨w5.heap.size + 1 + 1, 0, none⟩) 1 1, .int .i64 7, .slice (some ⟨w1.heap.size, 0, none⟩) 64 64, .int .i64 7, .slice (some ⟨w5.heap.size + 1 + 1 + 1, 0, none⟩) 1 1, .int .i64 0, .slice (some ⟨w5.heap.size + 1 + 1 + 1 + 1, 0, none⟩) 3 3, .int .i64 0] 54)) (.slice (some ⟨w5.heap.size, 0, none⟩) 2 2) [(0 : Int), (-1)]) := (litz_at2 (w := w5) [(0 : Int), (-1)] _ rfl 2 rfl (by decide) (w5.heap.size) (by simp)).ext ((((((Ext.refl _).alloc _).alloc _).alloc _).alloc _).alloc _)
  have Z4 : Hid (OwnZ 2 0 ((((((w5.alloc (.cells #[.int .i64 0, .int .i64 (-1)] 2)).alloc (.cells #[.int .i64 1048577] 2)).alloc (.cells #[.int .i64 0] 2)).alloc (.cells #[.int .i64 1048576] 2)).alloc (.cells #[.int .i64 0, .int .i64 0, .int .i64 1] 2)).alloc (.cells #[.slice none 0 0, .int .i64 4, .slice (some ⟨w2.heap.size, 0, none⟩) 65 65, .int .i64 5, .slice (some ⟨g5, 0, none⟩) 66 c5, .int .i64 5, .slice (some ⟨w5.heap.size, 0, none⟩) 2 2, .int .i64 1, .slice (some ⟨w5.heap.size + 1, 0, none⟩) 1 1, .int .i64 1, .slice (some ⟨w5.heap.size + 1 + 1, 0, none⟩) 1 1, .int .i64 7, .slice (some ⟨w1.heap.size, 0, none⟩) 64 64, .int .i64 7, .slice (some ⟨w5.heap.size + 1 + 1 + 1, 0, none⟩) 1 1, .int .i64 0, .slice (some ⟨w5.heap.size + 1 + 1 + 1 + 1, 0, none⟩) 3 3, .int .i64 0] 54)) (.slice (some ⟨w5.heap.size + 1, 0, none⟩) 1 1) [(1048577 : Int)]) := (litz_at2 (w := (w5.alloc (.cells #[.int .i64 0, .int .i64 (-1)] 2))) [(1048577 : Int)] _ rfl 1 rfl (by decide) (w5.heap.size + 1) (by simp)).ext (((((Ext.refl _).alloc _).alloc _).alloc _).alloc _)
  have Z5 : Hid (OwnZ 2 0 ((((((w5.alloc (.cells #[.int .i64 0, .int .i64 (-1)] 2)).alloc (.cells #[.int .i64 1048577] 2)).alloc (.cells #[.int .i64 0] 2)).alloc (.cells #[.int .i64 1048576] 2)).alloc (.cells #[.int .i64 0, .int .i64 0, .int .i64 1] 2)).alloc (.cells #[.slice none 0 0, .int .i64 4, .slice (some ⟨w2.heap.size, 0, none⟩) 65 65, .int .i64 5, .slice (some ⟨g5, 0, none⟩) 66 c5, .int .i64 5, .slice (some ⟨w5.heap.size, 0, none⟩) 2 2, .int .i64 1, .slice (some ⟨w5.heap.size + 1, 0, none⟩) 1 1, .int .i64 1, .slice (some ⟨w5.heap.size + 1 + 1, 0, none⟩) 1 1, .int .i64 7, .slice (some ⟨w1.heap.size, 0, none⟩) 64 64, .int .i64 7, .slice (some ⟨w5.heap.size + 1 + 1 + 1, 0, none⟩) 1 1, .int .i64 0, .slice (some ⟨w5.heap.size + 1 + 1 + 1 + 1, 0, none⟩) 3 3, .int .i64 0] 54)) (.slice (some ⟨w5.heap.size + 1 + 1, 0, none⟩) 1 1) [(0 : Int)]) := (litz_at2 (w := ((w5.alloc (.cells #[.int .i64 0, .int .i64 (-1)] 2)).alloc (.cells #[.int .i64 1048577] 2))) [(0 : Int)] _ rfl 1 rfl (by decide) (w5.heap.size + 1 + 1) (by simp)).ext ((((Ext.refl _).alloc _).alloc _).alloc _)
  have Z7 : Hid (OwnZ 2 0 ((((((w5.alloc (.cells #[.int .i64 0, .int .i64 (-1)] 2)).alloc (.cells #[.int .i64 1048577] 2)).alloc (.cells #[.int .i64 0] 2)).alloc (.cells #[.int .i64 1048576] 2)).alloc (.cells #[.int .i64 0, .int .i64 0, .int .i64 1] 2)).alloc (.cells #[.slice none 0 0, .int .i64 4, .slice (some ⟨w2.heap.size, 0, none⟩) 65 65, .int .i64 5, .slice (some ⟨g5, 0, none⟩) 66 c5, .int .i64 5, .slice (some ⟨w5.heap.size, 0, none⟩) 2 2, .int .i64 1, .slice (some ⟨w5.heap.size + 1, 0, none⟩) 1 1, .int .i64 1, .slice (some ⟨w5.heap.size + 1 + 1, 0, none⟩) 1 1, .int .i64 7, .slice (some ⟨w1.heap.size, 0, none⟩) 64 64, .int .i64 7, .slice (some ⟨w5.heap.size + 1 + 1 + 1, 0, none⟩) 1 1, .int .i64 0, .slice (some ⟨w5.heap.size + 1 + 1 + 1 + 1, 0, none⟩) 3 3, .int .i64 0] 54)) (.slice (some ⟨w5.heap.size + 1 + 1 + 1, 0, none⟩) 1 1) [(1048576 : Int)]) := (litz_at2 (w := (((w5.alloc (.cells #[.int .i64 0, .int .i64 (-1)] 2)).alloc (.cells #[.int .i64 1048577] 2)).alloc (.cells #[.int .i64 0] 2))) [(1048576 : Int)] _ rfl 1 rfl (by decide) (w5.heap.size + 1 + 1 + 1) (by simp)).ext (((Ext.refl _).alloc _).alloc _)
  have Z8 : Hid (OwnZ 2 0 ((((((w5.alloc (.cells #[.int .i64 0, .int .i64 (-1)] 2)).alloc (.cells #[.int .i64 1048577] 2)).alloc (.cells #[.int .i64 0] 2)).alloc (.cells #[.int .i64 1048576] 2)).alloc (.cells #[.int .i64 0, .int .i64 0, .int .i64 1] 2)).alloc (.cells #[.slice none 0 0, .int .i64 4, .slice (some ⟨w2.heap.size, 0, none⟩) 65 65, .int .i64 5, .slice (some ⟨g5, 0, none⟩) 66 c5, .int .i64 5, .slice (some ⟨w5.heap.size, 0, none⟩) 2 2, .int .i64 1, .slice (some ⟨w5.heap.size + 1, 0, none⟩) 1 1, .int .i64 1, .slice (some ⟨w5.heap.size + 1 + 1, 0, none⟩) 1 1, .int .i64 7, .slice (some ⟨w1.heap.size, 0, none⟩) 64 64, .int .i64 7, .slice (some ⟨w5.heap.size + 1 + 1 + 1, 0, none⟩) 1 1, .int .i64 0, .slice (some ⟨w5.heap.size + 1 + 1 + 1 + 1, 0, none⟩) 3 3, .int .i64 0] 54)) (.slice (some ⟨w5.heap.size + 1 + 1 + 1 + 1, 0, none⟩) 3 3) [(0 : Int), 0, 1]) := (litz_at2 (w := ((((w5.alloc (.cells #[.int .i64 0, .int .i64 (-1)] 2)).alloc (.cells #[.int .i64 1048577] 2)).alloc (.cells #[.int .i64 0] 2)).alloc (.cells #[.int .i64 1048576] 2))) [(0 : Int), 0, 1] _ rfl 3 rfl (by decide) (w5.heap.size + 1 + 1 + 1 + 1) (by simp)).ext ((Ext.refl _).alloc _)
  have Z6 : Hid (OwnZ 2 0 ((((((w5.alloc (.cells #[.int .i64 0, .int .i64 (-1)] 2)).alloc (.cells #[.int .i64 1048577] 2)).alloc (.cells #[.int .i64 0] 2)).alloc (.cells #[.int .i64 1048576] 2)).alloc (.cells #[.int .i64 0, .int .i64 0, .int .i64 1] 2)).alloc (.cells #[.slice none 0 0, .int .i64 4, .slice (some ⟨w2.heap.size, 0, none⟩) 65 65, .int .i64 5, .slice (some ⟨g5, 0, none⟩) 66 c5, .int .i64 5, .slice (some ⟨w5.heap.size, 0, none⟩) 2 2, .int .i64 1, .slice (some ⟨w5.heap.size + 1, 0, none⟩) 1 1, .int .i64 1, .slice (some ⟨w5.heap.size + 1 + 1, 0, none⟩) 1 1, .int .i64 7, .slice (some ⟨w1.heap.size, 0, none⟩) 64 64, .int .i64 7, .slice (some ⟨w5.heap.size + 1 + 1 + 1, 0, none⟩) 1 1, .int .i64 0, .slice (some ⟨w5.heap.size + 1 + 1 + 1 + 1, 0, none⟩) 3 3, .int .i64 0] 54)) (.slice (some ⟨w1.heap.size, 0, none⟩) 64 64) (List.replicate 64 0)) := (ownZ_of (n := 64) (by have h := R2.out; unfold RowG at h; rw [List.length_replicate] at h; exact h) (by simp) (Nat.zero_le _)).ext ((X23.out.trans X5.out).trans (((((((Ext.refl _).alloc _).alloc _).alloc _).alloc _).alloc _).alloc _))
  have TB : Hid (Tab2 2 (w5.heap.size + 1 + 1 + 1 + 1 + 1) tabF ((((((w5.alloc (.cells #[.int .i64 0, .int .i64 (-1)] 2)).alloc (.cells #[.int .i64 1048577] 2)).alloc (.cells #[.int .i64 0] 2)).alloc (.cells #[.int .i64 1048576] 2)).alloc (.cells #[.int .i64 0, .int .i64 0, .int .i64 1] 2)).alloc (.cells #[.slice none 0 0, .int .i64 4, .slice (some ⟨w2.heap.size, 0, none⟩) 65 65, .int .i64 5, .slice (some ⟨g5, 0, none⟩) 66 c5, .int .i64 5, .slice (some ⟨w5.heap.size, 0, none⟩) 2 2, .int .i64 1, .slice (some ⟨w5.heap.size + 1, 0, none⟩) 1 1, .int .i64 1, .slice (some ⟨w5.heap.size + 1 + 1, 0, none⟩) 1 1, .int .i64 7, .slice (some ⟨w1.heap.size, 0, none⟩) 64 64, .int .i64 7, .slice (some ⟨w5.heap.size + 1 + 1 + 1, 0, none⟩) 1 1, .int .i64 0, .slice (some ⟨w5.heap.size + 1 + 1 + 1 + 1, 0, none⟩) 3 3, .int .i64 0] 54))) := by
    have h := Tab2.new (t := 2) (ty := 54) (w := (((((w5.alloc (.cells #[.int .i64 0, .int .i64 (-1)] 2)).alloc (.cells #[.int .i64 1048577] 2)).alloc (.cells #[.int .i64 0] 2)).alloc (.cells #[.int .i64 1048576] 2)).alloc (.cells #[.int .i64 0, .int .i64 0, .int .i64 1] 2))) (C := #[.slice none 0 0, .int .i64 4, .slice (some ⟨w2.heap.size, 0, none⟩) 65 65, .int .i64 5, .slice (some ⟨g5, 0, none⟩) 66 c5, .int .i64 5, .slice (some ⟨w5.heap.size, 0, none⟩) 2 2, .int .i64 1, .slice (some ⟨w5.heap.size + 1, 0, none⟩) 1 1, .int .i64 1, .slice (some ⟨w5.heap.size + 1 + 1, 0, none⟩) 1 1, .int .i64 7, .slice (some ⟨w1.heap.size, 0, none⟩) 64 64, .int .i64 7, .slice (some ⟨w5.heap.size + 1 + 1 + 1, 0, none⟩) 1 1, .int .i64 0, .slice (some ⟨w5.heap.size + 1 + 1 + 1 + 1, 0, none⟩) 3 3, .int .i64 0]) (rows := tabF) (by simp) (Rows2.cons Z0.out (Rows2.cons Z1.out (Rows2.cons Z2.out (Rows2.cons Z3.out (Rows2.cons Z4.out (Rows2.cons Z5.out (Rows2.cons Z6.out (Rows2.cons Z7.out (Rows2.cons Z8.out (Rows2.nil _ _))))))))))
    rw [show (((((w5.alloc (.cells #[.int .i64 0, .int .i64 (-1)] 2)).alloc (.cells #[.int .i64 1048577] 2)).alloc (.cells #[.int .i64 0] 2)).alloc (.cells #[.int .i64 1048576] 2)).alloc (.cells #[.int .i64 0, .int .i64 0, .int .i64 1] 2)).heap.size = w5.heap.size + 1 + 1 + 1 + 1 + 1 by simp] at h
    exact h
  have XW : Hid (Ext w3 ((((((w5.alloc (.cells #[.int .i64 0, .int .i64 (-1)] 2)).alloc (.cells #[.int .i64 1048577] 2)).alloc (.cells #[.int .i64 0] 2)).alloc (.cells #[.int .i64 1048576] 2)).alloc (.cells #[.int .i64 0, .int .i64 0, .int .i64 1] 2)).alloc (.cells #[.slice none 0 0, .int .i64 4, .slice (some ⟨w2.heap.size, 0, none⟩) 65 65, .int .i64 5, .slice (some ⟨g5, 0, none⟩) 66 c5, .int .i64 5, .slice (some ⟨w5.heap.size, 0, none⟩) 2 2, .int .i64 1, .slice (some ⟨w5.heap.size + 1, 0, none⟩) 1 1, .int .i64 1, .slice (some ⟨w5.heap.size + 1 + 1, 0, none⟩) 1 1, .int .i64 7, .slice (some ⟨w1.heap.size, 0, none⟩) 64 64, .int .i64 7, .slice (some ⟨w5.heap.size + 1 + 1 + 1, 0, none⟩) 1 1, .int .i64 0, .slice (some ⟨w5.heap.size + 1 + 1 + 1 + 1, 0, none⟩) 3 3, .int .i64 0] 54))) := X5.out.trans (((((((Ext.refl _).alloc _).alloc _).alloc _).alloc _).alloc _).alloc _)
  obtain ⟨W6, hW⟩ : ∃ W, W = ((((((w5.alloc (.cells #[.int .i64 0, .int .i64 (-1)] 2)).alloc (.cells #[.int .i64 1048577] 2)).alloc (.cells #[.int .i64 0] 2)).alloc (.cells #[.int .i64 1048576] 2)).alloc (.cells #[.int .i64 0, .int .i64 0, .int .i64 1] 2)).alloc (.cells #[.slice none 0 0, .int .i64 4, .slice (some ⟨w2.heap.size, 0, none⟩) 65 65, .int .i64 5, .slice (some ⟨g5, 0, none⟩) 66 c5, .int .i64 5, .slice (some ⟨w5.heap.size, 0, none⟩) 2 2, .int .i64 1, .slice (some ⟨w5.heap.size + 1, 0, none⟩) 1 1, .int .i64 1, .slice (some ⟨w5.heap.size + 1 + 1, 0, none⟩) 1 1, .int .i64 7, .slice (some ⟨w1.heap.size, 0, none⟩) 64 64, .int .i64 7, .slice (some ⟨w5.heap.size + 1 + 1 + 1, 0, none⟩) 1 1, .int .i64 0, .slice (some ⟨w5.heap.size + 1 + 1 + 1 + 1, 0, none⟩) 3 3, .int .i64 0] 54)) := ⟨_, rfl⟩
  obtain ⟨tg, htg⟩ : ∃ g, w5.heap.size + 1 + 1 + 1 + 1 + 1 = g := ⟨_, rfl⟩
  rw [← hW] at TB XW ⊢
  rw [htg] at TB ⊢
  have RM := Lib.hid (R2.out.ext (X23.out.trans XW.out))
  have EW := Lib.hid (Xw3.out.trans XW.out)
  have GW : Hid (w.heap.size ≤ w1.heap.size) := x1.size
  obtain ⟨gm, hgm⟩ : ∃ g, w1.heap.size = g := ⟨_, rfl⟩
  rw [hgm] at RM GW ⊢
  clear hW htg hgm Z0 Z1 Z2 Z3 Z4 Z5 Z6 Z7 Z8 R2 R3 HI3 R4 R4L R5 X4 X5 XW Xw2 Xw3 X23 HG4 HG5
  go_loopw [65] (fun v65 wr => ∃ i : Nat, v65 = .int .i64 (i : Int) ∧ i ≤ 9 ∧ Ext W6 wr) (fun v65 _ => 9 - (intOf v65).toNat)
  case atStart => exact ⟨0, rfl, Nat.zero_le _, Ext.refl _⟩
  case round =>
    rename World => w7
    obtain ⟨i, rfl, hi, hx⟩ := hrel
    have X7 := Lib.hid hx
    clear hx
    by_cases hi9 : i < 9
    · have LT := Lib.hid hi9
      obtain ⟨L, c, h1, h2⟩ := tabF_get i hi9
      obtain ⟨ta, tn, tc, k1, k2, k3⟩ := (TB.out.ext X7.out).cell h1
      have HZ := Lib.hid k3
      have HC := Lib.hid h2
      have hi8 : (i : Int) ≤ 8 := by omega
      have hcc : ((c : Int) != (c : Int)) = false := by simp
      clear h1 h2 k3 hi
      go_wp2_with fail
      have C0 : Hid (At w7.heap.size 0 (.slice ta tn tc) (w7.alloc (.cells #[.slice ta tn tc, .int .i64 (c : Int)] 54))) := At.n0 (by rfl)
      have C1 : Hid (At w7.heap.size 1 (.int .i64 (c : Int)) (w7.alloc (.cells #[.slice ta tn tc, .int .i64 (c : Int)] 54))) := At.n0 (by rfl)
      have X8 : Hid (Ext w7 (w7.alloc (.cells #[.slice ta tn tc, .int .i64 (c : Int)] 54))) := (Ext.refl _).alloc _
      by_cases hc0 : c = 0
      · subst hc0
        refine (fnew_ok (HZ.out.ints.ext X8.out) HC.out).mono ?_
        rintro e wa ⟨ts, tp, tcc, rfl, tl, tt, xa⟩
        have g1 := (C1.out.ext xa).1
        have XA := Lib.hid (X7.out.trans (X8.out.trans xa))
        clear xa tt tl
        go_wp2_with fail
        exact ⟨⟨i + 1, by go_num, LT.out, XA.out⟩, by simp [intOf]; have := LT.out; omega⟩
      · have hc1 : ((c : Int) != 0) = true := by rw [bne_iff_ne]; omega
        refine (fnew_no (HZ.out.ints.ext X8.out) c HC.out hc0).mono ?_
        rintro e wa ⟨rfl, xa⟩
        have g1 := (C1.out.ext xa).1
        have XA := Lib.hid (X7.out.trans (X8.out.trans xa))
        clear xa
        go_wp2_with fail
        exact ⟨⟨i + 1, by go_num, LT.out, XA.out⟩, by simp [intOf]; have := LT.out; omega⟩
    · have i9 : (9 : Int) ≤ (i : Int) := by omega
      have XA := Lib.hid (EW.out.trans X7.out)
      have RA := Lib.hid (RM.out.ext X7.out)
      clear hi hi9 TB X7 EW RM
      go_wp2_with fail
      go_loopw [7] (fun v7 wr => ∃ j : Nat, v7 = .int .i64 (j : Int) ∧ j ≤ 64 ∧ Ext w wr ∧ RowG 2 gm 64 (List.replicate j 1048576 ++ List.replicate (64 - j) 0) wr) (fun v7 _ => 64 - (intOf v7).toNat)
      case atStart => exact ⟨0, rfl, Nat.zero_le _, XA.out, by simpa using RA.out⟩
      case round =>
        rename World => wr
        obtain ⟨j, rfl, hj, hx, hr⟩ := hrel
        have XX := Lib.hid hx
        have RR := Lib.hid hr
        clear hx hr
        by_cases hj64 : j < 64
        · have LT := Lib.hid hj64
          have hj63 : (j : Int) ≤ 63 := by omega
          have k1 := RR.out.cell (j := j) (by simp; omega)
          obtain ⟨y, hy⟩ : ∃ y, (List.replicate j (1048576 : Int) ++ List.replicate (64 - j) 0).getD j 0 = y := ⟨_, rfl⟩
          rw [hy] at k1
          have k2 := RR.out.free j
          clear hj hj64 hy
          go_wp2_with fail
          refine ⟨⟨j + 1, by go_num, LT.out, XX.out.setCell GW.out _, ?_⟩, by simp [intOf]; have := LT.out; omega⟩
          have h := RR.out.set j 1048576
          rw [fill_set 64 j LT.out] at h
          exact h
        · obtain rfl : j = 64 := by omega
          have HIM : Hid (Ints wr (.slice (some ⟨gm, 0, none⟩) 64 64) manyW) := by
            have h := RR.out
            rw [Nat.sub_self, List.replicate_zero, List.append_nil] at h
            exact rowG_gen h List.length_replicate
          have HE := Lib.hid manyW_err
          have HSM := Lib.hid manyW_sum
          have P1 : Hid (IsPick manyW 67108863 63) := ⟨by decide +kernel, by decide +kernel, by decide +kernel⟩
          have P2 : Hid (IsPick manyW 1048575 0) := ⟨by decide +kernel, by decide +kernel, by decide +kernel⟩
          have P3 : Hid (IsPick manyW 1048576 1) := ⟨by decide +kernel, by decide +kernel, by decide +kernel⟩
          have HE2 : Hid (errW [0, 7] = 0) := by show _ = _; decide +kernel
          have HBD : Hid (manyW.length = 64) := rfl
          clear hj hj64 RR XA RA GW
          go_wp2_with fail
          refine (fnew_ok HIM.out HE.out).mono ?_
          rintro e w1 ⟨ts11, tp11, tc11, rfl, tl11, tt11, x1⟩
          have e1_ : Ext w w1 := Ext.trans XX.out x1
          have b10_0 : Hid (At (ts11) 0 (.slice tp11 (manyW : List Int).length tc11) w1) := tt11.c
          have k10 := Lib.hid tt11.bx
          have up11 : Hid (OwnZ 2 0 w1 _ (ups (manyW) (manyW : List Int).length)) := ⟨tt11.up, by decide⟩
          have l10 := Lib.hid tl11
          have u10 := Lib.hid tt11.bx.lt
          clear tl11 tt11
          go_wp2_with fail
          refine (fsum_ext ⟨b10_0.out, k10.out, up11.out.1⟩ (errW_ok HE.out).1 (errW_ok HE.out).2.1 _ HSM.out).mono ?_
          rintro e w2 ⟨rfl, x2⟩
          have e2_ : Ext w w2 := Ext.trans e1_ x2
          go_wp2_with fail
          refine (picked_yes ⟨(b10_0.out.ext x2), (k10.out.gr x2.gr), (up11.out.ext x2).1⟩ HE.out _ 63 P1.out _ rfl).mono ?_
          rintro e w3 ⟨rfl, x3⟩
          have e3_ : Ext w w3 := Ext.trans e2_ x3
          go_wp2_with fail
          refine (picked_yes ⟨(b10_0.out.ext (x2.trans x3)), (k10.out.gr (x2.gr.trans x3.gr)), (up11.out.ext (x2.trans x3)).1⟩ HE.out _ 0 P2.out _ rfl).mono ?_
          rintro e w4 ⟨rfl, x4⟩
          have e4_ : Ext w w4 := Ext.trans e3_ x4
          go_wp2_with fail
          refine (picked_yes ⟨(b10_0.out.ext (x2.trans (x3.trans x4))), (k10.out.gr (x2.gr.trans (x3.gr.trans x4.gr))), (up11.out.ext (x2.trans (x3.trans x4))).1⟩ HE.out _ 1 P3.out _ rfl).mono ?_
          rintro e w5 ⟨rfl, x5⟩
          have e5_ : Ext w w5 := Ext.trans e4_ x5
          go_wp2_with fail
          refine (fpick_bad ⟨(b10_0.out.ext (x2.trans (x3.trans (x4.trans x5)))), (k10.out.gr (x2.gr.trans (x3.gr.trans (x4.gr.trans x5.gr)))), (up11.out.ext (x2.trans (x3.trans (x4.trans x5)))).1⟩ HE.out _ (.inl (by decide))).mono ?_
          rintro e w6 ⟨rfl, x6⟩
          have e6_ : Ext w w6 := Ext.trans e5_ x6
          go_wp2_with fail
          refine (fshare_bad ⟨(b10_0.out.ext (x2.trans (x3.trans (x4.trans (x5.trans x6))))), (k10.out.gr (x2.gr.trans (x3.gr.trans (x4.gr.trans (x5.gr.trans x6.gr))))), (up11.out.ext (x2.trans (x3.trans (x4.trans (x5.trans x6))))).1⟩ HE.out (-1) (.inl (by decide))).mono ?_
          rintro e w7 ⟨rfl, x7⟩
          have e7_ : Ext w w7 := Ext.trans e6_ x7
          go_wp2_with fail
          obtain ⟨v8, hv8⟩ : ∃ W, W = (w7.alloc (.cells #[.bool false, .slice none 0 0, .slice none 0 0] 64)) := ⟨_, rfl⟩
          have y8 : Ext w7 v8 := by rw [hv8]; exact ((Ext.refl _).alloc _)
          have b11_0 : Hid (At (w7.heap.size) 0 (.bool false) v8) := by rw [hv8]; exact At.ext (At.n0 (by rfl)) (Ext.refl _)
          have b11_1 : Hid (At (w7.heap.size) 1 (.slice none 0 0) v8) := by rw [hv8]; exact At.ext (At.n0 (by rfl)) (Ext.refl _)
          have b11_2 : Hid (At (w7.heap.size) 2 (.slice none 0 0) v8) := by rw [hv8]; exact At.ext (At.n0 (by rfl)) (Ext.refl _)
          have k11 : Hid (Bx 3 (w7.heap.size) v8) := by rw [hv8]; exact Bx.gr (Bx.n0 3 ⟨rfl, by decide⟩ (by decide) noI_s3) (Ext.gr (Ext.refl _))
          have u11 : Hid (w7.heap.size < v8.heap.size) := b11_0.out.2
          have e8_ : Ext w v8 := Ext.trans e7_ y8
          rw [← hv8]
          clear hv8
          refine (fshare_bad ⟨(b10_0.out.ext (x2.trans (x3.trans (x4.trans (x5.trans (x6.trans (x7.trans y8))))))), (k10.out.gr (x2.gr.trans (x3.gr.trans (x4.gr.trans (x5.gr.trans (x6.gr.trans (x7.gr.trans y8.gr))))))), (up11.out.ext (x2.trans (x3.trans (x4.trans (x5.trans (x6.trans (x7.trans y8))))))).1⟩ HE.out 64 (.inr (by rw [HBD.out]; decide))).mono ?_
          rintro e w9 ⟨rfl, x9⟩
          have e9_ : Ext w w9 := Ext.trans e8_ x9
          go_wp2_with fail
          obtain ⟨v10, hv10⟩ : ∃ W, W = ((w9.alloc (.cells #[.bool false, .slice none 0 0, .slice none 0 0] 64)).alloc (.cells #[.int .i64 0, .int .i64 7] 2)) := ⟨_, rfl⟩
          have y10 : Ext w9 v10 := by rw [hv10]; exact (((Ext.refl _).alloc _).alloc _)
          have b12_0 : Hid (At (w9.heap.size) 0 (.bool false) v10) := by rw [hv10]; exact At.ext (At.n0 (by rfl)) ((Ext.refl _).alloc _)
          have b12_1 : Hid (At (w9.heap.size) 1 (.slice none 0 0) v10) := by rw [hv10]; exact At.ext (At.n0 (by rfl)) ((Ext.refl _).alloc _)
          have b12_2 : Hid (At (w9.heap.size) 2 (.slice none 0 0) v10) := by rw [hv10]; exact At.ext (At.n0 (by rfl)) ((Ext.refl _).alloc _)
          have k12 : Hid (Bx 3 (w9.heap.size) v10) := by rw [hv10]; exact Bx.gr (Bx.n0 3 ⟨rfl, by decide⟩ (by decide) noI_s3) (Ext.gr ((Ext.refl _).alloc _))
          have u12 : Hid (w9.heap.size < v10.heap.size) := b12_0.out.2
          have r13 : Hid (OwnZ 2 w.heap.size v10 (.slice (some ⟨w9.heap.size + 1, 0, none⟩) 2 2) [0, 7]) := by rw [hv10]; exact OwnZ.ext (litz_n1 [0, 7] _ rfl 2 rfl (by decide) e9_.size) (Ext.refl _)
          have e10_ : Ext w v10 := Ext.trans e9_ y10
          rw [← hv10]
          clear hv10
          refine (fnew_ok r13.out.ints HE2.out).mono ?_
          rintro e w11 ⟨ts19, tp19, tc19, rfl, tl19, tt19, x11⟩
          have e11_ : Ext w w11 := Ext.trans e10_ x11
          have b14_0 : Hid (At (ts19) 0 (.slice tp19 ([0, 7] : List Int).length tc19) w11) := tt19.c
          have k14 := Lib.hid tt19.bx
          have up19 : Hid (OwnZ 2 0 w11 _ (ups ([0, 7]) ([0, 7] : List Int).length)) := ⟨tt19.up, by decide⟩
          have l14 := Lib.hid tl19
          have u14 := Lib.hid tt19.bx.lt
          clear tl19 tt19
          go_wp2_with fail
          obtain ⟨v12, hv12⟩ : ∃ W, W = (w11.alloc (.cells #[.slice none 0 0] 68)) := ⟨_, rfl⟩
          have y12 : Ext w11 v12 := by rw [hv12]; exact ((Ext.refl _).alloc _)
          have b15_0 : Hid (At (w11.heap.size) 0 (.slice none 0 0) v12) := by rw [hv12]; exact At.ext (At.n0 (by rfl)) (Ext.refl _)
          have k15 : Hid (Bx 1 (w11.heap.size) v12) := by rw [hv12]; exact Bx.gr (Bx.n0 1 ⟨rfl, by decide⟩ (by decide) noI_1) (Ext.gr (Ext.refl _))
          have u15 : Hid (w11.heap.size < v12.heap.size) := b15_0.out.2
          have e12_ : Ext w v12 := Ext.trans e11_ y12
          rw [← hv12]
          clear hv12
          refine (fpick0 (.inl rfl) 0).mono ?_
          rintro e w13 ⟨rfl, x13⟩
          have e13_ : Ext w w13 := Ext.trans e12_ x13
          go_wp2_with fail
          refine (fpick0 (.inr ⟨_, rfl, (b15_0.out.ext x13)⟩) 0).mono ?_
          rintro e w14 ⟨rfl, x14⟩
          have e14_ : Ext w w14 := Ext.trans e13_ x14
          go_wp2_with fail
          refine (fshare0 (.inl rfl) 0).mono ?_
          rintro e w15 ⟨rfl, x15⟩
          have e15_ : Ext w w15 := Ext.trans e14_ x15
          go_wp2_with fail
          obtain ⟨v16, hv16⟩ : ∃ W, W = (w15.alloc (.cells #[.bool false, .slice none 0 0, .slice none 0 0] 64)) := ⟨_, rfl⟩
          have y16 : Ext w15 v16 := by rw [hv16]; exact ((Ext.refl _).alloc _)
          have b16_0 : Hid (At (w15.heap.size) 0 (.bool false) v16) := by rw [hv16]; exact At.ext (At.n0 (by rfl)) (Ext.refl _)
          have b16_1 : Hid (At (w15.heap.size) 1 (.slice none 0 0) v16) := by rw [hv16]; exact At.ext (At.n0 (by rfl)) (Ext.refl _)
          have b16_2 : Hid (At (w15.heap.size) 2 (.slice none 0 0) v16) := by rw [hv16]; exact At.ext (At.n0 (by rfl)) (Ext.refl _)
          have k16 : Hid (Bx 3 (w15.heap.size) v16) := by rw [hv16]; exact Bx.gr (Bx.n0 3 ⟨rfl, by decide⟩ (by decide) noI_s3) (Ext.gr (Ext.refl _))
          have u16 : Hid (w15.heap.size < v16.heap.size) := b16_0.out.2
          have e16_ : Ext w v16 := Ext.trans e15_ y16
          rw [← hv16]
          clear hv16
          refine (fshare0 (.inr ⟨_, rfl, (b15_0.out.ext (x13.trans (x14.trans (x15.trans y16))))⟩) 0).mono ?_
          rintro e w17 ⟨rfl, x17⟩
          have e17_ : Ext w w17 := Ext.trans e16_ x17
          go_wp2_with fail
          obtain ⟨v18, hv18⟩ : ∃ W, W = (w17.alloc (.cells #[.bool false, .slice none 0 0, .slice none 0 0] 64)) := ⟨_, rfl⟩
          have y18 : Ext w17 v18 := by rw [hv18]; exact ((Ext.refl _).alloc _)
          have b17_0 : Hid (At (w17.heap.size) 0 (.bool false) v18) := by rw [hv18]; exact At.ext (At.n0 (by rfl)) (Ext.refl _)
          have b17_1 : Hid (At (w17.heap.size) 1 (.slice none 0 0) v18) := by rw [hv18]; exact At.ext (At.n0 (by rfl)) (Ext.refl _)
          have b17_2 : Hid (At (w17.heap.size) 2 (.slice none 0 0) v18) := by rw [hv18]; exact At.ext (At.n0 (by rfl)) (Ext.refl _)
          have k17 : Hid (Bx 3 (w17.heap.size) v18) := by rw [hv18]; exact Bx.gr (Bx.n0 3 ⟨rfl, by decide⟩ (by decide) noI_s3) (Ext.gr (Ext.refl _))
          have u17 : Hid (w17.heap.size < v18.heap.size) := b17_0.out.2
          have e18_ : Ext w v18 := Ext.trans e17_ y18
          rw [← hv18]
          clear hv18
          refine (cnew_ok ⟨#[48, 49, 48, 49]⟩ _ (by decide) (by decide +kernel)).mono ?_
          rintro e w19 ⟨cs24, rfl, cl24, cc24_, x19⟩
          have e19_ : Ext w w19 := Ext.trans e18_ x19
          have b18_0 : Hid (At (cs24) 0 (.string ⟨#[48, 49, 48, 49]⟩) w19) := cc24_.c0
          have b18_1 : Hid (At (cs24) 1 (.int .i64 ((0 : Nat) : Int)) w19) := cc24_.c1
          have b18_2 : Hid (At (cs24) 2 (.bool false) w19) := cc24_.c2
          have k18 := Lib.hid cc24_.bx
          have l18 := Lib.hid cl24
          have u18 := Lib.hid cc24_.bx.lt
          clear cl24 cc24_
          go_wp2_with fail
          refine (fdraw0 (.inl rfl) (.pointer (some ⟨cs24, 0, none⟩))).mono ?_
          rintro e w20 ⟨rfl, x20⟩
          have e20_ : Ext w w20 := Ext.trans e19_ x20
          go_wp2_with fail
          refine (fdraw0 (.inr ⟨_, rfl, (b15_0.out.ext (x13.trans (x14.trans (x15.trans (y16.trans (x17.trans (y18.trans (x19.trans x20))))))))⟩) (.pointer (some ⟨cs24, 0, none⟩))).mono ?_
          rintro e w21 ⟨rfl, x21⟩
          have e21_ : Ext w w21 := Ext.trans e20_ x21
          go_wp2_with fail
          refine (fsum_ext ⟨(b14_0.out.ext (y12.trans (x13.trans (x14.trans (x15.trans (y16.trans (x17.trans (y18.trans (x19.trans (x20.trans x21)))))))))), (k14.out.gr (y12.gr.trans (x13.gr.trans (x14.gr.trans (x15.gr.trans (y16.gr.trans (x17.gr.trans (y18.gr.trans (x19.gr.trans (x20.gr.trans x21.gr)))))))))), (up19.out.ext (y12.trans (x13.trans (x14.trans (x15.trans (y16.trans (x17.trans (y18.trans (x19.trans (x20.trans x21)))))))))).1⟩ (errW_ok HE2.out).1 (errW_ok HE2.out).2.1 _ (show psum [0, 7] ([0, 7] : List Int).length = (7 : Int) by decide +kernel)).mono ?_
          rintro e w22 ⟨rfl, x22⟩
          have e22_ : Ext w w22 := Ext.trans e21_ x22
          go_wp2_with fail
          refine (cat_calls (show Cur ⟨#[48, 49, 48, 49]⟩ (cs24) (0) false _ from ⟨(b18_0.out.ext (x20.trans (x21.trans x22))), (b18_1.out.ext (x20.trans (x21.trans x22))), (b18_2.out.ext (x20.trans (x21.trans x22))), (k18.out.gr (x20.gr.trans (x21.gr.trans x22.gr)))⟩)).mono ?_
          rintro e w23 ⟨rfl, x23⟩
          have e23_ : Ext w w23 := Ext.trans e22_ x23
          go_wp2_with fail
          refine (cover_calls (show Cur ⟨#[48, 49, 48, 49]⟩ (cs24) (0) false _ from ⟨(b18_0.out.ext (x20.trans (x21.trans (x22.trans x23)))), (b18_1.out.ext (x20.trans (x21.trans (x22.trans x23)))), (b18_2.out.ext (x20.trans (x21.trans (x22.trans x23)))), (k18.out.gr (x20.gr.trans (x21.gr.trans (x22.gr.trans x23.gr))))⟩)).mono ?_
          rintro e w24 ⟨rfl, x24⟩
          have e24_ : Ext w w24 := Ext.trans e23_ x24
          go_wp2_with fail
          refine (flen0 (.inl rfl)).mono ?_
          rintro e w25 ⟨rfl, x25⟩
          have e25_ : Ext w w25 := Ext.trans e24_ x25
          go_wp2_with fail
          refine (flen0 (.inr ⟨_, rfl, (b15_0.out.ext (x13.trans (x14.trans (x15.trans (y16.trans (x17.trans (y18.trans (x19.trans (x20.trans (x21.trans (x22.trans (x23.trans (x24.trans x25)))))))))))))⟩)).mono ?_
          rintro e w26 ⟨rfl, x26⟩
          have e26_ : Ext w w26 := Ext.trans e25_ x26
          go_wp2_with fail
          refine (fsum0 (.inl rfl)).mono ?_
          rintro e w27 ⟨rfl, x27⟩
          have e27_ : Ext w w27 := Ext.trans e26_ x27
          go_wp2_with fail
          refine (fsum0 (.inr ⟨_, rfl, (b15_0.out.ext (x13.trans (x14.trans (x15.trans (y16.trans (x17.trans (y18.trans (x19.trans (x20.trans (x21.trans (x22.trans (x23.trans (x24.trans (x25.trans (x26.trans x27)))))))))))))))⟩)).mono ?_
          rintro e w28 ⟨rfl, x28⟩
          have e28_ : Ext w w28 := Ext.trans e27_ x28
          go_wp2_with fail
          refine (fcost0 (.inl rfl)).mono ?_
          rintro e w29 ⟨sb34, sv34, su34, sm34, sd34, rfl, e34, o34, x29⟩
          have e29_ : Ext w w29 := Ext.trans e28_ x29
          obtain ⟨sp34, sl34, sc34, tp34, tl34, tc34, rfl, rfl⟩ := e34.slice
          go_wp2_with fail
          refine (rshow_is (e34.inR (k := 1) lenR_zero) (by decide) ⟨#[48]⟩ (showR_of (by decide +kernel) (by decide +kernel))).mono ?_
          rintro e w30 ⟨rfl, x30⟩
          have e30_ : Ext w w30 := Ext.trans e29_ x30
          go_wp2_with fail
          refine (fcost0 (.inr ⟨_, rfl, (b15_0.out.ext (x13.trans (x14.trans (x15.trans (y16.trans (x17.trans (y18.trans (x19.trans (x20.trans (x21.trans (x22.trans (x23.trans (x24.trans (x25.trans (x26.trans (x27.trans (x28.trans (x29.trans x30))))))))))))))))))⟩)).mono ?_
          rintro e w31 ⟨sb36, sv36, su36, sm36, sd36, rfl, e36, o36, x31⟩
          have e31_ : Ext w w31 := Ext.trans e30_ x31
          obtain ⟨sp36, sl36, sc36, tp36, tl36, tc36, rfl, rfl⟩ := e36.slice
          go_wp2_with fail
          refine (rshow_is (e36.inR (k := 1) lenR_zero) (by decide) ⟨#[48]⟩ (showR_of (by decide +kernel) (by decide +kernel))).mono ?_
          rintro e w32 ⟨rfl, x32⟩
          have e32_ : Ext w w32 := Ext.trans e31_ x32
          go_wp2_with fail
          go_ret
          exact ⟨rfl, e32_⟩

end Go.Proofs.YtefeglkbikcjeaaDoor
