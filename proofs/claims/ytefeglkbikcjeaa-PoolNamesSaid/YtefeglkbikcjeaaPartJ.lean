/- Facts and contracts, joined: PermPlain, Sort, PoolPlain, PoolEvenPlain, Pool1, Pool2, Pool3, Pool4, PoolKit, Awake13. -/
import Derived.Shelf.Sort.Plain
import Derived.Shelf.Slices.In.SortNone
import Derived.Shelf.Slices.Clone
import Derived.Shelf.Slices.Turned
import Derived.Shelf.Slices.Equal
import Derived.Sort.OwnSortedInts
import Derived.Test.YtefeglkbikcjeaaInts2
import Derived.Laws.CopyOwn
import Derived.Deep.RegionWith

/- Rows, the draws that shuffle them: plain facts. -/
namespace Go.Proofs.Ytefeglkbikcjeaa

/-- two places exchanged -/
def swapL (l : List Int) (i j : Nat) : List Int := (l.set i (l.getD j 0)).set j (l.getD i 0)
theorem swapL_length (l : List Int) (i j : Nat) : (swapL l i j).length = l.length := by simp [swapL]
theorem getD_in {l : List Int} {k : Nat} (h : k < l.length) : l.getD k 0 = l[k] := by simp [List.getD, h]
theorem getD_set (l : List Int) (i k : Nat) (a : Int) : (l.set i a).getD k 0 = if i = k ∧ k < l.length then a else l.getD k 0 := by
  by_cases hk : k < l.length
  · rw [getD_in (by simpa using hk), List.getElem_set, getD_in hk]
    by_cases e : i = k
    · rw [if_pos e, if_pos ⟨e, hk⟩]
    · rw [if_neg e, if_neg (fun h => e h.1)]
  · rw [if_neg (fun h => hk h.2)]
    simp [List.getD, Nat.not_lt.1 hk]
theorem swapL_get {l : List Int} {i j : Nat} (hi : i < l.length) (hj : j < l.length) (k : Nat) : (swapL l i j).getD k 0 = if k = j then l.getD i 0 else if k = i then l.getD j 0 else l.getD k 0 := by
  unfold swapL
  rw [getD_set, getD_set]
  by_cases h1 : k = j
  · rw [if_pos ⟨h1.symm, by simpa [h1] using hj⟩, if_pos h1]
  · rw [if_neg (fun h => h1 h.1.symm), if_neg h1]
    by_cases h2 : k = i
    · rw [if_pos ⟨h2.symm, by rw [h2]; exact hi⟩, if_pos h2]
    · rw [if_neg (fun h => h2 h.1.symm), if_neg h2]
theorem ext_getD {l m : List Int} (h : l.length = m.length) (k : ∀ i, i < l.length → l.getD i 0 = m.getD i 0) : l = m := by
  refine List.ext_getElem h fun i h1 h2 => ?_
  have := k i h1
  rwa [getD_in h1, getD_in h2] at this
theorem swapL_perm {l : List Int} {i j : Nat} (hi : i < l.length) (hj : j < l.length) : (swapL l i j).Perm l := by
  refine List.perm_iff_count.2 fun x => ?_
  unfold swapL
  rw [List.count_set (by simpa using hj), List.count_set hi]
  have e : (l.set i (l.getD j 0))[j]'(by simpa using hj) = l[j] := by
    rw [List.getElem_set]
    split
    · rw [getD_in hj]
    · rfl
  rw [e, getD_in hj, getD_in hi]
  have c1 : (if l[i] == x then 1 else 0) ≤ l.count x := by
    split
    · rename_i h; have h := eq_of_beq h
      exact List.count_pos_iff.2 (h ▸ List.getElem_mem hi)
    · omega
  by_cases h1 : l[i] == x <;> by_cases h2 : l[j] == x <;> simp only [h1, h2, if_true, if_false, Bool.false_eq_true] at c1 ⊢ <;> omega

/-- the things in their row -/
def things (n : Nat) : List Int := (List.range n).map fun i : Nat => (i : Int)
theorem things_length (n : Nat) : (things n).length = n := by simp [things]
theorem things_get {n i : Nat} (h : i < n) : (things n).getD i 0 = (i : Int) := by simp [things, List.getD, h]
theorem things_succ (n : Nat) : things (n + 1) = things n ++ [(n : Int)] := by simp [things, List.range_succ]
theorem things_nodup (n : Nat) : (things n).Nodup := by
  unfold things
  refine List.Pairwise.map _ (fun a b h => ?_) (List.nodup_range (n := n))
  intro e; exact h (Int.ofNat.inj e)
theorem things_sorted (n : Nat) : (things n).Pairwise (· ≤ ·) := by
  unfold things
  refine List.Pairwise.map _ (fun a b h => ?_) (List.pairwise_lt_range (n := n))
  exact Int.ofNat_le.2 (Nat.le_of_lt h)
theorem mem_things {n : Nat} {x : Int} : x ∈ things n ↔ 0 ≤ x ∧ x < n := by
  unfold things
  simp only [List.mem_map, List.mem_range]
  constructor
  · rintro ⟨a, h, rfl⟩; omega
  · rintro ⟨h1, h2⟩; exact ⟨x.toNat, by omega, by omega⟩

/-- the row that draws shuffle -/
def rowF : List Nat → List Int → List Int
  | [], l => l
  | d :: ds, l => rowF ds (swapL l (ds.length + 1) d)
/-- each draw is one -/
def okD : List Nat → Prop
  | [] => True
  | d :: ds => d ≤ ds.length + 1 ∧ okD ds
theorem rowF_length : ∀ (ds : List Nat) (l : List Int), (rowF ds l).length = l.length
  | [], _ => rfl
  | d :: ds, l => by rw [rowF, rowF_length ds, swapL_length]
theorem rowF_perm : ∀ (ds : List Nat) (l : List Int), okD ds → ds.length < l.length → (rowF ds l).Perm l
  | [], l, _, _ => List.Perm.refl _
  | d :: ds, l, h, hl => by
    simp only [List.length_cons] at hl
    exact (rowF_perm ds _ h.2 (by rw [swapL_length]; omega)).trans (swapL_perm (by omega) (by have := h.1; omega))
theorem rowF_above : ∀ (ds : List Nat) (l : List Int), okD ds → ds.length < l.length → ∀ k, ds.length < k → (rowF ds l).getD k 0 = l.getD k 0
  | [], l, _, _, _, _ => rfl
  | d :: ds, l, h, hl, k, hk => by
    simp only [List.length_cons] at hl hk
    have h1 := h.1
    rw [rowF, rowF_above ds _ h.2 (by rw [swapL_length]; omega) k (by omega), swapL_get (by omega) (by omega), if_neg (by omega), if_neg (by omega)]
theorem rowF_last (d : Nat) (ds : List Nat) (l : List Int) (h : okD (d :: ds)) (hl : ds.length + 1 < l.length) : (rowF (d :: ds) l).getD (ds.length + 1) 0 = l.getD d 0 := by
  have h1 := h.1
  rw [rowF, rowF_above ds _ h.2 (by rw [swapL_length]; omega) _ (by omega), swapL_get (by omega) (by omega)]
  split
  · rename_i e; rw [e]
  · rw [if_pos rfl]
/-- the first k draws done -/
def rowTo (D : List Nat) : Nat → List Int → List Int
  | 0, l => l
  | k + 1, l => swapL (rowTo D k l) (D.length - k) (D.getD k 0)
theorem rowTo_cons (d : Nat) (ds : List Nat) (l : List Int) : ∀ k, rowTo (d :: ds) (k + 1) l = rowTo ds k (swapL l (ds.length + 1) d)
  | 0 => rfl
  | k + 1 => by
    rw [rowTo, rowTo_cons d ds l k, rowTo]
    simp
theorem rowTo_all : ∀ (D : List Nat) (l : List Int), rowTo D D.length l = rowF D l
  | [], _ => rfl
  | d :: ds, l => by rw [List.length_cons, rowTo_cons, rowTo_all ds, rowF]
theorem rowTo_length (D : List Nat) (l : List Int) : ∀ k, (rowTo D k l).length = l.length
  | 0 => rfl
  | k + 1 => by rw [rowTo, swapL_length, rowTo_length D l k]

/-- the place of a thing -/
def posL (l : List Int) (x : Int) : Nat := l.findIdx (· == x)
theorem posL_get {l : List Int} (hn : l.Nodup) {i : Nat} (h : i < l.length) : posL l (l.getD i 0) = i := by
  unfold posL
  rw [List.findIdx_eq h, getD_in h]
  refine ⟨by simp, fun j hj => ?_⟩
  rw [beq_eq_false_iff_ne]
  exact (List.pairwise_iff_getElem.1 hn j i (by omega) h hj)
theorem posL_mem {l : List Int} {x : Int} (h : x ∈ l) : posL l x < l.length ∧ l.getD (posL l x) 0 = x := by
  have h1 : posL l x < l.length := List.findIdx_lt_length.2 ⟨x, h, by simp⟩
  refine ⟨h1, ?_⟩
  rw [getD_in h1]
  have := List.findIdx_getElem (w := h1)
  exact eq_of_beq this

/-- the draws by which a row comes, from the place i down -/
def drawsF (R : List Int) : Nat → List Int → List Nat
  | 0, _ => []
  | i + 1, now => posL now (R.getD (i + 1) 0) :: drawsF R i (swapL now (i + 1) (posL now (R.getD (i + 1) 0)))
theorem drawsF_length (R : List Int) : ∀ (i : Nat) (now : List Int), (drawsF R i now).length = i
  | 0, _ => rfl
  | i + 1, now => by simp only [drawsF, List.length_cons]; rw [drawsF_length R i]
/-- draws, told from their row -/
theorem drawsF_row : ∀ (ds : List Nat) (l : List Int), okD ds → ds.length < l.length → l.Nodup → drawsF (rowF ds l) ds.length l = ds
  | [], _, _, _, _ => rfl
  | d :: ds, l, h, hl, hn => by
    simp only [List.length_cons] at hl
    have h1 := h.1
    have e : (rowF (d :: ds) l).getD (ds.length + 1) 0 = l.getD d 0 := rowF_last d ds l h (by omega)
    show posL l ((rowF (d :: ds) l).getD (ds.length + 1) 0) :: drawsF (rowF (d :: ds) l) ds.length (swapL l (ds.length + 1) (posL l ((rowF (d :: ds) l).getD (ds.length + 1) 0))) = _
    rw [e, posL_get hn (by omega)]
    congr 1
    exact drawsF_row ds _ h.2 (by rw [swapL_length]; omega) ((swapL_perm (by omega) (by omega)).nodup_iff.2 hn)
theorem row_back (R : List Int) : ∀ (i : Nat) (now : List Int), R.Perm now → now.Nodup → i < now.length → (∀ k, i < k → k < now.length → R.getD k 0 = now.getD k 0) → okD (drawsF R i now) ∧ rowF (drawsF R i now) now = R
  | 0, now, hp, hn, hl, ha => by
    refine ⟨trivial, ?_⟩
    show now = R
    have hlen := hp.length_eq
    have hx : R.getD 0 0 ∈ now := hp.mem_iff.1 (by rw [getD_in (by omega)]; exact List.getElem_mem _)
    obtain ⟨p1, p2⟩ := posL_mem hx
    refine (ext_getD hlen fun i hi => ?_).symm
    rcases Nat.eq_zero_or_pos i with h0 | h0
    · subst h0
      rcases Nat.eq_zero_or_pos (posL now (R.getD 0 0)) with h | h
      · rw [← p2, h]
      · have h3 := ha _ h p1
        rw [p2] at h3
        have hR : R.Nodup := hp.nodup_iff.2 hn
        have q1 := posL_get hR (i := posL now (R.getD 0 0)) (by omega)
        have q2 := posL_get hR (i := 0) (by omega)
        rw [h3, q2] at q1
        omega
    · exact ha i h0 (by omega)
  | i + 1, now, hp, hn, hl, ha => by
    have hlen := hp.length_eq
    have hx : R.getD (i + 1) 0 ∈ now := hp.mem_iff.1 (by rw [getD_in (by omega)]; exact List.getElem_mem _)
    obtain ⟨p1, p2⟩ := posL_mem hx
    obtain ⟨j, hj⟩ : ∃ j, posL now (R.getD (i + 1) 0) = j := ⟨_, rfl⟩
    rw [hj] at p1 p2
    have hji : j ≤ i + 1 := by
      rcases Nat.lt_or_ge (i + 1) j with h | h
      · have h3 := ha j h p1
        rw [p2] at h3
        have hR : R.Nodup := hp.nodup_iff.2 hn
        have q1 := posL_get hR (i := j) (by omega)
        have q2 := posL_get hR (i := i + 1) (by omega)
        rw [h3, q2] at q1
        omega
      · exact h
    have hsp := swapL_perm (l := now) (i := i + 1) (j := j) hl p1
    have ih := row_back R i (swapL now (i + 1) j) (hp.trans hsp.symm) (hsp.nodup_iff.2 hn) (by rw [swapL_length]; omega) (fun k hk hkl => by
      rw [swapL_length] at hkl
      rw [swapL_get hl p1]
      split
      · rename_i e
        have : j = i + 1 := by omega
        rw [e, this]; rw [← this, p2, this]
      · split
        · rename_i e; rw [e, p2]
        · exact ha k (by omega) hkl)
    show okD (posL now (R.getD (i + 1) 0) :: drawsF R i (swapL now (i + 1) (posL now (R.getD (i + 1) 0)))) ∧ _
    rw [show rowF (drawsF R (i + 1) now) now = rowF (drawsF R i (swapL now (i + 1) (posL now (R.getD (i + 1) 0)))) (swapL now ((drawsF R i (swapL now (i + 1) (posL now (R.getD (i + 1) 0)))).length + 1) (posL now (R.getD (i + 1) 0))) from rfl]
    rw [drawsF_length, hj]
    exact ⟨⟨by rw [drawsF_length]; exact hji, ih.1⟩, ih.2⟩
end Go.Proofs.Ytefeglkbikcjeaa

/- slices.Sort, Clone, Equal, Index at []int: the shelf's contracts laid at this program (by the kit's tool lay-plain, its numbers by name), and what they say of rows. -/
namespace Go.Proofs
open Go.Shelf
def Try.lays189_ren : Go.Shelf.Ren := ⟨fun | 189 => 18 | 125 => 31 | 257 => 30 | 128 => 58 | 129 => 59 | 294 => 49 | 295 => 50 | 296 => 51 | 297 => 52 | 298 => 53 | 299 => 54 | 216 => 55 | 300 => 56 | 301 => 57 | 328 => 76 | 329 => 77 | 330 => 78 | 331 => 79 | 332 => 80 | 215 => 81 | 343 => 94 | n => n, fun | 28 => 24 | 3 => 3 | 46 => 71 | 0 => 0 | 51 => 96 | 53 => 49 | 4 => 4 | 183 => 89 | 182 => 88 | 131 => 93 | 5 => 5 | 9 => 9 | 218 => 117 | 222 => 121 | 228 => 127 | 229 => 128 | n => n, fun | n => n⟩
theorem Try.lays189 : Go.Proofs.Lays.n189 Try.prog Try.lays189_ren := {
  mixed := by kernel_rfl
  f125 := Try.func31.trans (congrArg some (by kernel_rfl))
  f128 := Try.func58.trans (congrArg some (by kernel_rfl))
  f129 := Try.func59.trans (congrArg some (by kernel_rfl))
  f189 := Try.func18.trans (congrArg some (by kernel_rfl))
  f215 := Try.func81.trans (congrArg some (by kernel_rfl))
  f216 := Try.func55.trans (congrArg some (by kernel_rfl))
  f257 := Try.func30.trans (congrArg some (by kernel_rfl))
  f294 := Try.func49.trans (congrArg some (by kernel_rfl))
  f295 := Try.func50.trans (congrArg some (by kernel_rfl))
  f296 := Try.func51.trans (congrArg some (by kernel_rfl))
  f297 := Try.func52.trans (congrArg some (by kernel_rfl))
  f298 := Try.func53.trans (congrArg some (by kernel_rfl))
  f299 := Try.func54.trans (congrArg some (by kernel_rfl))
  f300 := Try.func56.trans (congrArg some (by kernel_rfl))
  f301 := Try.func57.trans (congrArg some (by kernel_rfl))
  f328 := Try.func76.trans (congrArg some (by kernel_rfl))
  f329 := Try.func77.trans (congrArg some (by kernel_rfl))
  f330 := Try.func78.trans (congrArg some (by kernel_rfl))
  f331 := Try.func79.trans (congrArg some (by kernel_rfl))
  f332 := Try.func80.trans (congrArg some (by kernel_rfl))
  f343 := Try.func94.trans (congrArg some (by kernel_rfl))
  t0 := Try.underlying0
  a0 := Try.isAgg0
  z0 := Try.sizeOf0
  v0 := Try.zeroValue0
  t3 := Try.underlying3
  a3 := Try.isAgg3
  z3 := Try.sizeOf3
  v3 := Try.zeroValue3
  t4 := Try.underlying4
  a4 := Try.isAgg4
  z4 := Try.sizeOf4
  v4 := Try.zeroValue4
  t5 := Try.underlying5
  a5 := Try.isAgg5
  z5 := Try.sizeOf5
  v5 := Try.zeroValue5
  t9 := Try.underlying9
  a9 := Try.isAgg9
  z9 := Try.sizeOf9
  v9 := Try.zeroValue9
  t28 := Try.underlying24
  a28 := Try.isAgg24
  z28 := Try.sizeOf24
  v28 := Try.zeroValue24
  t46 := Try.underlying71
  a46 := Try.isAgg71
  z46 := Try.sizeOf71
  v46 := Try.zeroValue71
  t51 := Try.underlying96
  a51 := Try.isAgg96
  z51 := Try.sizeOf96
  v51 := Try.zeroValue96
  t53 := Try.underlying49
  a53 := Try.isAgg49
  z53 := Try.sizeOf49
  v53 := Try.zeroValue49
  t131 := Try.underlying93
  a131 := Try.isAgg93
  z131 := Try.sizeOf93
  v131 := Try.zeroValue93
  t182 := Try.underlying88
  a182 := Try.isAgg88
  z182 := Try.sizeOf88
  v182 := Try.zeroValue88
  t183 := Try.underlying89
  a183 := Try.isAgg89
  z183 := Try.sizeOf89
  v183 := Try.zeroValue89
  t218 := Try.underlying117
  a218 := Try.isAgg117
  z218 := Try.sizeOf117
  v218 := Try.zeroValue117
  t222 := Try.underlying121
  a222 := Try.isAgg121
  z222 := Try.sizeOf121
  v222 := Try.zeroValue121
  t228 := Try.underlying127
  a228 := Try.isAgg127
  z228 := Try.sizeOf127
  v228 := Try.zeroValue127
  t229 := Try.underlying128
  a229 := Try.isAgg128
  z229 := Try.sizeOf128
  v229 := Try.zeroValue128 }
end Go.Proofs
namespace Go.Proofs.Ytefeglkbikcjeaa
open Go Go.RowKit Go.Shelf

theorem map_zv (L : List Int) : L.map zv = L.map (Value.int .i64) := rfl
/-- the numbers, sorted -/
def sortL (L : List Int) : List Int := L.mergeSort fun x y => decide (x ≤ y)
theorem sortL_perm (L : List Int) : (sortL L).Perm L := List.mergeSort_perm _ _
theorem sortL_length (L : List Int) : (sortL L).length = L.length := (sortL_perm L).length_eq

theorem sort_calls {w : World} {g cap : Nat} {L : List Int} (h : RowG 3 g cap L w) (hl : L.length ≤ 100000) :
    Calls Try.prog 18 #[.slice (some ⟨g, 0, none⟩) L.length cap] w fun e w' => e = .returned (.tuple #[]) ∧ RowG 3 g cap (sortL L) w' ∧ w.grownBy w' (some g) := by
  have hH : Go.Sort.Holds (Value.int .i64) w g 0 L.toArray := fun j hj => by
    have hj' : j < L.length := by simpa using hj
    refine ⟨?_, h.free _⟩
    have := h.cell hj'
    rw [Nat.zero_add, this]
    simp [List.getD, hj']
  refine (Any.slices_Sort_int Try.lays189 g 0 cap L w hH h.lt (by omega)).mono ?_
  rintro e w' ⟨he, n, os, rfl⟩
  refine ⟨he, ?_, grownBy_sortedI _⟩
  obtain ⟨h1, h2⟩ := h
  rcases h2 with ⟨h2, -⟩ | ⟨g', cap', cur, e2, hg, hh, h3, h4, h5, h6⟩
  · cases h2
  · injection e2 with e2 e3 e4
    injection e2 with e2
    injection e2 with e2
    subst e2 e4
    have := ownsRow_sortedI (w := w) (base := g) (n := n) (os := os) (ss := L) (ts := sortL L) (sortL_length L) (Nat.le_refl _) hh h3 h4 h5
    unfold RowG
    rw [sortL_length, map_zv]
    exact this
theorem sort_none (w : World) (p : Option Addr) (cap : Nat) :
    Calls Try.prog 18 #[.slice p 0 cap] w fun e w' => e = .returned (.tuple #[]) ∧ Ext w w' :=
  (Any.slices_Sort_int_none Try.lays189 p cap w).mono fun _ _ ⟨h1, h2⟩ => ⟨h1, by rw [h2]; exact Ext.refl _⟩

end Go.Proofs.Ytefeglkbikcjeaa

/- Pools: plain facts. -/
namespace Go.Proofs.Ytefeglkbikcjeaa
open Go Go.RowKit

/-- the sorted list is the only one -/
theorem sorted_only {L S : List Int} (h : L.Perm S) (hs : S.Pairwise (· ≤ ·)) : sortL L = S := by
  refine List.Perm.eq_of_pairwise (le := fun a b : Int => a ≤ b) (fun a b _ _ h1 h2 => Int.le_antisymm h1 h2) ?_ hs ((sortL_perm L).trans h)
  have := List.pairwise_mergeSort (le := fun x y : Int => decide (x ≤ y)) (fun a b c h1 h2 => by simp only [decide_eq_true_eq] at *; exact Int.le_trans h1 h2) (fun a b => by simp only [Bool.or_eq_true, decide_eq_true_eq]; exact Int.le_total a b) L
  exact this.imp fun h => by simpa using h
theorem sortL_le (L : List Int) : (sortL L).Pairwise (· ≤ ·) := by
  have := List.pairwise_mergeSort (le := fun x y : Int => decide (x ≤ y)) (fun a b c h1 h2 => by simp only [decide_eq_true_eq] at *; exact Int.le_trans h1 h2) (fun a b => by simp only [Bool.or_eq_true, decide_eq_true_eq]; exact Int.le_total a b) L
  exact this.imp fun h => by simpa using h

/-- the pool, the first m numbers read -/
def poolTo (k : Nat) (J : List Int) : Nat → List Int
  | 0 => things k
  | m + 1 => if J.getD m 0 < (k : Int) then (poolTo k J m).set (J.getD m 0).toNat ((k + m : Nat) : Int) else poolTo k J m
theorem poolTo_length (k : Nat) (J : List Int) : ∀ m, (poolTo k J m).length = k
  | 0 => things_length k
  | m + 1 => by
    rw [poolTo]
    split
    · rw [List.length_set, poolTo_length k J m]
    · exact poolTo_length k J m
theorem poolTo_in (k : Nat) (J : List Int) : ∀ m i, i < k → 0 ≤ (poolTo k J m).getD i 0 ∧ (poolTo k J m).getD i 0 < ((k + m : Nat) : Int)
  | 0, i, h => by rw [poolTo, things_get h]; omega
  | m + 1, i, h => by
    have ih := poolTo_in k J m i h
    rw [poolTo]
    split
    · rw [getD_set]
      split
      · omega
      · omega
    · omega
theorem poolTo_apart (k : Nat) (J : List Int) : ∀ m i j, i < k → j < k → (poolTo k J m).getD i 0 = (poolTo k J m).getD j 0 → i = j
  | 0, i, j, hi, hj, h => by rw [poolTo, things_get hi, things_get hj] at h; omega
  | m + 1, i, j, hi, hj, h => by
    have ih := poolTo_apart k J m i j hi hj
    have bi := poolTo_in k J m i hi
    have bj := poolTo_in k J m j hj
    rw [poolTo] at h
    split at h
    · rw [getD_set, getD_set] at h
      split at h <;> split at h
      · rename_i h1 h2; omega
      · omega
      · omega
      · exact ih h
    · exact ih h
theorem nodup_of {L : List Int} (h : ∀ i j, i < L.length → j < L.length → L.getD i 0 = L.getD j 0 → i = j) : L.Nodup := by
  refine List.pairwise_iff_getElem.2 fun i j hi hj hlt e => ?_
  have := h i j hi hj (by rw [getD_in hi, getD_in hj]; exact e)
  omega
theorem poolTo_nodup (k : Nat) (J : List Int) (m : Nat) : (poolTo k J m).Nodup :=
  nodup_of fun i j hi hj => by rw [poolTo_length] at hi hj; exact poolTo_apart k J m i j hi hj
theorem poolTo_mem {k : Nat} {J : List Int} {m : Nat} {x : Int} (h : x ∈ poolTo k J m) : 0 ≤ x ∧ x < ((k + m : Nat) : Int) := by
  obtain ⟨i, hi, rfl⟩ := List.getElem_of_mem h
  have := poolTo_in k J m i (by rw [poolTo_length] at hi; exact hi)
  rwa [getD_in hi] at this
theorem poolTo_none (k : Nat) (J : List Int) : ∀ m, (∀ i, i < m → (k : Int) ≤ J.getD i 0) → poolTo k J m = things k
  | 0, _ => rfl
  | m + 1, h => by rw [poolTo, if_neg (by have := h m (by omega); omega)]; exact poolTo_none k J m fun i hi => h i (by omega)
theorem poolTo_pre (k : Nat) (J K : List Int) : ∀ m, m ≤ J.length → poolTo k (J ++ K) m = poolTo k J m
  | 0, _ => rfl
  | m + 1, h => by
    have e : (J ++ K).getD m 0 = J.getD m 0 := by simp [List.getD, List.getElem?_append, show m < J.length by omega]
    rw [poolTo, poolTo, e, poolTo_pre k J K m (by omega)]

/-- are k, and n, in their ranges -/
def mayP (k n : Int) : Prop := (0 ≤ n ∧ n ≤ 64) ∧ 0 ≤ k ∧ k ≤ n
instance (k n : Int) : Decidable (mayP k n) := by unfold mayP; infer_instance
/-- the numbers are below k + 1, k + 2, .. -/
def okJ (k : Nat) : List Int → Prop
  | [] => True
  | j :: J => (0 ≤ j ∧ j ≤ (k : Int)) ∧ okJ (k + 1) J
instance okJ_dec : (k : Nat) → (J : List Int) → Decidable (okJ k J)
  | _, [] => .isTrue trivial
  | k, _ :: J => have := okJ_dec (k + 1) J; by unfold okJ; infer_instance
theorem okJ.get : ∀ {k : Nat} {J : List Int}, okJ k J → ∀ {m : Nat}, m < J.length → 0 ≤ J.getD m 0 ∧ J.getD m 0 ≤ ((k + m : Nat) : Int)
  | k, d :: ds, h, 0, _ => by simpa using h.1
  | k, d :: ds, h, m + 1, hm => by
    have := h.2.get (m := m) (by simpa using hm)
    have e : (d :: ds).getD (m + 1) 0 = ds.getD m 0 := by simp
    rw [e]; omega
theorem okJ_of : ∀ {k : Nat} {J : List Int}, (∀ m, m < J.length → 0 ≤ J.getD m 0 ∧ J.getD m 0 ≤ ((k + m : Nat) : Int)) → okJ k J
  | _, [], _ => trivial
  | k, d :: ds, h => ⟨by simpa using h 0 (by simp), okJ_of fun m hm => by
      have := h (m + 1) (by simpa using hm)
      have e : (d :: ds).getD (m + 1) 0 = ds.getD m 0 := by simp
      rw [e] at this; omega⟩
/-- why there is no pool -/
def errPool (k n : Int) (J : List Int) : Nat :=
  if mayP k n then (if (J.length : Int) < n - k then 4 else if n - k < (J.length : Int) then 5 else if okJ k.toNat J then 0 else 1) else 1
theorem errPool_ok {k n : Int} {J : List Int} (h : errPool k n J = 0) : mayP k n ∧ (J.length : Int) = n - k ∧ okJ k.toNat J := by
  unfold errPool at h
  split at h
  · rename_i hm
    split at h
    · cases h
    · split at h
      · cases h
      · split at h
        · rename_i g; exact ⟨hm, by omega, g⟩
        · cases h
  · cases h
theorem errPool_of {k n : Int} {J : List Int} (h1 : mayP k n) (h2 : (J.length : Int) = n - k) (h3 : okJ k.toNat J) : errPool k n J = 0 := by
  unfold errPool
  rw [if_pos h1, if_neg (by omega), if_neg (by omega), if_pos h3]
/-- the pool by numbers -/
def poolF (k : Nat) (J : List Int) : List Int := sortL (poolTo k J J.length)
theorem poolF_length (k : Nat) (J : List Int) : (poolF k J).length = k := by unfold poolF; rw [sortL_length, poolTo_length]
theorem poolF_perm (k : Nat) (J : List Int) : (poolF k J).Perm (poolTo k J J.length) := sortL_perm _
theorem poolF_nodup (k : Nat) (J : List Int) : (poolF k J).Nodup := (poolF_perm k J).nodup_iff.2 (poolTo_nodup k J _)
theorem poolF_lt (k : Nat) (J : List Int) : (poolF k J).Pairwise (· < ·) := by
  have h1 := sortL_le (poolTo k J J.length)
  have h2 := poolF_nodup k J
  refine List.pairwise_iff_getElem.2 fun i j hi hj hlt => ?_
  have a := List.pairwise_iff_getElem.1 h1 i j hi hj hlt
  have b := List.pairwise_iff_getElem.1 h2 i j hi hj hlt
  have a' : (poolF k J)[i] ≤ (poolF k J)[j] := a
  omega
theorem poolF_in (k : Nat) (J : List Int) {i : Nat} (h : i < k) : 0 ≤ (poolF k J).getD i 0 ∧ (poolF k J).getD i 0 < ((k + J.length : Nat) : Int) := by
  have hl : i < (poolF k J).length := by rw [poolF_length]; exact h
  rw [getD_in hl]
  exact poolTo_mem ((poolF_perm k J).mem_iff.1 (List.getElem_mem hl))
theorem poolF_up (k : Nat) (J : List Int) {i : Nat} (h : i + 1 < k) : (poolF k J).getD i 0 < (poolF k J).getD (i + 1) 0 := by
  have hl : i + 1 < (poolF k J).length := by rw [poolF_length]; exact h
  rw [getD_in hl, getD_in (by omega)]
  exact List.pairwise_iff_getElem.1 (poolF_lt k J) i (i + 1) (by omega) hl (by omega)
theorem poolF_full (k : Nat) : poolF k [] = things k := by
  unfold poolF
  exact sorted_only (List.Perm.refl _) (things_sorted k)

/-- numbers below 64, each once, rising -/
def risen (L : List Int) (i : Nat) : List Int := (things i).filter fun x => decide (x ∈ L)
theorem risen_succ (L : List Int) (i : Nat) : risen L (i + 1) = risen L i ++ (if (i : Int) ∈ L then [(i : Int)] else []) := by
  unfold risen
  rw [things_succ, List.filter_append]
  congr 1
  by_cases h : (i : Int) ∈ L <;> simp [h]
theorem risen_eq {L : List Int} {n : Nat} (hn : L.Nodup) (hl : ∀ x ∈ L, 0 ≤ x ∧ x < (n : Int)) : risen L n = sortL L := by
  symm
  refine sorted_only ?_ ((things_sorted n).filter _)
  refine (List.perm_ext_iff_of_nodup hn ((things_nodup n).filter _)).2 fun x => ?_
  simp only [List.mem_filter, mem_things, decide_eq_true_eq]
  exact ⟨fun h => ⟨hl x h, h⟩, fun h => h.2⟩

/-- one number more: it is not below k -/
theorem more_stay {k : Nat} {J : List Int} {x : Int} (h : (k : Int) ≤ x) : poolF k (J ++ [x]) = poolF k J := by
  unfold poolF
  have e : (J ++ [x]).getD J.length 0 = x := by simp [List.getD]
  rw [show (J ++ [x]).length = J.length + 1 by simp, poolTo, e, if_neg (by omega), poolTo_pre k J [x] _ (Nat.le_refl _)]
/-- one number more, below k: the last one, and all but one are there -/
theorem more_turn {k : Nat} {J : List Int} {x : Nat} (h : x < k) : poolF k (J ++ [(x : Int)]) = sortL ((poolTo k J J.length).set x ((k + J.length : Nat) : Int)) := by
  unfold poolF
  have e : (J ++ [(x : Int)]).getD J.length 0 = x := by simp [List.getD]
  rw [show (J ++ [(x : Int)]).length = J.length + 1 by simp, poolTo, e, if_pos (by omega), poolTo_pre k J _ _ (Nat.le_refl _)]
  simp
theorem more_mem {k : Nat} {J : List Int} {x : Nat} (h : x < k) {y : Int} : y ∈ poolF k (J ++ [(x : Int)]) ↔ y = ((k + J.length : Nat) : Int) ∨ (y ∈ poolF k J ∧ y ≠ (poolTo k J J.length).getD x 0) := by
  rw [more_turn h, (sortL_perm _).mem_iff, (poolF_perm k J).mem_iff]
  obtain ⟨L, hL⟩ : ∃ L, poolTo k J J.length = L := ⟨_, rfl⟩
  have hl := poolTo_length k J J.length
  have hap := poolTo_apart k J J.length
  rw [hL] at hl hap ⊢
  constructor
  · intro hy
    obtain ⟨i, hi, rfl⟩ := List.getElem_of_mem hy
    rw [List.length_set] at hi
    rw [List.getElem_set]
    split
    · exact .inl rfl
    · rename_i hne
      refine .inr ⟨List.getElem_mem _, fun e => hne ?_⟩
      rw [← getD_in hi] at e
      exact hap x i h (by omega) e.symm
  · rintro (rfl | ⟨hy, hne⟩)
    · exact List.mem_iff_getElem.2 ⟨x, by rw [List.length_set, hl]; exact h, by rw [List.getElem_set, if_pos rfl]⟩
    · obtain ⟨i, hi, rfl⟩ := List.getElem_of_mem hy
      refine List.mem_iff_getElem.2 ⟨i, by rw [List.length_set]; exact hi, ?_⟩
      rw [List.getElem_set, if_neg]
      rintro rfl
      exact hne (by rw [getD_in hi])
theorem more_last {k : Nat} {J : List Int} {x : Nat} (h : x < k) : (poolF k (J ++ [(x : Int)])).getD (k - 1) 0 = ((k + J.length : Nat) : Int) := by
  obtain ⟨i, hi, e⟩ := List.getElem_of_mem ((more_mem (J := J) (y := ((k + J.length : Nat) : Int)) h).2 (.inl rfl))
  have hl := poolF_length k (J ++ [(x : Int)])
  have h1 : k - 1 < (poolF k (J ++ [(x : Int)])).length := by omega
  have h2 : ∀ y ∈ poolF k (J ++ [(x : Int)]), y ≤ ((k + J.length : Nat) : Int) := fun y hy => by
    rcases (more_mem h).1 hy with e | ⟨e, -⟩
    · omega
    · have := poolTo_mem ((poolF_perm k J).mem_iff.1 e); omega
  rw [getD_in h1]
  have h3 := h2 _ (List.getElem_mem h1)
  rcases Nat.lt_or_ge i (k - 1) with hc | hc
  · have := List.pairwise_iff_getElem.1 (poolF_lt k (J ++ [(x : Int)])) i (k - 1) hi h1 hc
    omega
  · obtain rfl : i = k - 1 := by omega
    exact e
/-- the one that is gone -/
theorem more_gone {k : Nat} {J : List Int} {x : Nat} (h : x < k) : ∃ p, p < k ∧ ∀ i, i < k → ((poolF k J).getD i 0 ∈ poolF k (J ++ [(x : Int)]) ↔ i ≠ p) := by
  have hl := poolTo_length k J J.length
  have hm : (poolTo k J J.length).getD x 0 ∈ poolF k J := (poolF_perm k J).mem_iff.2 (by rw [getD_in (by omega)]; exact List.getElem_mem _)
  obtain ⟨p, hp, e⟩ := List.getElem_of_mem hm
  have hlF := poolF_length k J
  refine ⟨p, by omega, fun i hi => ?_⟩
  rw [more_mem h]
  have hiF : i < (poolF k J).length := by omega
  rw [getD_in hiF]
  have hin := poolF_in k J hi
  rw [getD_in hiF] at hin
  constructor
  · rintro (h1 | ⟨-, h1⟩)
    · omega
    · rintro rfl; exact h1 e
  · intro hne
    refine .inr ⟨List.getElem_mem _, fun e2 => hne ?_⟩
    rw [← e] at e2
    rcases Nat.lt_trichotomy i p with hlt | rfl | hlt
    · have := List.pairwise_iff_getElem.1 (poolF_lt k J) i p hiF hp hlt; omega
    · rfl
    · have := List.pairwise_iff_getElem.1 (poolF_lt k J) p i hp hiF hlt; omega

/-- choices -/
def bin : Nat → Nat → Nat
  | _, 0 => 1
  | 0, _ + 1 => 0
  | n + 1, k + 1 => bin n k + bin n (k + 1)
theorem bin_zero (n : Nat) : bin n 0 = 1 := by cases n <;> rfl
theorem bin_over : ∀ {n k : Nat}, n < k → bin n k = 0
  | 0, k + 1, _ => rfl
  | n + 1, k + 1, h => by rw [bin, bin_over (by omega), bin_over (by omega)]
theorem bin_self : ∀ n, bin n n = 1
  | 0 => rfl
  | n + 1 => by rw [bin, bin_self n, bin_over (by omega)]
theorem bin_sym : ∀ {n k : Nat}, k ≤ n → bin n (n - k) = bin n k
  | n, 0, _ => by rw [Nat.sub_zero, bin_self, bin_zero]
  | n + 1, k + 1, h => by
    rcases Nat.lt_or_ge k n with hlt | hge
    · have e : n + 1 - (k + 1) = (n - (k + 1)) + 1 := by omega
      rw [e, bin, bin, bin_sym (show k + 1 ≤ n by omega), show n - (k + 1) + 1 = n - k by omega, bin_sym (show k ≤ n by omega)]
      omega
    · obtain rfl : k = n := by omega
      rw [Nat.sub_self, bin_zero, bin_self]
/-- the sum of the first ones of a row -/
def binS (n : Nat) : Nat → Nat
  | 0 => 0
  | i + 1 => binS n i + bin n i
theorem binS_succ (n : Nat) : ∀ i, binS (n + 1) (i + 1) = binS n (i + 1) + binS n i
  | 0 => by simp [binS, bin_zero]
  | i + 1 => by
    rw [binS, binS_succ n i, binS, bin]
    simp only [binS]
    omega
theorem binS_all : ∀ n, binS n (n + 1) = 2 ^ n
  | 0 => by simp [binS, bin]
  | n + 1 => by
    rw [binS_succ, binS, binS_all n, bin_over (by omega), Nat.pow_succ]
    omega
theorem bin_le (n : Nat) : ∀ k, bin n k ≤ 2 ^ n
  | 0 => by rw [bin_zero]; exact Nat.one_le_two_pow
  | k + 1 => by
    induction n generalizing k with
    | zero => simp [bin]
    | succ n ih =>
      rw [bin, Nat.pow_succ]
      have h1 := ih k
      have h2 : bin n k ≤ 2 ^ n := by
        cases k with
        | zero => rw [bin_zero]; exact Nat.one_le_two_pow
        | succ k => exact ih k
      omega

/-- numbers below k + 1, k + 2, .., drawn one behind the other -/
def upB (l : List UInt8) : Nat → Nat → Nat → Option (List Nat) × Nat
  | 0, _, a => (some [], a)
  | c + 1, k, a => match drawF l (k + 1) a with
    | (none, b) => (none, b)
    | (some v, b) => match upB l c (k + 1) b with
      | (none, d) => (none, d)
      | (some vs, d) => (some (v :: vs), d)
/-- what stands ahead -/
def preU (out : List Nat) : Option (List Nat) × Nat → Option (List Nat) × Nat
  | (none, b) => (none, b)
  | (some vs, b) => (some (out ++ vs), b)
theorem preU_nil (p : Option (List Nat) × Nat) : preU [] p = p := by rcases p with ⟨_ | _, _⟩ <;> rfl
theorem preU_app (a b : List Nat) (p : Option (List Nat) × Nat) : preU a (preU b p) = preU (a ++ b) p := by
  rcases p with ⟨_ | _, _⟩
  · rfl
  · simp [preU]
theorem upB_yes {l : List UInt8} {c k a x b : Nat} (h : DrawIs l (k + 1) a x true b) : upB l (c + 1) k a = preU [x] (upB l c (k + 1) b) := by
  obtain ⟨h1, h2, h3⟩ := h
  rw [upB]
  rcases hd : drawF l (k + 1) a with ⟨_ | v, c'⟩
  · rw [hd] at h2; cases h2
  · rw [hd] at h1 h3
    obtain rfl : v = x := h1
    obtain rfl : c' = b := h3
    rcases hq : upB l c (k + 1) c' with ⟨_ | vs, q⟩
    · simp [preU, hq]
    · simp [preU, hq]
theorem upB_no {l : List UInt8} {c k a x b : Nat} (h : DrawIs l (k + 1) a x false b) : upB l (c + 1) k a = (none, b) := by
  obtain ⟨h1, h2, h3⟩ := h
  rw [upB]
  rcases hd : drawF l (k + 1) a with ⟨_ | v, c'⟩
  · rw [hd] at h3; obtain rfl : c' = b := h3; rfl
  · rw [hd] at h2; cases h2
/-- numbers, as whole ones -/
def intsU (D : List Nat) : List Int := D.map fun d : Nat => (d : Int)
theorem intsU_length (D : List Nat) : (intsU D).length = D.length := by simp [intsU]
theorem intsU_get {D : List Nat} {i : Nat} : (intsU D).getD i 0 = ((D.getD i 0 : Nat) : Int) := by
  simp only [intsU, List.getD, List.getElem?_map]
  cases D[i]? <;> rfl
theorem upB_ok {l : List UInt8} : ∀ (c k a : Nat) {vs : List Nat} {b : Nat}, upB l c k a = (some vs, b) → vs.length = c ∧ okJ k (intsU vs)
  | 0, k, a, vs, b, h => by injection h with h; injection h with h; subst h; exact ⟨rfl, trivial⟩
  | c + 1, k, a, vs, b, h => by
    obtain ⟨x, y, d, hd⟩ := drawIs l (k + 1) a
    have hx := hd.lt (by omega)
    cases y
    · rw [upB_no hd] at h; cases h
    · rw [upB_yes hd] at h
      rcases hq : upB l c (k + 1) d with ⟨_ | us, q⟩
      · rw [hq] at h; cases h
      · rw [hq] at h
        injection h with h
        injection h with h
        subst h
        obtain ⟨g1, g2⟩ := upB_ok c (k + 1) d hq
        exact ⟨by simp [g1], ⟨Int.natCast_nonneg _, Int.ofNat_le.2 (by omega)⟩, g2⟩
theorem upB_le {l : List UInt8} : ∀ (c k a : Nat), a ≤ l.length → a ≤ (upB l c k a).2 ∧ (upB l c k a).2 ≤ l.length
  | 0, k, a, h => ⟨Nat.le_refl _, h⟩
  | c + 1, k, a, h => by
    obtain ⟨x, y, d, hd⟩ := drawIs l (k + 1) a
    have hc := hd.le h
    cases y
    · rw [upB_no hd]; exact hc
    · rw [upB_yes hd]
      have ih := upB_le c (k + 1) d hc.2
      rcases hq : upB l c (k + 1) d with ⟨_ | us, q⟩
      · rw [hq] at ih; simp only [preU] at *; omega
      · rw [hq] at ih; simp only [preU] at *; omega
/-- what is drawn hangs on the bits that are read -/
theorem bitsAt_pre {l r : List UInt8} {a k n : Nat} (h : a + k ≤ n) (hn : n ≤ l.length) : bitsAt (l.take n ++ r) a k = bitsAt l a k := by
  unfold bitsAt
  have e : (l.take n ++ r).drop a = (l.take n).drop a ++ r := List.drop_append_of_le_length (by simp; omega)
  rw [e, List.take_append_of_le_length (by simp; omega), List.drop_take, List.take_take, Nat.min_eq_left (by omega)]
theorem drawIs_pre {l r : List UInt8} {m n : Nat} (hn : n ≤ l.length) (a : Nat) {x b : Nat} (h : DrawIs l m a x true b) (hb : b ≤ n) : DrawIs (l.take n ++ r) m a x true b := by
  have key : ∀ a, (drawF l m a).1.isSome = true → (drawF l m a).2 ≤ n → drawF (l.take n ++ r) m a = drawF l m a := by
    intro a
    induction a using drawF.induct (l := l) (m := m) with
    | case1 a h1 => rw [drawF_short h1]; intro h; cases h
    | case2 a h1 h2 =>
      rw [drawF_hit (by omega) rfl h2]
      intro _ hb
      have hb : a + wid m ≤ n := hb
      exact drawF_hit (by simp; omega) (bitsAt_pre hb hn) h2
    | case3 a h1 h2 h3 => rw [drawF, if_neg h1, if_neg h2, if_pos h3]; intro h; cases h
    | case4 a h1 h2 h3 ih =>
      rw [drawF_miss (by omega) rfl (by omega) (by omega)]
      intro h hb
      have hle := drawF_le (l := l) (m := m) (a + wid m) (by omega)
      rw [drawF_miss (v := bitsAt l a (wid m)) (by simp; omega) (bitsAt_pre (by omega) hn) (by omega) (by omega)]
      exact ih h hb
  obtain ⟨h1, h2, h3⟩ := h
  have := key a h2 (by omega)
  exact ⟨by rw [this]; exact h1, by rw [this]; exact h2, by rw [this]; exact h3⟩
theorem upB_pre {l r : List UInt8} {n : Nat} (hn : n ≤ l.length) : ∀ (c k a : Nat) {vs : List Nat} {b : Nat}, a ≤ l.length → upB l c k a = (some vs, b) → b ≤ n → upB (l.take n ++ r) c k a = (some vs, b)
  | 0, k, a, vs, b, _, h, _ => h
  | c + 1, k, a, vs, b, ha, h, hb => by
    obtain ⟨x, y, d, hd⟩ := drawIs l (k + 1) a
    have hle := hd.le ha
    cases y
    · rw [upB_no hd] at h; cases h
    · rw [upB_yes hd] at h
      have hu := upB_le (l := l) c (k + 1) d hle.2
      rcases hq : upB l c (k + 1) d with ⟨_ | us, q⟩
      · rw [hq] at h; cases h
      · rw [hq] at h hu
        injection h with h e
        injection h with h
        have e : q = b := e
        subst h
        subst e
        have hu2 : d ≤ q := hu.1
        rw [upB_yes (drawIs_pre hn a hd (by omega)), upB_pre hn c (k + 1) d hle.2 hq hb]
        rfl
end Go.Proofs.Ytefeglkbikcjeaa

/- PoolEven: the rows of numbers, one behind the other, and what they make: plain facts, and the count by computing. -/
namespace Go.Proofs.Ytefeglkbikcjeaa
open Go Go.RowKit

/-- a set of numbers, as bits -/
def setN (L : List Nat) : Nat := L.foldl (fun s x => s ||| 1 <<< x) 0
def poolToN (k : Nat) (J : List Nat) : Nat → List Nat
  | 0 => List.range k
  | m + 1 => if J.getD m 0 < k then (poolToN k J m).set (J.getD m 0) (k + m) else poolToN k J m
theorem poolToN_z (k : Nat) (J : List Nat) : ∀ m, (poolToN k J m).map (fun x : Nat => (x : Int)) = poolTo k (intsU J) m
  | 0 => rfl
  | m + 1 => by
    rw [poolToN, poolTo, intsU_get]
    by_cases h : J.getD m 0 < k
    · rw [if_pos h, if_pos (by omega), List.map_set, poolToN_z k J m]; rfl
    · rw [if_neg h, if_neg (by omega), poolToN_z k J m]
def okB : Nat → List Nat → Bool
  | _, [] => true
  | k, j :: J => decide (j ≤ k) && okB (k + 1) J
theorem okB_ok : ∀ {k : Nat} {J : List Nat}, okB k J = true → okJ k (intsU J)
  | _, [], _ => trivial
  | k, j :: J, h => by
    simp only [okB, Bool.and_eq_true, decide_eq_true_eq] at h
    exact ⟨⟨Int.natCast_nonneg _, Int.ofNat_le.2 h.1⟩, okB_ok h.2⟩
/-- the next row of numbers, from the place i down -/
def nextN (k : Nat) : Nat → List Nat → Option (List Nat)
  | 0, _ => none
  | i + 1, J => if J.getD i 0 < k + i then some (J.set i (J.getD i 0 + 1)) else nextN k i (J.set i 0)
theorem nextN_length (k : Nat) : ∀ (i : Nat) (J : List Nat) {K : List Nat}, nextN k i J = some K → K.length = J.length
  | 0, _, _, h => by cases h
  | i + 1, J, K, h => by
    rw [nextN] at h
    split at h
    · injection h with h; rw [← h, List.length_set]
    · rw [nextN_length k i _ h, List.length_set]
/-- one row counted -/
def bump (G : List Nat) (s : Nat) : List Nat := G.set s (G.getD s 0 + 1)
/-- all rows counted -/
def runE (k n : Nat) : Nat → List Nat → List Nat → Option (List Nat)
  | 0, _, _ => none
  | f + 1, J, G =>
    if okB k J && J.length == n - k then
      match nextN k J.length J with
      | none => some (bump G (setN (poolToN k J J.length)))
      | some K => runE k n f K (bump G (setN (poolToN k J J.length)))
    else none
def fac : Nat → Nat
  | 0 => 1
  | n + 1 => fac n * (n + 1)
/-- each choice as often as any other one -/
def goodE (k n : Nat) : Bool :=
  match runE k n 1000 (List.replicate (n - k) 0) (List.replicate 64 0) with
  | none => false
  | some G => G.all (fun x => x == 0 || x == fac (n - k)) && (G.filter (· != 0)).length == bin n k && G.length == 64
theorem goodE_all : ((List.range 7).all fun n => (List.range (n + 1)).all fun k => goodE k n) = true := by decide +kernel
theorem goodE_of {k n : Nat} (hn : n < 7) (hk : k ≤ n) : ∃ G, runE k n 1000 (List.replicate (n - k) 0) (List.replicate 64 0) = some G ∧ (∀ i, G.getD i 0 = 0 ∨ G.getD i 0 = fac (n - k)) ∧ (G.filter (· != 0)).length = bin n k ∧ G.length = 64 := by
  have h := List.all_eq_true.1 goodE_all n (List.mem_range.2 hn)
  have h := List.all_eq_true.1 h k (List.mem_range.2 (by omega))
  unfold goodE at h
  split at h
  · cases h
  · rename_i G hG
    simp only [Bool.and_eq_true, beq_iff_eq, List.all_eq_true, Bool.or_eq_true] at h
    refine ⟨G, hG, fun i => ?_, h.1.2, h.2⟩
    by_cases hi : i < G.length
    · have := h.1.1 G[i] (List.getElem_mem hi)
      simpa [List.getD, hi] using this
    · simp [List.getD, Nat.not_lt.1 hi]
/-- what a round gives -/
theorem runE_step {k n f : Nat} {J G R : List Nat} (h : runE k n (f + 1) J G = some R) :
    okJ k (intsU J) ∧ J.length = n - k ∧ ((nextN k J.length J = none ∧ R = bump G (setN (poolToN k J J.length))) ∨ ∃ K, nextN k J.length J = some K ∧ runE k n f K (bump G (setN (poolToN k J J.length))) = some R) := by
  rw [runE] at h
  split at h
  · rename_i hc
    simp only [Bool.and_eq_true, beq_iff_eq] at hc
    refine ⟨okB_ok hc.1, hc.2, ?_⟩
    split at h
    · rename_i e; injection h with h; exact .inl ⟨e, h.symm⟩
    · rename_i K e; exact .inr ⟨K, e, h⟩
  · cases h
theorem setN_lt {n : Nat} : ∀ (L : List Nat) (s : Nat), s < 2 ^ n → (∀ x ∈ L, x < n) → L.foldl (fun s x => s ||| 1 <<< x) s < 2 ^ n
  | [], s, hs, _ => hs
  | x :: L, s, hs, h => setN_lt L _ (Nat.or_lt_two_pow hs (by rw [Nat.one_shiftLeft]; exact Nat.pow_lt_pow_right (by decide) (h x (by simp)))) fun y hy => h y (by simp [hy])
theorem setN_perm {L M : List Nat} (h : L.Perm M) : setN L = setN M := by
  unfold setN
  refine h.foldl_eq' (fun x _ y _ z => ?_) _
  rw [Nat.or_assoc, Nat.or_assoc, Nat.or_comm (1 <<< y)]
/-- the pool's set -/
theorem setN_pool {k : Nat} {J : List Nat} : setN ((poolF k (intsU J)).map Int.toNat) = setN (poolToN k J J.length) := by
  refine setN_perm ?_
  have h := (poolF_perm k (intsU J)).map Int.toNat
  rw [intsU_length, ← poolToN_z, List.map_map] at h
  have e : (Int.toNat ∘ fun x : Nat => (x : Int)) = id := by funext x; simp
  rwa [e, List.map_id] at h
end Go.Proofs.Ytefeglkbikcjeaa

/- The contracts of package pool: may, all, Row. -/
namespace Go.Proofs.Ytefeglkbikcjeaa
open Go Go.RowKit

/-- 'copy' of numbers to the head of a row of the call's own -/
theorem copy_ints {w0 w : World} {ops : Array Oper} {rest : List Oper} {o : Oper} {a : Act} {Q : Exit → Act → World → Prop} (hgd : o.guard = none) (d s : Operand) (t e : TypeId)
    (ht : Try.prog.underlying t = some (.slice e)) (hinfo : (Try.prog.info? e).map (fun i => (i.zero, i.size, i.bytes)) = some (some (.int .i64 0), 1, 8)) (ho : o.op = .call { callee := .builtin .copy, args := #[d, s], argTypes := #[t, t] })
    (g k cap : Nat) (L : List Int) (hd : a.eval d = .slice (some ⟨g, 0, none⟩) k cap) (hr : RowG e g cap L w) (hk : L.length = k) (u : Value) (M : List Int) (hs : a.eval s = u) (hM : Ints w u M) (hl : k ≤ M.length)
    (hx : Ext w0 w) (hg : w0.heap.size ≤ g)
    (h : ∀ w', RowG e g cap (M.take k) w' → Ext w0 w' → wpList Try.prog ops Q rest (a.put o.dst (.int .i64 (k : Int))) w') : wpList Try.prog ops Q (o :: rest) a w := by
  obtain ⟨i, hi, hz, hsize, hby⟩ := info_parts hinfo
  obtain ⟨b1, c1, rfl, h1, h2, h3⟩ := hM.open
  obtain ⟨r1, r2⟩ := hr
  rcases r2 with ⟨r2, -⟩ | ⟨g', cap', cur, e2, hg', hh, p1, p2, p3, p4⟩
  · cases r2
  injection e2 with e2 e3 e4
  injection e2 with e2
  injection e2 with e2
  subst e2 e4
  have hmin : Nat.min M.length k = k := Nat.min_eq_right hl
  have hcl : ((M.take k).map zv).length = k := by simp; omega
  have hcs : cur.size = cap := by rw [p3, Nat.mul_one]
  refine wpList_copy_splice hgd d s t t ho e ht (by rw [hi]; simp [hsize]) (some ⟨g, 0, none⟩) b1 k cap M.length c1 hd hs g 0 cur.toList e hh ((M.take k).map zv) (by rw [hcl, hmin]) (fun hp => ⟨rfl, ?_⟩) (by rw [hcl, Array.length_toList, hcs]; omega) (by
    intro v hv
    obtain ⟨x, -, rfl⟩ := List.mem_map.1 hv
    rfl) w0.heap.size w0 hx hg (fun w' q1 q2 => ?_)
  · rw [hcl] at hp
    obtain ⟨b, o', rfl, q1, q2⟩ := h3 0 (by omega)
    refine ⟨_, rfl, fun j v hj => ?_⟩
    have hjk : j < k := by have := (List.getElem?_eq_some_iff.1 hj).1; rwa [hcl] at this
    have ea : (⟨b, o', none⟩ : Addr).add j = ⟨b, o' + j, none⟩ := by
      unfold Addr.add
      split
      · rename_i e; rw [e]; rfl
      · rfl
    rw [ea, q2 j (by omega), ← hj, List.getElem?_map, List.getElem?_take_of_lt hjk, List.getElem?_eq_getElem (by omega)]
    simp [zv, List.getD, show j < M.length by omega]
  · have hmt : (M.take k).length = k := by simp; omega
    rw [hcl]
    refine h w' ⟨by simp, .inr ⟨g, cap, _, rfl, Nat.le_refl _, q1.out, by rw [hmt]; omega, p2, ?_, ?_⟩⟩ q2
    · rw [List.size_toArray, length_splice _ _ _ (by rw [hcl, Array.length_toList, hcs]; omega), Array.length_toList, p3]
    · rw [hmt, Nat.mul_one]
      unfold splice
      simp only [List.take_zero, List.nil_append]
      rw [List.take_append_of_le_length (by rw [hcl]; exact Nat.le_refl _), List.take_of_length_le (by rw [hcl]; exact Nat.le_refl _)]

set_option maxRecDepth 100000 in
theorem pmay_calls (w : World) (k n : Int) (b : Bool) (hb : decide (mayP k n) = b) :
    Calls Try.prog 16 #[.int .i64 k, .int .i64 n] w fun e w' => e = .returned (.bool b) ∧ Ext w w' := by
  have hn : n < 0 ∨ (0 ≤ n ∧ 64 < n) ∨ (0 ≤ n ∧ n ≤ 64 ∧ k < 0) ∨ (0 ≤ n ∧ n ≤ 64 ∧ 0 ≤ k ∧ n < k) ∨ (0 ≤ n ∧ n ≤ 64 ∧ 0 ≤ k ∧ k ≤ n) := by omega
  have HB := Lib.hid hb
  clear hb
  rcases hn with h | ⟨h, h'⟩ | ⟨h, h', h''⟩ | ⟨h, h', h'', h3⟩ | ⟨h, h', h'', h3⟩
  · have HE : Hid (b = false) := by show _ = _; rw [← HB.out, decide_eq_false_iff_not]; unfold mayP; omega
    clear HB
    go_enter Try.func16, Try.ntmps16
    go_wp2_with fail
    go_ret
    exact ⟨ret_eq (by rw [HE.out]; rfl), Ext.refl _⟩
  · have HE : Hid (b = false) := by show _ = _; rw [← HB.out, decide_eq_false_iff_not]; unfold mayP; omega
    clear HB
    go_enter Try.func16, Try.ntmps16
    go_wp2_with fail
    go_ret
    exact ⟨ret_eq (by rw [HE.out]; rfl), Ext.refl _⟩
  · have HE : Hid (b = false) := by show _ = _; rw [← HB.out, decide_eq_false_iff_not]; unfold mayP; omega
    clear HB
    go_enter Try.func16, Try.ntmps16
    go_wp2_with fail
    go_ret
    exact ⟨ret_eq (by rw [HE.out]; rfl), Ext.refl _⟩
  · have HE : Hid (b = false) := by show _ = _; rw [← HB.out, decide_eq_false_iff_not]; unfold mayP; omega
    clear HB
    go_enter Try.func16, Try.ntmps16
    go_wp2_with fail
    go_ret
    exact ⟨ret_eq (by rw [HE.out]; first | rfl | (simp; omega) | simp), Ext.refl _⟩
  · have HE : Hid (b = true) := by show _ = _; rw [← HB.out, decide_eq_true_eq]; unfold mayP; omega
    clear HB
    go_enter Try.func16, Try.ntmps16
    go_wp2_with fail
    go_ret
    exact ⟨ret_eq (by rw [HE.out]; first | rfl | (simp; omega) | simp), Ext.refl _⟩

theorem things_take {n k : Nat} (h : k ≤ n) : (things n).take k = things k := by
  unfold things
  rw [← List.map_take, List.take_range, Nat.min_eq_left h]
/-- the first numbers are laid, the others are 0 -/
def allTo (n k : Nat) : List Int := things k ++ List.replicate (n - k) 0
theorem allTo_length {n k : Nat} (h : k ≤ n) : (allTo n k).length = n := by simp [allTo, things_length]; omega
theorem allTo_zero (n : Nat) : allTo n 0 = List.replicate n 0 := by simp [allTo, things]
theorem allTo_all (n : Nat) : allTo n n = things n := by simp [allTo]
theorem allTo_set {n k : Nat} (h : k < n) : (allTo n k).set k (k : Int) = allTo n (k + 1) := by
  unfold allTo
  rw [List.set_append_right _ _ (by rw [things_length]; omega), things_length, Nat.sub_self, things_succ, List.append_assoc]
  obtain ⟨m, hm⟩ : ∃ m, n - k = m + 1 := ⟨n - k - 1, by omega⟩
  rw [hm, show n - (k + 1) = m by omega]
  simp [List.replicate_succ]

set_option maxHeartbeats 1000000 in
set_option maxRecDepth 100000 in
theorem pall_calls (w : World) :
    Calls Try.prog 17 #[] w fun e w' => ∃ u, e = .returned u ∧ Ints w' u (things 64) ∧ Ext w w' := by
  go_enter Try.func17, Try.ntmps17
  go_wp2_with (at_make; refine make_ints rfl _ _ 24 3 Try.underlying24 info_int rfl 64 _ rfl rfl rfl (by decide) ?_; intro w1 hown hgrow; have X1 : Hid (Ext w w1) := (Ext.refl w).grown hgrow (fun k hk => by cases hk); have R1 : Hid (RowG 3 w.heap.size 64 (List.replicate 64 0) w1) := RowG.made hown (by simp); clear hown hgrow)
  obtain ⟨g, hg⟩ : ∃ g, w.heap.size = g := ⟨_, rfl⟩
  rw [hg] at R1 ⊢
  have HG : Hid (w.heap.size ≤ g) := by show _ ≤ g; omega
  clear hg
  go_loopw [6] (fun v6 wr => ∃ k : Nat, v6 = .int .i64 (k : Int) ∧ k ≤ 64 ∧ RowG 3 g 64 (allTo 64 k) wr ∧ Ext w wr) (fun v6 _ => 64 - (intOf v6).toNat)
  case atStart => exact ⟨0, rfl, Nat.zero_le _, by rw [allTo_zero]; exact R1.out, X1.out⟩
  case round =>
    obtain ⟨k, rfl, hk, hr, hx⟩ := hrel
    have R := Lib.hid hr
    have X := Lib.hid hx
    clear hr hx
    by_cases hkn : k < 64
    · have t1 : (k : Int) ≤ 63 := by omega
      have hc := R.out.cell (j := k) (by rw [allTo_length hk]; exact hkn)
      have hf := R.out.free k
      have LT := Lib.hid hkn
      clear hkn hk
      go_wp2_with fail
      refine ⟨⟨k + 1, by go_num, LT.out, ?_, X.out.setCell HG.out _⟩, by simp [intOf]; have := LT.out; omega⟩
      rw [← allTo_set LT.out]; exact R.out.set k _
    · obtain rfl : k = 64 := by omega
      have HR : Hid (RowG 3 g 64 (things 64) wr) := by have := R.out; rwa [allTo_all] at this
      clear hkn hk
      go_wp2_with fail
      go_ret
      exact ⟨_, rfl, by have := HR.out.ownI.ints; rwa [things_length] at this, X.out⟩

set_option maxHeartbeats 2000000 in
set_option maxRecDepth 100000 in
theorem plrow_ok {w : World} {v : Value} {J : List Int} (hJ : Ints w v J) (k n : Nat) (hkn : k ≤ n) (hn : n ≤ 64) (hl : J.length = n - k) (ho : okJ k J) :
    Calls Try.prog 5 #[.int .i64 (k : Int), .int .i64 (n : Int), v] w fun e w' => ∃ g cap, e = .returned (.tuple #[.slice (some ⟨g, 0, none⟩) k cap, .int .i64 0]) ∧ w.heap.size ≤ g ∧ RowZ 3 g cap (poolF k J) w' ∧ Ext w w' := by
  obtain ⟨a, cap, rfl, h1, h2, h3⟩ := hJ.open
  unfold maxLen at h2
  have H3 := Lib.hid h3
  obtain ⟨m, hm⟩ : ∃ m, J.length = m := ⟨_, rfl⟩
  have HM := Lib.hid hm
  have HO := Lib.hid ho
  have t1 : (k : Int) ≤ 64 := by omega
  have t2 : (n : Int) ≤ 64 := by omega
  have t3 : (m : Int) ≤ 64 := by omega
  have K64 : Hid (k ≤ 64) := by show k ≤ 64; omega
  have KL : Hid (k ≤ 100000) := by show k ≤ 100000; omega
  have KM : Hid (k + m ≤ 64) := by show k + m ≤ 64; omega
  have MAY : Hid (decide (mayP (k : Int) (n : Int)) = true) := by show _ = _; rw [decide_eq_true_eq]; unfold mayP; omega
  have hwm : IntKind.i64.wrap ((n : Int) - k) = (m : Int) := by rw [IntWalk.i64_in _ (by omega)]; omega
  rw [hm] at h1 ⊢
  clear h3 hJ hm ho hl hkn hn
  go_enter Try.func5, Try.ntmps5
  go_wp2_with fail
  refine (pmay_calls _ _ _ true MAY.out).mono ?_
  rintro e w1 ⟨rfl, x1⟩
  have X1 := Lib.hid x1
  clear x1
  go_wp2_with (at_make; refine make_ints rfl _ _ 24 3 Try.underlying24 info_int rfl k _ rfl rfl rfl KL.out ?_; intro w2 hown hgrow; have X2 : Hid (Ext w w2) := X1.out.grown hgrow (fun k hk => by cases hk); have R2 : Hid (RowG 3 w1.heap.size k (List.replicate k 0) w2) := RowG.made hown (by simp); clear hown hgrow)
  obtain ⟨g, hg⟩ : ∃ g, w1.heap.size = g := ⟨_, rfl⟩
  have HG : Hid (w.heap.size ≤ g) := by show _ ≤ g; have := X1.out.size; omega
  rw [hg] at R2 ⊢
  clear hg hwm
  refine (pall_calls _).mono ?_
  rintro e w3 ⟨u, rfl, hu, x3⟩
  have U3 := Lib.hid hu
  have R3 := Lib.hid (R2.out.ext x3)
  have X3 := Lib.hid (X2.out.trans x3)
  clear hu x3
  go_wp2_with (refine copy_ints (w0 := w) rfl _ _ 24 3 Try.underlying24 info_int rfl g k k (List.replicate k 0) rfl R3.out (by simp) _ (things 64) rfl U3.out (by rw [things_length]; exact K64.out) X3.out HG.out ?_; intro w4 hr4 hx4; have X4 := Lib.hid hx4; have R4 := Lib.hid hr4; clear hr4 hx4)
  have R5 : Hid (RowG 3 g k (poolTo k J 0) w4) := by have := R4.out; rwa [things_take K64.out] at this
  clear R4
  go_wp2_with fail
  go_loopw [38] (fun v38 wr => ∃ i : Nat, v38 = .int .i64 (i : Int) ∧ i ≤ m ∧ RowG 3 g k (poolTo k J i) wr ∧ Ext w wr) (fun v38 _ => m - (intOf v38).toNat)
  case atStart => exact ⟨0, rfl, Nat.zero_le _, R5.out, X4.out⟩
  case round =>
    obtain ⟨i, rfl, hi, hr, hx⟩ := hrel
    have R := Lib.hid hr
    have X := Lib.hid hx
    clear hr hx
    by_cases him : i < m
    · obtain ⟨b, o, rfl, hb, hc⟩ := H3.out i (by rw [HM.out]; exact him)
      obtain ⟨hd1, hd2⟩ := HO.out.get (m := i) (by rw [HM.out]; exact him)
      obtain ⟨d, hd⟩ : ∃ d : Nat, J.getD i 0 = (d : Int) := ⟨(J.getD i 0).toNat, by omega⟩
      obtain ⟨z, hz⟩ : ∃ z, k + i = z := ⟨_, rfl⟩
      rw [hd, hz] at hd2
      have hcd : wr.cell? ⟨b, o + i, none⟩ = some (.int .i64 (d : Int)) := by rw [Below.cell X.out (p := ⟨b, o + i, none⟩) hb, hc i (by rw [HM.out]; exact him), hd]
      have hwz : IntKind.i64.wrap ((k : Int) + i) = (z : Int) := by rw [IntWalk.i64_in _ (by have := KM.out; omega)]; omega
      have hdz : d ≤ z := by omega
      have HD := Lib.hid hd
      have HZ := Lib.hid hz
      have LT := Lib.hid him
      clear hc hd1 hd hz hd2 hb
      by_cases hdk : d < k
      · have hcc := R.out.cell (j := d) (by rw [poolTo_length]; exact hdk)
        have hf := R.out.free d
        have R6 : Hid (RowG 3 g k (poolTo k J (i + 1)) (wr.setCell ⟨g, d, none⟩ (.int .i64 (z : Int)))) := by
          show RowG _ _ _ _ _
          rw [poolTo, HD.out, if_pos (by omega), Int.toNat_natCast, HZ.out]; exact R.out.set d _
        go_wp2_with fail
        exact ⟨⟨i + 1, by go_num, LT.out, R6.out, X.out.setCell HG.out _⟩, by simp [intOf]; have := LT.out; omega⟩
      · have R6 : Hid (RowG 3 g k (poolTo k J (i + 1)) wr) := by
          show RowG _ _ _ _ _
          rw [poolTo, HD.out, if_neg (by omega)]; exact R.out
        go_wp2_with fail
        exact ⟨⟨i + 1, by go_num, LT.out, R6.out, X.out⟩, by simp [intOf]; have := LT.out; omega⟩
    · obtain rfl : m = i := by omega
      have RL : Hid ((poolTo k J m).length ≤ 100000) := by show _ ≤ 100000; rw [poolTo_length]; exact KL.out
      clear him hi
      go_wp2_with fail
      refine (by have := sort_calls R.out RL.out; rw [poolTo_length] at this; exact this : Calls _ _ _ _ _).mono ?_
      rintro e w5 ⟨rfl, hrow, hgrow⟩
      have R6 : Hid (RowG 3 g k (poolF k J) w5) := by unfold poolF; rw [HM.out]; exact hrow
      have X5 : Hid (Ext w w5) := X.out.grown hgrow (fun b hb => by cases hb; exact HG.out)
      clear hrow hgrow
      go_wp2_with fail
      go_ret2
      exact ⟨g, k, rfl, HG.out, ⟨R6.out, by decide⟩, X5.out⟩

set_option maxHeartbeats 2000000 in
set_option maxRecDepth 100000 in
theorem plrow_no {w : World} {v : Value} {J : List Int} (hJ : Ints w v J) (k n : Int) (c : Nat) (h : errPool k n J = c) (h0 : c ≠ 0) :
    Calls Try.prog 5 #[.int .i64 k, .int .i64 n, v] w fun e w' => e = .returned (.tuple #[.slice none 0 0, .int .i64 (c : Int)]) ∧ Ext w w' := by
  obtain ⟨a, cap, rfl, h1, h2, h3⟩ := hJ.open
  unfold maxLen at h2
  have H3 := Lib.hid h3
  obtain ⟨j, hj⟩ : ∃ j, J.length = j := ⟨_, rfl⟩
  have HM := Lib.hid hj
  rw [hj] at h1 ⊢
  by_cases hm : mayP k n
  · obtain ⟨kk, rfl⟩ : ∃ kk : Nat, k = (kk : Int) := ⟨k.toNat, by unfold mayP at hm; omega⟩
    obtain ⟨nn, rfl⟩ : ∃ nn : Nat, n = (nn : Int) := ⟨n.toNat, by unfold mayP at hm; omega⟩
    have MAY : Hid (decide (mayP (kk : Int) (nn : Int)) = true) := by show _ = _; rw [decide_eq_true_eq]; exact hm
    have hmm := hm
    unfold mayP at hmm
    obtain ⟨m, hmn⟩ : ∃ m, nn - kk = m := ⟨_, rfl⟩
    have t1 : (kk : Int) ≤ 64 := by omega
    have t2 : (nn : Int) ≤ 64 := by omega
    have K64 : Hid (kk ≤ 64) := by show kk ≤ 64; omega
    have KL : Hid (kk ≤ 100000) := by show kk ≤ 100000; omega
    have hwm : IntKind.i64.wrap ((nn : Int) - kk) = (m : Int) := by rw [IntWalk.i64_in _ (by omega)]; omega
    have hmi : (nn : Int) - kk = m := by omega
    have M64 : Hid (kk + m ≤ 64) := by show kk + m ≤ 64; omega
    unfold errPool at h
    rw [if_pos hm, hmi, hj, Int.toNat_natCast] at h
    by_cases hs : (j : Int) < m
    · have HC : Hid (c = 4) := by rw [if_pos hs] at h; exact h.symm
      have t3 : (j : Int) + 1 ≤ m := by omega
      clear h3 hJ hm hj h hs h0 hmm hmn hmi h1 h2
      go_enter Try.func5, Try.ntmps5
      go_wp2_with fail
      refine (pmay_calls _ _ _ true MAY.out).mono ?_
      rintro e w1 ⟨rfl, x1⟩
      have X1 := Lib.hid x1
      clear x1
      go_wp2_with fail
      go_ret2
      exact ⟨by rw [HC.out]; rfl, X1.out⟩
    rw [if_neg hs] at h
    by_cases hg : (m : Int) < j
    · have HC : Hid (c = 5) := by rw [if_pos hg] at h; exact h.symm
      have t3 : (m : Int) + 1 ≤ j := by omega
      have t4 : (j : Int) ≤ 9223372036854775807 := by omega
      clear h3 hJ hm hj h hs h0 hmm hmn hmi h1 h2 hg
      go_enter Try.func5, Try.ntmps5
      go_wp2_with fail
      refine (pmay_calls _ _ _ true MAY.out).mono ?_
      rintro e w1 ⟨rfl, x1⟩
      have X1 := Lib.hid x1
      clear x1
      go_wp2_with fail
      go_ret2
      exact ⟨by rw [HC.out]; rfl, X1.out⟩
    rw [if_neg hg] at h
    obtain rfl : j = m := by omega
    have hno : ¬ okJ kk J := by
      intro hok; rw [if_pos hok] at h; exact h0 h.symm
    have HC : Hid (c = 1) := by rw [if_neg hno] at h; exact h.symm
    have HNO := Lib.hid hno
    have t3 : (j : Int) ≤ 64 := by omega
    clear h3 hJ hm hj h hs h0 hmm hmn hmi hg h2 hno
    go_enter Try.func5, Try.ntmps5
    go_wp2_with fail
    refine (pmay_calls _ _ _ true MAY.out).mono ?_
    rintro e w1 ⟨rfl, x1⟩
    have X1 := Lib.hid x1
    clear x1
    go_wp2_with (at_make; refine make_ints rfl _ _ 24 3 Try.underlying24 info_int rfl kk _ rfl rfl rfl KL.out ?_; intro w2 hown hgrow; have X2 : Hid (Ext w w2) := X1.out.grown hgrow (fun k hk => by cases hk); have R2 : Hid (RowG 3 w1.heap.size kk (List.replicate kk 0) w2) := RowG.made hown (by simp); clear hown hgrow)
    obtain ⟨g, hg⟩ : ∃ g, w1.heap.size = g := ⟨_, rfl⟩
    have HG : Hid (w.heap.size ≤ g) := by show _ ≤ g; have := X1.out.size; omega
    rw [hg] at R2 ⊢
    clear hg hwm
    refine (pall_calls _).mono ?_
    rintro e w3 ⟨u, rfl, hu, x3⟩
    have U3 := Lib.hid hu
    have R3 := Lib.hid (R2.out.ext x3)
    have X3 := Lib.hid (X2.out.trans x3)
    clear hu x3
    go_wp2_with (refine copy_ints (w0 := w) rfl _ _ 24 3 Try.underlying24 info_int rfl g kk kk (List.replicate kk 0) rfl R3.out (by simp) _ (things 64) rfl U3.out (by rw [things_length]; exact K64.out) X3.out HG.out ?_; intro w4 hr4 hx4; have X4 := Lib.hid hx4; have R4 := Lib.hid hr4; clear hr4 hx4)
    have LK : Hid (((things 64).take kk).length = kk) := by show _ = _; rw [things_take K64.out, things_length]
    go_wp2_with fail
    go_loopw [38] (fun v38 wr => ∃ i : Nat, v38 = .int .i64 (i : Int) ∧ i ≤ j ∧ Hid (∀ q, q < i → 0 ≤ J.getD q 0 ∧ J.getD q 0 ≤ ((kk + q : Nat) : Int)) ∧ (∃ L, L.length = kk ∧ RowG 3 g kk L wr) ∧ Ext w wr) (fun v38 _ => j - (intOf v38).toNat)
    case atStart => exact ⟨0, rfl, Nat.zero_le _, fun q hq => by omega, ⟨_, LK.out, R4.out⟩, X4.out⟩
    case round =>
      obtain ⟨i, rfl, hi, hok, ⟨L, hL, hr⟩, hx⟩ := hrel
      have R := Lib.hid hr
      have X := Lib.hid hx
      have LL := Lib.hid hL
      clear hr hx hL
      by_cases him : i < j
      · obtain ⟨b, o, rfl, hb, hc⟩ := H3.out i (by rw [HM.out]; exact him)
        obtain ⟨x, hx⟩ : ∃ x, J.getD i 0 = x := ⟨_, rfl⟩
        obtain ⟨z, hz⟩ : ∃ z, kk + i = z := ⟨_, rfl⟩
        have hcd : wr.cell? ⟨b, o + i, none⟩ = some (.int .i64 x) := by rw [Below.cell X.out (p := ⟨b, o + i, none⟩) hb, hc i (by rw [HM.out]; exact him), hx]
        have hwz : IntKind.i64.wrap ((kk : Int) + i) = (z : Int) := by rw [IntWalk.i64_in _ (by have := M64.out; omega)]; omega
        have HX := Lib.hid hx
        have HZ := Lib.hid hz
        have LT := Lib.hid him
        clear hc hx hz hb
        by_cases hx0 : x < 0
        · clear hok
          go_wp2_with fail
          go_ret2
          exact ⟨by rw [HC.out]; rfl, X.out⟩
        by_cases hxz : (z : Int) < x
        · clear hok
          go_wp2_with fail
          go_ret2
          exact ⟨by rw [HC.out]; rfl, X.out⟩
        have HOK : Hid (∀ q, q < i + 1 → 0 ≤ J.getD q 0 ∧ J.getD q 0 ≤ ((kk + q : Nat) : Int)) := fun q hq => by
          by_cases e : q < i
          · exact hok.out q e
          · obtain rfl : q = i := by omega
            rw [HX.out, HZ.out]; omega
        obtain ⟨d, rfl⟩ : ∃ d : Nat, x = (d : Int) := ⟨x.toNat, by omega⟩
        have hdz : d ≤ z := by omega
        clear hok hx0 hxz
        by_cases hdk : d < kk
        · have hcc := R.out.cell (j := d) (by rw [LL.out]; exact hdk)
          have hf := R.out.free d
          have R6 := Lib.hid (R.out.set d (z : Int))
          have L6 : Hid ((L.set d (z : Int)).length = kk) := by show _ = _; rw [List.length_set, LL.out]
          go_wp2_with fail
          exact ⟨⟨i + 1, by go_num, LT.out, HOK, ⟨_, L6.out, R6.out⟩, X.out.setCell HG.out _⟩, by simp [intOf]; have := LT.out; omega⟩
        · go_wp2_with fail
          exact ⟨⟨i + 1, by go_num, LT.out, HOK, ⟨_, LL.out, R.out⟩, X.out⟩, by simp [intOf]; have := LT.out; omega⟩
      · obtain rfl : j = i := by omega
        exact absurd (okJ_of (J := J) (fun q hq => by rw [HM.out] at hq; exact hok.out q hq)) HNO.out
  · have MAY : Hid (decide (mayP k n) = false) := by show _ = _; rw [decide_eq_false_iff_not]; exact hm
    have HC : Hid (c = 1) := by unfold errPool at h; rw [if_neg hm] at h; exact h.symm
    clear h3 hJ hm hj h h0 h1 h2
    go_enter Try.func5, Try.ntmps5
    go_wp2_with fail
    refine (pmay_calls _ _ _ false MAY.out).mono ?_
    rintro e w1 ⟨rfl, x1⟩
    have X1 := Lib.hid x1
    clear x1
    go_wp2_with fail
    go_ret2
    exact ⟨by rw [HC.out]; rfl, X1.out⟩

/-- what Row tells -/
def plR (k n : Int) (J : List Int) : List Int := if errPool k n J = 0 then poolF k.toNat J else []
theorem plR_ok {k n : Int} {J : List Int} (h : errPool k n J = 0) : plR k n J = poolF k.toNat J := if_pos h
theorem plR_no {k n : Int} {J : List Int} (h : errPool k n J ≠ 0) : plR k n J = [] := if_neg h
theorem plR_length {k n : Int} {J : List Int} : (plR k n J).length ≤ 64 := by
  unfold plR
  split
  · rename_i h
    have := (errPool_ok h).1
    unfold mayP at this
    rw [poolF_length]; omega
  · simp
theorem plrow_all {w : World} {v : Value} {J : List Int} (hJ : Ints w v J) (k n : Int) (c : Nat) (h : errPool k n J = c) (R : List Int) (hR : plR k n J = R) :
    Calls Try.prog 5 #[.int .i64 k, .int .i64 n, v] w fun e w' => ∃ r, e = .returned (.tuple #[r, .int .i64 (c : Int)]) ∧ OwnZ 3 w.heap.size w' r R ∧ Ext w w' := by
  subst hR
  by_cases h0 : c = 0
  · subst h0
    obtain ⟨h1, h2, h3⟩ := errPool_ok h
    rw [plR_ok h]
    unfold mayP at h1
    obtain ⟨kk, rfl⟩ : ∃ kk : Nat, k = (kk : Int) := ⟨k.toNat, by omega⟩
    obtain ⟨nn, rfl⟩ : ∃ nn : Nat, n = (nn : Int) := ⟨n.toNat, by omega⟩
    rw [Int.toNat_natCast] at h3 ⊢
    refine (plrow_ok hJ kk nn (by omega) (by omega) (by omega) h3).mono ?_
    rintro e w' ⟨g, cap, rfl, hg, hr, hx⟩
    have := hr.1.ownZ hg hr.2
    rw [poolF_length] at this
    exact ⟨_, rfl, this, hx⟩
  · rw [plR_no (by rw [h]; exact h0)]
    refine (plrow_no hJ k n c h h0).mono ?_
    rintro e w' ⟨rfl, hx⟩
    exact ⟨_, rfl, ⟨OwnI.nil _ _ _, by decide⟩, hx⟩
end Go.Proofs.Ytefeglkbikcjeaa

/- The contract of pool.Draw. -/
namespace Go.Proofs.Ytefeglkbikcjeaa
open Go Go.RowKit

theorem Cur.mvo {S : ByteArray} {t a g : Nat} {ov : Bool} {w w' : World} (h : Cur S t a ov w) (m : Mv g w w') (hn : t ≠ g) : Cur S t a ov w' :=
  ⟨m.at hn h.c0, m.at hn h.c1, m.at hn h.c2, by have k := h.bx; unfold Bx at k ⊢; rw [m.oth _ h.lt hn]; exact k⟩
theorem RowG.mvo {ty : TypeId} {t g cap : Nat} {L : List Int} {w w' : World} (h : RowG ty g cap L w) (m : Mv t w w') (hn : g ≠ t) : RowG ty g cap L w' := by
  have hlt := h.lt
  obtain ⟨h1, h2⟩ := h
  refine ⟨h1, ?_⟩
  rcases h2 with h2 | ⟨g2, cap', cur, e, hg, hh, rest⟩
  · exact .inl h2
  · refine .inr ⟨g2, cap', cur, e, hg, ?_, rest⟩
    have e2 : g = g2 := by injection e with e; injection e with e; injection e
    subst e2
    rw [m.oth g hlt hn]; exact hh
theorem Mv.new {t g o : Nat} {v : Value} {w wr : World} (h : Mv t w wr) (ht : t < w.heap.size) (hg : w.heap.size ≤ g) : Mv t w (wr.setCell ⟨g, o, none⟩ v) :=
  ⟨h.blw.setCell (p := ⟨g, o, none⟩) (by show t ≤ g; omega) v, fun b hb hn => by rw [← h.oth b hb hn]; exact Below.heap_setCell _ _ _ _ (by show b ≠ g; omega)⟩
theorem Mv.tail' {t : Nat} {a b c : World} (h : Mv t a b) (x : Ext b c) (ht : t ≤ b.heap.size) : Mv t a c := h.trans (x.mv ht)

/-- in the midst of Draw's loop -/
structure PuMem (S : ByteArray) (w : World) (t g m a : Nat) (out : List Nat) (wr : World) : Prop where
  row : RowG 3 g m (intsU out ++ List.replicate (m - out.length) 0) wr
  mv : Mv t w wr
  cur : Cur S t a false wr
  lt : t < w.heap.size
  lo : w.heap.size ≤ g
theorem PuMem.move {S : ByteArray} {w : World} {t g m a a' : Nat} {out : List Nat} {wr w1 : World} (h : PuMem S w t g m a out wr) (k : Mv t wr w1) (c : Cur S t a' false w1) : PuMem S w t g m a' out w1 :=
  ⟨h.row.mvo k (by have := h.lt; have := h.lo; omega), h.mv.trans k, c, h.lt, h.lo⟩
theorem PuMem.set {S : ByteArray} {w : World} {t g m a i : Nat} {out : List Nat} {wr : World} (h : PuMem S w t g m a out wr) (hi : out.length = i) (hm : i < m) (d : Nat) : PuMem S w t g m a (out ++ [d]) (wr.setCell ⟨g, i, none⟩ (.int .i64 (d : Int))) := by
  have hne : t ≠ g := by have := h.lt; have := h.lo; omega
  refine ⟨?_, h.mv.new h.lt h.lo, h.cur.mvo (Mv.set g i _ _) hne, h.lt, h.lo⟩
  have := h.row.set i (d : Int)
  have e : (intsU out ++ List.replicate (m - out.length) 0).set i (d : Int) = intsU (out ++ [d]) ++ List.replicate (m - (out ++ [d]).length) 0 := by
    obtain ⟨q, hq⟩ : ∃ q, m - out.length = q + 1 := ⟨m - out.length - 1, by omega⟩
    rw [List.set_append_right _ _ (by rw [intsU_length]; omega), intsU_length, hq, show i - out.length = 0 by omega, List.replicate_succ, List.set_cons_zero, List.length_append, List.length_singleton, show m - (out.length + 1) = q by omega]
    simp [intsU]
  rwa [e] at this

/-- what a draw leaves -/
def RetPl (S : ByteArray) (t a : Nat) (L : List Int) (y ov : Bool) (w : World) (e : Ending) (w' : World) : Prop :=
  ∃ r, e = .returned (.tuple #[r, .bool y]) ∧ OwnZ 3 w.heap.size w' r L ∧ Mv t w w' ∧ Cur S t a ov w'
theorem RetPl.none {S : ByteArray} {t a : Nat} {y ov : Bool} {w w' : World} {e : Ending} (h : e = .returned (.tuple #[.slice none 0 0, .bool y])) (m : Mv t w w') (c : Cur S t a ov w') : RetPl S t a [] y ov w e w' :=
  ⟨_, h, ⟨OwnI.nil _ _ _, by decide⟩, m, c⟩
def upR (k : Nat) : Option (List Nat) → List Int
  | some vs => poolF k (intsU vs)
  | none => []
def RetUp (S : ByteArray) (t b k : Nat) (p : Option (List Nat)) (w : World) (e : Ending) (w' : World) : Prop := RetPl S t b (upR k p) p.isSome p.isNone w e w'

set_option maxHeartbeats 4000000 in
set_option maxRecDepth 100000 in
theorem pldraw_up {S : ByteArray} {t a b : Nat} {w : World} {p : Option (List Nat)} (hc : Cur S t a false w) (ho : okS S.data.toList = true) (ha : a ≤ S.size) (k n : Nat) (hkn : k ≤ n) (hn : n ≤ 64) (hd : upB S.data.toList (n - k) k a = (p, b)) :
    Calls Try.prog 11 #[.pointer (some ⟨t, 0, none⟩), .int .i64 (k : Int), .int .i64 (n : Int)] w (RetUp S t b k p w) := by
  have HC := Lib.hid hc
  have HO := Lib.hid ho
  have HA := Lib.hid ha
  have HSZ : Hid (S.size = S.data.toList.length) := Lib.size_eq S
  obtain ⟨m, hm⟩ : ∃ m, n - k = m := ⟨_, rfl⟩
  rw [hm] at hd
  have HD := Lib.hid hd
  have HKN : Hid (k + m = n) := by show _ = _; omega
  have KN := Lib.hid hkn
  have N64 := Lib.hid hn
  have MNK : Hid (m = n - k) := hm.symm
  have t1 : (k : Int) ≤ 64 := by omega
  have t2 : (n : Int) ≤ 64 := by omega
  have t3 : (m : Int) ≤ 64 := by omega
  have KL : Hid (m ≤ 100000) := by show m ≤ 100000; omega
  have MAY : Hid (decide (mayP (k : Int) (n : Int)) = true) := by show _ = _; rw [decide_eq_true_eq]; unfold mayP; omega
  have hwm : IntKind.i64.wrap ((n : Int) - k) = (m : Int) := by rw [IntWalk.i64_in _ (by omega)]; omega
  clear hc ho hd ha hkn hn hm
  go_enter Try.func11, Try.ntmps11
  go_wp2_with fail
  refine (pmay_calls _ _ _ true MAY.out).mono ?_
  rintro e w1 ⟨rfl, x1⟩
  have X1 := Lib.hid x1
  clear x1
  go_wp2_with (at_make; refine make_ints rfl _ _ 24 3 Try.underlying24 info_int rfl m _ rfl rfl rfl KL.out ?_; intro w2 hown hgrow; have X2 : Hid (Ext w w2) := X1.out.grown hgrow (fun k hk => by cases hk); have R2 : Hid (RowG 3 w1.heap.size m (List.replicate m 0) w2) := RowG.made hown (by simp); clear hown hgrow)
  obtain ⟨g, hg⟩ : ∃ g, w1.heap.size = g := ⟨_, rfl⟩
  have HG : Hid (w.heap.size ≤ g) := by show _ ≤ g; have := X1.out.size; omega
  rw [hg] at R2 ⊢
  have P0 : Hid (PuMem S w t g m a [] w2) := ⟨by simpa [intsU] using R2.out, X2.out.mv (Nat.le_of_lt HC.out.lt), HC.out.ext X2.out, HC.out.lt, HG.out⟩
  clear hg hwm R2
  go_loopw [24] (fun v24 wr => ∃ (i c : Nat) (out : List Nat), v24 = .int .i64 (i : Int) ∧ i ≤ m ∧ c ≤ S.size ∧ Hid (upB S.data.toList m k a = preU out (upB S.data.toList (m - i) (k + i) c) ∧ out.length = i) ∧ PuMem S w t g m c out wr) (fun v24 _ => m - (intOf v24).toNat)
  case atStart => exact ⟨0, a, [], rfl, Nat.zero_le _, HA.out, ⟨(preU_nil _).symm, rfl⟩, P0.out⟩
  case round =>
    obtain ⟨i, c, out, rfl, him, hcS, hp, hP⟩ := hrel
    have PM := Lib.hid hP
    have HCS := Lib.hid hcS
    have HIM := Lib.hid him
    clear hP hcS
    by_cases hi : i < m
    · obtain ⟨q, hq⟩ : ∃ q, m - i = q + 1 := ⟨m - i - 1, by omega⟩
      obtain ⟨M, hM⟩ : ∃ M, k + i + 1 = M := ⟨_, rfl⟩
      obtain ⟨z, hz⟩ : ∃ z, k + i = z := ⟨_, rfl⟩
      obtain ⟨x, y, c', hdr⟩ := drawIs S.data.toList (k + i + 1) c
      have hx := hdr.lt (by omega)
      have hle := hdr.le (by rw [← HSZ.out]; exact HCS.out)
      have hkm := HKN.out
      have hn64 := N64.out
      have hwz : IntKind.i64.wrap ((k : Int) + i) = (z : Int) := by rw [IntWalk.i64_in _ (by omega)]; omega
      have hwM : IntKind.i64.wrap ((z : Int) + 1) = (M : Int) := by rw [IntWalk.i64_in _ (by omega)]; omega
      have hM1 : (M : Int) ≤ 64 := by omega
      have hx1 : (x : Int) ≤ 64 := by omega
      have MB : Hid (M < Bs) := by show M < Bs; rw [Bs_def]; omega
      have M1 : Hid (1 ≤ M) := by show 1 ≤ M; omega
      have HDR : Hid (DrawIs S.data.toList M c x y c') := by rw [← hM]; exact hdr
      have HKK : Hid (i + 1 ≤ m) := hi
      have hcc := PM.out.row.cell (j := i) (by simp [intsU, hp.out.2]; omega)
      have hf := PM.out.row.free i
      clear hcc
      cases y
      case false =>
        have HBC : Hid (p = none ∧ b = c') := by
          have e := hp.out.1
          rw [hq, upB_no hdr, HD.out] at e
          injection e with e1 e2
          exact ⟨e1, e2⟩
        clear hdr hle hq hM hx hp hz hkm hn64
        go_wp2_with fail
        refine (bdraw_ok PM.out.cur HO.out HCS.out M MB.out M1.out HDR.out).mono ?_
        rintro e w3 ⟨rfl, mv1, c1⟩
        have MV1 := Lib.hid (PM.out.mv.trans mv1)
        have C1 := Lib.hid c1
        clear mv1 c1 hwz hwM
        go_wp2_with fail
        go_ret2
        obtain ⟨e1, e2⟩ := HBC.out
        subst e1 e2
        exact RetPl.none (y := false) rfl MV1.out C1.out
      have HREL : Hid (upB S.data.toList m k a = preU (out ++ [x]) (upB S.data.toList (m - (i + 1)) (k + (i + 1)) c') ∧ (out ++ [x]).length = i + 1) := by
        refine ⟨?_, by simp [hp.out.2]⟩
        rw [hp.out.1, hq, upB_yes hdr, preU_app, show m - (i + 1) = q by omega]
        rfl
      have HCS' : Hid (c' ≤ S.size) := by show _ ≤ _; rw [HSZ.out]; exact hle.2
      have HL := Lib.hid hp.out.2
      clear hdr hle hq hM hx hp hz hkm hn64
      go_wp2_with fail
      refine (bdraw_ok PM.out.cur HO.out HCS.out M MB.out M1.out HDR.out).mono ?_
      rintro e w3 ⟨rfl, mv1, c1⟩
      have PM1 := Lib.hid (PM.out.move mv1 c1)
      have hcc := PM1.out.row.cell (j := i) (by simp [intsU, HL.out]; have := HKK.out; omega)
      have hf := PM1.out.row.free i
      have PM2 := Lib.hid (PM1.out.set HL.out HKK.out x)
      clear mv1 c1 hwz hwM
      go_wp2_with fail
      exact ⟨⟨i + 1, c', out ++ [x], by go_num, HKK.out, HCS'.out, HREL.out, PM2.out⟩, by simp [intOf]; have := HKK.out; omega⟩
    · have ek : m = i := by omega
      subst ek
      have HE : Hid (p = some out ∧ b = c) := by
        have e := hp.out.1
        rw [Nat.sub_self, HD.out] at e
        simp only [upB, preU, List.append_nil] at e
        injection e with e1 e2
        exact ⟨e1, e2⟩
      obtain ⟨e1, e2⟩ := HE.out
      subst e1 e2
      have hok := upB_ok m k a HD.out
      have HOK := Lib.hid hok.2
      have HL := Lib.hid hok.1
      have ROW : Hid (Ints wr (.slice (some ⟨g, 0, none⟩) m m) (intsU out)) := by
        have := PM.out.row.ownI.ints
        rwa [HL.out, Nat.sub_self, List.replicate_zero, List.append_nil, intsU_length, HL.out] at this
      have JL : Hid ((intsU out).length = n - k) := by show _ = _; rw [intsU_length, HL.out]; exact MNK.out
      clear hp hok hi him HE
      go_wp2_with fail
      refine (plrow_ok ROW.out k n KN.out N64.out JL.out HOK.out).mono ?_
      rintro e w5 ⟨g5, gc, rfl, hg, hr, x5⟩
      have OZ : Hid (OwnZ 3 w.heap.size w5 (.slice (some ⟨g5, 0, none⟩) k gc) (poolF k (intsU out))) := by
        have := hr.1.ownZ (Nat.le_trans PM.out.mv.size hg) hr.2
        rwa [poolF_length] at this
      have MV := Lib.hid (PM.out.mv.tail' x5 (Nat.le_of_lt PM.out.cur.lt))
      have CU := Lib.hid (PM.out.cur.ext x5)
      clear hg hr x5
      go_wp2_with fail
      go_ret2
      exact ⟨_, rfl, OZ.out, MV.out, CU.out⟩

set_option maxHeartbeats 2000000 in
set_option maxRecDepth 100000 in
/-- so many out of so many may not be drawn -/
theorem pldraw_bad (w : World) (v : Value) (k n : Int) (h : ¬ mayP k n) :
    Calls Try.prog 11 #[v, .int .i64 k, .int .i64 n] w fun e w' => e = .returned (.tuple #[.slice none 0 0, .bool false]) ∧ Ext w w' := by
  have MAY : Hid (decide (mayP k n) = false) := by show _ = _; rw [decide_eq_false_iff_not]; exact h
  clear h
  go_enter Try.func11, Try.ntmps11
  go_wp2_with fail
  refine (pmay_calls _ _ _ false MAY.out).mono ?_
  rintro e w1 ⟨rfl, x1⟩
  have X1 := Lib.hid x1
  clear x1
  go_wp2_with fail
  go_ret2
  exact ⟨rfl, X1.out⟩
set_option maxHeartbeats 2000000 in
set_option maxRecDepth 100000 in
/-- all of them: whatever the cursor -/
theorem pldraw_full (w : World) (v : Value) (n : Nat) (hn : n ≤ 64) :
    Calls Try.prog 11 #[v, .int .i64 (n : Int), .int .i64 (n : Int)] w fun e w' => ∃ r, e = .returned (.tuple #[r, .bool true]) ∧ OwnZ 3 w.heap.size w' r (poolF n []) ∧ Ext w w' := by
  have N64 := Lib.hid hn
  have t2 : (n : Int) ≤ 64 := by omega
  have MAY : Hid (decide (mayP (n : Int) (n : Int)) = true) := by show _ = _; rw [decide_eq_true_eq]; unfold mayP; omega
  have hwm : IntKind.i64.wrap ((n : Int) - n) = 0 := by rw [IntWalk.i64_in _ (by omega)]; omega
  clear hn
  go_enter Try.func11, Try.ntmps11
  go_wp2_with fail
  refine (pmay_calls _ _ _ true MAY.out).mono ?_
  rintro e w1 ⟨rfl, x1⟩
  have X1 := Lib.hid x1
  clear x1
  go_wp2_with (at_make; refine make_ints rfl _ _ 24 3 Try.underlying24 info_int rfl 0 _ rfl rfl rfl (by decide) ?_; intro w2 hown hgrow; have X2 : Hid (Ext w w2) := X1.out.grown hgrow (fun k hk => by cases hk); have R2 : Hid (RowG 3 w1.heap.size 0 (List.replicate 0 0) w2) := RowG.made hown (by simp); clear hown hgrow)
  obtain ⟨g, hg⟩ : ∃ g, w1.heap.size = g := ⟨_, rfl⟩
  rw [hg] at R2 ⊢
  have ROW : Hid (Ints w2 (.slice (some ⟨g, 0, none⟩) 0 0) []) := R2.out.ownI.ints
  clear hg hwm R2
  refine wp_loop_rounds 1 ?_
  rw [rounds_succ]
  go_wp2_with fail
  refine (plrow_ok ROW.out n n (Nat.le_refl _) N64.out (by simp) trivial).mono ?_
  rintro e w5 ⟨g5, gc, rfl, hg, hr, x5⟩
  have OZ : Hid (OwnZ 3 w.heap.size w5 (.slice (some ⟨g5, 0, none⟩) n gc) (poolF n [])) := by
    have := hr.1.ownZ (Nat.le_trans X2.out.size hg) hr.2
    rwa [poolF_length] at this
  have X5 := Lib.hid (X2.out.trans x5)
  clear hg hr x5
  go_wp2_with fail
  go_ret2
  exact ⟨_, rfl, OZ.out, X5.out⟩
set_option maxHeartbeats 2000000 in
set_option maxRecDepth 100000 in
/-- when the bits are over -/
theorem pldraw_over {S : ByteArray} {t a : Nat} {w : World} (hc : Cur S t a true w) (k n : Nat) (hkn : k < n) (hn : n ≤ 64) :
    Calls Try.prog 11 #[.pointer (some ⟨t, 0, none⟩), .int .i64 (k : Int), .int .i64 (n : Int)] w fun e w' => e = .returned (.tuple #[.slice none 0 0, .bool false]) ∧ Ext w w' := by
  have HC := Lib.hid hc
  obtain ⟨m, hm⟩ : ∃ m, n - k = m := ⟨_, rfl⟩
  obtain ⟨M, hM⟩ : ∃ M, k + 1 = M := ⟨_, rfl⟩
  have t1 : (k : Int) ≤ 63 := by omega
  have t2 : (n : Int) ≤ 64 := by omega
  have t3 : (m : Int) ≤ 64 := by omega
  have t4 : (1 : Int) ≤ m := by omega
  have t5 : (M : Int) ≤ 64 := by omega
  have KL : Hid (m ≤ 100000) := by show m ≤ 100000; omega
  have MB : Hid (M < Bs) := by show M < Bs; rw [Bs_def]; omega
  have MAY : Hid (decide (mayP (k : Int) (n : Int)) = true) := by show _ = _; rw [decide_eq_true_eq]; unfold mayP; omega
  have hwm : IntKind.i64.wrap ((n : Int) - k) = (m : Int) := by rw [IntWalk.i64_in _ (by omega)]; omega
  have hwz : IntKind.i64.wrap (k : Int) = (k : Int) := by rw [IntWalk.i64_in _ (by omega)]
  have hwM : IntKind.i64.wrap ((k : Int) + 1) = (M : Int) := by rw [IntWalk.i64_in _ (by omega)]; omega
  clear hc hkn hn hm hM
  go_enter Try.func11, Try.ntmps11
  go_wp2_with fail
  refine (pmay_calls _ _ _ true MAY.out).mono ?_
  rintro e w1 ⟨rfl, x1⟩
  have X1 := Lib.hid x1
  clear x1
  go_wp2_with (at_make; refine make_ints rfl _ _ 24 3 Try.underlying24 info_int rfl m _ rfl rfl rfl KL.out ?_; intro w2 hown hgrow; have X2 : Hid (Ext w w2) := X1.out.grown hgrow (fun k hk => by cases hk); clear hown hgrow)
  clear hwm
  refine wp_loop_rounds 1 ?_
  rw [rounds_succ]
  go_wp2_with fail
  refine (bdraw_over (HC.out.ext X2.out) M MB.out).mono ?_
  rintro e w3 ⟨rfl, x3⟩
  have X3 := Lib.hid (X2.out.trans x3)
  clear x3
  go_wp2_with fail
  go_ret2
  exact ⟨rfl, X3.out⟩
set_option maxHeartbeats 2000000 in
set_option maxRecDepth 100000 in
/-- by nobody's cursor -/
theorem pldraw_nil (w : World) (k n : Nat) (hkn : k < n) (hn : n ≤ 64) :
    Calls Try.prog 11 #[.pointer none, .int .i64 (k : Int), .int .i64 (n : Int)] w fun e w' => e = .returned (.tuple #[.slice none 0 0, .bool false]) ∧ Ext w w' := by
  obtain ⟨m, hm⟩ : ∃ m, n - k = m := ⟨_, rfl⟩
  obtain ⟨M, hM⟩ : ∃ M, k + 1 = M := ⟨_, rfl⟩
  have t1 : (k : Int) ≤ 63 := by omega
  have t2 : (n : Int) ≤ 64 := by omega
  have t3 : (m : Int) ≤ 64 := by omega
  have t4 : (1 : Int) ≤ m := by omega
  have t5 : (M : Int) ≤ 64 := by omega
  have KL : Hid (m ≤ 100000) := by show m ≤ 100000; omega
  have MB : Hid (M < Bs) := by show M < Bs; rw [Bs_def]; omega
  have MAY : Hid (decide (mayP (k : Int) (n : Int)) = true) := by show _ = _; rw [decide_eq_true_eq]; unfold mayP; omega
  have hwm : IntKind.i64.wrap ((n : Int) - k) = (m : Int) := by rw [IntWalk.i64_in _ (by omega)]; omega
  have hwz : IntKind.i64.wrap (k : Int) = (k : Int) := by rw [IntWalk.i64_in _ (by omega)]
  have hwM : IntKind.i64.wrap ((k : Int) + 1) = (M : Int) := by rw [IntWalk.i64_in _ (by omega)]; omega
  clear hkn hn hm hM
  go_enter Try.func11, Try.ntmps11
  go_wp2_with fail
  refine (pmay_calls _ _ _ true MAY.out).mono ?_
  rintro e w1 ⟨rfl, x1⟩
  have X1 := Lib.hid x1
  clear x1
  go_wp2_with (at_make; refine make_ints rfl _ _ 24 3 Try.underlying24 info_int rfl m _ rfl rfl rfl KL.out ?_; intro w2 hown hgrow; have X2 : Hid (Ext w w2) := X1.out.grown hgrow (fun k hk => by cases hk); clear hown hgrow)
  clear hwm
  refine wp_loop_rounds 1 ?_
  rw [rounds_succ]
  go_wp2_with fail
  refine (bdraw_nil _ M MB.out).mono ?_
  rintro e w3 ⟨rfl, x3⟩
  have X3 := Lib.hid (X2.out.trans x3)
  clear x3
  go_wp2_with fail
  go_ret2
  exact ⟨rfl, X3.out⟩

/-- what is drawn: the pool, whether it is one, the bits read, whether they are over -/
def plRes (l : List UInt8) (k n : Int) (a : Nat) (ov : Bool) : List Int × Bool × Nat × Bool :=
  if ¬ mayP k n then ([], false, a, ov)
  else if k = n then (poolF n.toNat [], true, a, ov)
  else if ov = true then ([], false, a, true)
  else match upB l (n.toNat - k.toNat) k.toNat a with
    | (some vs, b) => (poolF k.toNat (intsU vs), true, b, false)
    | (none, b) => ([], false, b, true)
theorem pldraw_all {S : ByteArray} {t a a' : Nat} {ov ov' y : Bool} {w : World} {L : List Int} (hc : Cur S t a ov w) (ho : okS S.data.toList = true) (ha : a ≤ S.size) (k n : Int) (hr : plRes S.data.toList k n a ov = (L, y, a', ov')) :
    Calls Try.prog 11 #[.pointer (some ⟨t, 0, none⟩), .int .i64 k, .int .i64 n] w (RetPl S t a' L y ov' w) := by
  have hm : ∀ {w'}, Ext w w' → Mv t w w' := fun h => h.mv (Nat.le_of_lt hc.lt)
  unfold plRes at hr
  split at hr
  · rename_i h
    obtain ⟨rfl, rfl, rfl, rfl⟩ : L = [] ∧ y = false ∧ a' = a ∧ ov' = ov := by simp only [Prod.mk.injEq] at hr; exact ⟨hr.1.symm, hr.2.1.symm, hr.2.2.1.symm, hr.2.2.2.symm⟩
    exact (pldraw_bad w _ k n h).mono fun e w' ⟨h1, h2⟩ => .none h1 (hm h2) (hc.ext h2)
  rename_i h
  have h := Decidable.of_not_not h
  have h' := h
  unfold mayP at h'
  obtain ⟨kk, rfl⟩ : ∃ kk : Nat, k = (kk : Int) := ⟨k.toNat, by omega⟩
  obtain ⟨nn, rfl⟩ : ∃ nn : Nat, n = (nn : Int) := ⟨n.toNat, by omega⟩
  split at hr
  · rename_i e
    have e : kk = nn := by omega
    subst e
    obtain ⟨rfl, rfl, rfl, rfl⟩ : L = poolF kk [] ∧ y = true ∧ a' = a ∧ ov' = ov := by simp only [Prod.mk.injEq] at hr; exact ⟨hr.1.symm, hr.2.1.symm, hr.2.2.1.symm, hr.2.2.2.symm⟩
    exact (pldraw_full w _ kk (by omega)).mono fun e w' ⟨r, h1, h2, h3⟩ => ⟨r, h1, h2, hm h3, hc.ext h3⟩
  split at hr
  · rename_i e; subst e
    obtain ⟨rfl, rfl, rfl, rfl⟩ : L = [] ∧ y = false ∧ a' = a ∧ ov' = true := by simp only [Prod.mk.injEq] at hr; exact ⟨hr.1.symm, hr.2.1.symm, hr.2.2.1.symm, hr.2.2.2.symm⟩
    exact (pldraw_over hc kk nn (by omega) (by omega)).mono fun e w' ⟨h1, h2⟩ => .none h1 (hm h2) (hc.ext h2)
  rename_i e
  obtain rfl : ov = false := by simpa using e
  simp only [Int.toNat_natCast] at hr
  rcases hq : upB S.data.toList (nn - kk) kk a with ⟨_ | vs, b⟩
  · rw [hq] at hr
    obtain ⟨rfl, rfl, rfl, rfl⟩ : L = [] ∧ y = false ∧ a' = b ∧ ov' = true := by simp only [Prod.mk.injEq] at hr; exact ⟨hr.1.symm, hr.2.1.symm, hr.2.2.1.symm, hr.2.2.2.symm⟩
    exact pldraw_up hc ho ha kk nn (by omega) (by omega) hq
  · rw [hq] at hr
    obtain ⟨rfl, rfl, rfl, rfl⟩ : L = poolF kk (intsU vs) ∧ y = true ∧ a' = b ∧ ov' = false := by simp only [Prod.mk.injEq] at hr; exact ⟨hr.1.symm, hr.2.1.symm, hr.2.2.1.symm, hr.2.2.2.symm⟩
    exact pldraw_up hc ho ha kk nn (by omega) (by omega) hq
end Go.Proofs.Ytefeglkbikcjeaa

/- The contract of pool.Cost. -/
namespace Go.Proofs.Ytefeglkbikcjeaa
open Go Go.RowKit

/-- what the draws below k + 1, k + 2, .. cost -/
noncomputable def costTo (k : Nat) : Nat → Rat
  | 0 => 0
  | j + 1 => costTo k j + costQ (k + j + 1)
theorem costTo_len (k : Nat) : ∀ {j : Nat}, k + j < Bs → LenR (3 * j + 1) (costTo k j)
  | 0, _ => lenR_zero
  | j + 1, h => by
    have h1 := costTo_len k (j := j) (by omega)
    rw [costTo]
    exact (LenR.add h1 (costQ_len (by omega))).mono (by omega)
/-- a box that holds a fraction in memory of the call's own -/
def BoxP (B s : Nat) (q : Rat) (w : World) : Prop := ∃ b p n c p' n' c' m d, At s 0 (.bool b) w ∧ At s 1 (.slice p n c) w ∧ At s 2 (.slice p' n' c') w ∧ Bx 3 s w ∧ IsR w b (.slice p n c) (.slice p' n' c') m d q ∧ OwnR B w (.slice p n c) (.slice p' n' c') m d
theorem BoxP.mk {B s : Nat} {q : Rat} {w : World} {b : Bool} {p p' : Option Addr} {n c n' c' m d : Nat} (h0 : At s 0 (.bool b) w) (h1 : At s 1 (.slice p n c) w) (h2 : At s 2 (.slice p' n' c') w) (hb : Bx 3 s w) (hr : IsR w b (.slice p n c) (.slice p' n' c') m d q) (ho : OwnR B w (.slice p n c) (.slice p' n' c') m d) : BoxP B s q w := ⟨_, _, _, _, _, _, _, _, _, h0, h1, h2, hb, hr, ho⟩
/-- in the midst of Cost's loop -/
structure PlMem (w : World) (s2 s4 : Nat) (q : Rat) (wr : World) : Prop where
  ext : Ext w wr
  z0 : At s2 0 (.bool false) wr
  z1 : At s2 1 (.slice none 0 0) wr
  z2 : At s2 2 (.slice none 0 0) wr
  bz : Bx 3 s2 wr
  box : BoxP w.heap.size s4 q wr

set_option maxHeartbeats 8000000 in
set_option maxRecDepth 100000 in
theorem plcost_is (w : World) (k n : Nat) (hkn : k ≤ n) (hn : n ≤ 64) (j : Nat) (hj : n - k = j) : Calls Try.prog 7 #[.int .i64 (k : Int), .int .i64 (n : Int)] w (RetR0 w (costTo k j)) := by
  have t1 : (n : Int) ≤ 64 := by omega
  have t0 : (k : Int) ≤ 64 := by omega
  have HN := Lib.hid hn
  have HJ : Hid (k + j = n) := by show _ = _; omega
  have MAY : Hid (decide (mayP (k : Int) (n : Int)) = true) := by show _ = _; rw [decide_eq_true_eq]; unfold mayP; omega
  have hw1 : IntKind.i64.wrap ((k : Int) + 1) = ((k + 1 + 0 : Nat) : Int) := by rw [IntWalk.i64_in _ (by omega)]; omega
  clear hn hkn hj
  go_enter Try.func7, Try.ntmps7
  go_wp2_with fail
  obtain ⟨v1, hv1⟩ : ∃ W, W = (w.alloc (.cells #[.bool false, .slice none 0 0, .slice none 0 0] 36)) := ⟨_, rfl⟩
  have y1 : Ext w v1 := by rw [hv1]; exact ((Ext.refl _).alloc _)
  have b0_0 : Hid (At (w.heap.size) 0 (.bool false) v1) := by rw [hv1]; exact At.ext (At.n0 (by rfl)) (Ext.refl _)
  have b0_1 : Hid (At (w.heap.size) 1 (.slice none 0 0) v1) := by rw [hv1]; exact At.ext (At.n0 (by rfl)) (Ext.refl _)
  have b0_2 : Hid (At (w.heap.size) 2 (.slice none 0 0) v1) := by rw [hv1]; exact At.ext (At.n0 (by rfl)) (Ext.refl _)
  have k0 : Hid (Bx 3 (w.heap.size) v1) := by rw [hv1]; exact Bx.gr (Bx.n0 3 ⟨rfl, by decide⟩ (by decide) noI_s3) (Ext.gr (Ext.refl _))
  have u0 : Hid (w.heap.size < v1.heap.size) := b0_0.out.2
  have e1_ : Ext w v1 := y1
  rw [← hv1]
  clear hv1
  refine (pmay_calls _ (k : Int) (n : Int) true MAY.out).mono ?_
  rintro e w2 ⟨rfl, x2⟩
  have e2_ : Ext w w2 := Ext.trans e1_ x2
  go_wp2_with fail
  refine (rof_is _ 0 (by decide) (by decide)).mono ?_
  rintro e w3 ⟨sb2, sv2, su2, sm2, sd2, rfl, e2, o2, x3⟩
  have e3_ : Ext w w3 := Ext.trans e2_ x3
  obtain ⟨sp2, sl2, sc2, tp2, tl2, tc2, rfl, rfl⟩ := e2.slice
  go_wp2_with fail
  obtain ⟨v4, hv4⟩ : ∃ W, W = (w3.alloc (.cells #[.bool sb2, .slice sp2 sl2 sc2, .slice tp2 tl2 tc2] 36)) := ⟨_, rfl⟩
  have y4 : Ext w3 v4 := by rw [hv4]; exact ((Ext.refl _).alloc _)
  have b1_0 : Hid (At (w3.heap.size) 0 (.bool sb2) v4) := by rw [hv4]; exact At.ext (At.n0 (by rfl)) (Ext.refl _)
  have b1_1 : Hid (At (w3.heap.size) 1 (.slice sp2 sl2 sc2) v4) := by rw [hv4]; exact At.ext (At.n0 (by rfl)) (Ext.refl _)
  have b1_2 : Hid (At (w3.heap.size) 2 (.slice tp2 tl2 tc2) v4) := by rw [hv4]; exact At.ext (At.n0 (by rfl)) (Ext.refl _)
  have k1 : Hid (Bx 3 (w3.heap.size) v4) := by rw [hv4]; exact Bx.gr (Bx.n0 3 ⟨rfl, by decide⟩ (by decide) noI_s3) (Ext.gr (Ext.refl _))
  have u1 : Hid (w3.heap.size < v4.heap.size) := b1_0.out.2
  have e4_ : Ext w v4 := Ext.trans e3_ y4
  rw [← hv4]
  clear hv4
  clear hw1
  have NE := Lib.hid (show (w.heap.size) ≠ (w3.heap.size) from (by (try dsimp only); have h1 := u0.out; have h2 := (x2.gr.trans x3.gr).size; have h3 := Nat.le_refl 0; omega))
  have LB2 := Lib.hid (show w.heap.size ≤ (w.heap.size) from (by omega))
  have LB4 := Lib.hid (show w.heap.size ≤ (w3.heap.size) from (by have := e3_.size; omega))
  have P0 : Hid (PlMem w (w.heap.size) (w3.heap.size) (costTo k 0) v4) := ⟨e4_, (b0_0.out.ext (x2.trans (x3.trans y4))), (b0_1.out.ext (x2.trans (x3.trans y4))), (b0_2.out.ext (x2.trans (x3.trans y4))), (k0.out.gr (x2.gr.trans (x3.gr.trans y4.gr))), BoxP.mk b1_0.out b1_1.out b1_2.out k1.out (show IsR _ _ _ _ _ _ (costTo k 0) from (e2.ext y4)) ((o2.ext y4).mono e2_.size)⟩
  obtain ⟨s6, hs6⟩ : ∃ s6, (w3.heap.size) = s6 := ⟨_, rfl⟩
  rw [hs6] at NE LB4 P0
  (try rw [hs6])
  clear hs6
  go_loopw [7] (fun v7 wr => ∃ i : Nat, v7 = .int .i64 ((k + 1 + i : Nat) : Int) ∧ i ≤ j ∧ PlMem w (w.heap.size) s6 (costTo k i) wr) (fun v7 _ => n + 1 - (intOf v7).toNat)
  case atStart => exact ⟨0, rfl, Nat.zero_le _, P0.out⟩
  case round =>
    obtain ⟨i, rfl, hin, hP⟩ := hrel
    obtain ⟨hx, h0, h1, h2, hz, qb, qp, qn, qc, qp', qn', qc', qm, qd, c0, c1, c2, cb, cr, co⟩ := hP
    have XX := Lib.hid hx
    have b100_0 := Lib.hid h0
    have b100_1 := Lib.hid h1
    have b100_2 := Lib.hid h2
    have k100 := Lib.hid hz
    have u100 := Lib.hid hz.lt
    have b102_0 := Lib.hid c0
    have b102_1 := Lib.hid c1
    have b102_2 := Lib.hid c2
    have k102 := Lib.hid cb
    have u102 := Lib.hid cb.lt
    have QR := Lib.hid cr
    have QO := Lib.hid co
    clear hx h0 h1 h2 hz c0 c1 c2 cb cr co
    obtain ⟨m, hm⟩ : ∃ m, k + 1 + i = m := ⟨_, rfl⟩
    have HM := Lib.hid hm
    have hji := HJ.out
    have hn64 := HN.out
    by_cases hni : i < j
    · have t2 : (m : Int) ≤ n := by omega
      have t3 : (1 : Int) ≤ m := by omega
      have MB : Hid (m < Bs) := by show m < Bs; rw [Bs_def]; omega
      have M1 : Hid (1 ≤ m) := by show 1 ≤ m; omega
      have PL : Hid (k + i < Bs) := by show k + i < Bs; rw [Bs_def]; omega
      have K1 : Hid (3 * i + 1 + 2 ≤ 30000) := by show _ ≤ 30000; omega
      have LT : Hid (i + 1 ≤ j) := hni
      have MN : Hid (m ≤ n) := by show m ≤ n; omega
      have hwm : IntKind.i64.wrap ((m : Int) + 1) = ((k + 1 + (i + 1) : Nat) : Int) := by rw [IntWalk.i64_in _ (by omega)]; omega
      rw [hm]
      clear hin hm hni hji hn64
      go_wp2_with fail
      refine (bcost_is m MB.out M1.out).mono ?_
      rintro e w1 ⟨sb1, sv1, su1, sm1, sd1, rfl, e1, o1, x1⟩
      have e1_ : Ext w w1 := Ext.trans XX.out x1
      obtain ⟨sp1, sl1, sc1, tp1, tl1, tc1, rfl, rfl⟩ := e1.slice
      have g102_0 := (b102_0.out.ext x1).1
      have g102_1 := (b102_1.out.ext x1).1
      have g102_2 := (b102_2.out.ext x1).1
      have f102 : s6 < w1.heap.size := (b102_0.out.ext x1).2
      go_wp2_with fail
      obtain ⟨v2, hv2⟩ : ∃ W, W = (w1.alloc (.cells #[.bool sb1, .slice sp1 sl1 sc1, .slice tp1 tl1 tc1] 36)) := ⟨_, rfl⟩
      have y2 : Ext w1 v2 := by rw [hv2]; exact ((Ext.refl _).alloc _)
      have b0_0 : Hid (At (w1.heap.size) 0 (.bool sb1) v2) := by rw [hv2]; exact At.ext (At.n0 (by rfl)) (Ext.refl _)
      have b0_1 : Hid (At (w1.heap.size) 1 (.slice sp1 sl1 sc1) v2) := by rw [hv2]; exact At.ext (At.n0 (by rfl)) (Ext.refl _)
      have b0_2 : Hid (At (w1.heap.size) 2 (.slice tp1 tl1 tc1) v2) := by rw [hv2]; exact At.ext (At.n0 (by rfl)) (Ext.refl _)
      have k0 : Hid (Bx 3 (w1.heap.size) v2) := by rw [hv2]; exact Bx.gr (Bx.n0 3 ⟨rfl, by decide⟩ (by decide) noI_s3) (Ext.gr (Ext.refl _))
      have u0 : Hid (w1.heap.size < v2.heap.size) := b0_0.out.2
      have e2_ : Ext w v2 := Ext.trans e1_ y2
      rw [← hv2]
      clear hv2
      refine (radd_is ((QR.out.ext (x1.trans y2)).inR (k := (3 * i + 1)) (costTo_len k PL.out)) ((e1.ext y2).inR (k := 2) (costQ_len MB.out)) K1.out).mono ?_
      rintro e w3 ⟨sb2, sv2, su2, sm2, sd2, rfl, e2, o2, x3⟩
      have e3_ : Ext w w3 := Ext.trans e2_ x3
      obtain ⟨sp2, sl2, sc2, tp2, tl2, tc2, rfl, rfl⟩ := e2.slice
      clear g102_0 g102_1 g102_2 f102
      have g102_0 := (b102_0.out.ext (x1.trans (y2.trans x3))).1
      have g102_1 := (b102_1.out.ext (x1.trans (y2.trans x3))).1
      have g102_2 := (b102_2.out.ext (x1.trans (y2.trans x3))).1
      have z102_0 := (k102.out.gr (x1.gr.trans (y2.gr.trans x3.gr))).free 0
      have z102_1 := (k102.out.gr (x1.gr.trans (y2.gr.trans x3.gr))).free 1
      have z102_2 := (k102.out.gr (x1.gr.trans (y2.gr.trans x3.gr))).free 2
      have f102 : s6 < w3.heap.size := (b102_0.out.ext (x1.trans (y2.trans x3))).2
      go_wp2_with fail
      obtain ⟨v4, hv4⟩ : ∃ W, W = (((w3.setCell ⟨s6, 0, none⟩ (.bool sb2)).setCell ⟨s6, 1, none⟩ (.slice sp2 sl2 sc2)).setCell ⟨s6, 2, none⟩ (.slice tp2 tl2 tc2)) := ⟨_, rfl⟩
      have sv4 : v4 = setRow (s6) 0 [.bool sb2, .slice sp2 sl2 sc2, .slice tp2 tl2 tc2] w3 := hv4
      have uv4 := setRow_bx' (o := 0) (cs := [.bool sb2, .slice sp2 sl2 sc2, .slice tp2 tl2 tc2]) (k102.out.gr (x1.gr.trans (y2.gr.trans x3.gr))) (by simp) noI_s3
      have y4 : Gr w3 v4 := by rw [sv4]; exact setRow_gr' (o := 0) (cs := [.bool sb2, .slice sp2 sl2 sc2, .slice tp2 tl2 tc2]) (k102.out.gr (x1.gr.trans (y2.gr.trans x3.gr))) (by simp) noI_s3
      have t4 : Hid (∀ t o u, t ≠ (s6) → At t o u w3 → At t o u v4) := fun t o u h k => by rw [sv4]; exact k.setRow h _ _
      have e4_ : Ext w v4 := by rw [sv4]; exact setRow_below _ _ LB4.out _ _ e3_
      have b102_0 : Hid (At (s6) 0 (.bool sb2) v4) := by rw [sv4]; exact uv4.2.1 0 _ rfl
      have b102_1 : Hid (At (s6) 1 (.slice sp2 sl2 sc2) v4) := by rw [sv4]; exact uv4.2.1 1 _ rfl
      have b102_2 : Hid (At (s6) 2 (.slice tp2 tl2 tc2) v4) := by rw [sv4]; exact uv4.2.1 2 _ rfl
      have k102 : Hid (Bx 3 (s6) v4) := by rw [sv4]; exact uv4.1
      rw [← hv4]
      clear hv4 sv4 uv4
      refine ⟨⟨i + 1, by first | rfl | go_num, LT.out, ⟨e4_, (t4.out _ _ _ NE.out (b100_0.out.ext (x1.trans (y2.trans x3)))), (t4.out _ _ _ NE.out (b100_1.out.ext (x1.trans (y2.trans x3)))), (t4.out _ _ _ NE.out (b100_2.out.ext (x1.trans (y2.trans x3)))), (k100.out.gr (x1.gr.trans (y2.gr.trans (x3.gr.trans y4)))), ?_⟩⟩, by simp [intOf]; have := HM.out; have := MN.out; omega⟩
      have hq : costTo k (i + 1) = costTo k i + costQ m := by rw [costTo, show k + i + 1 = m by have := HM.out; omega]
      rw [hq]
      exact BoxP.mk b102_0.out b102_1.out b102_2.out k102.out (e2.gr y4) ((o2.gr y4).mono e2_.size)
    · obtain rfl : j = i := by omega
      have t2 : (n : Int) + 1 ≤ m := by omega
      rw [hm]
      clear hin hni hm hji hn64
      have g102_0 := b102_0.out.1
      have g102_1 := b102_1.out.1
      have g102_2 := b102_2.out.1
      have g100_0 := b100_0.out.1
      have g100_1 := b100_1.out.1
      have g100_2 := b100_2.out.1
      have z100_0 := k100.out.free 0
      have z100_1 := k100.out.free 1
      have z100_2 := k100.out.free 2
      have f102 : s6 < wr.heap.size := b102_0.out.2
      have f100 : w.heap.size < wr.heap.size := b100_0.out.2
      have n100_102 : w.heap.size ≠ s6 := NE.out
      have n102_100 : s6 ≠ w.heap.size := Ne.symm n100_102
      go_wp2_with fail
      obtain ⟨v1, hv1⟩ : ∃ W, W = (((wr.setCell ⟨w.heap.size, 0, none⟩ (.bool qb)).setCell ⟨w.heap.size, 1, none⟩ (.slice qp qn qc)).setCell ⟨w.heap.size, 2, none⟩ (.slice qp' qn' qc')) := ⟨_, rfl⟩
      have sv1 : v1 = setRow (w.heap.size) 0 [.bool qb, .slice qp qn qc, .slice qp' qn' qc'] wr := hv1
      have uv1 := setRow_bx' (o := 0) (cs := [.bool qb, .slice qp qn qc, .slice qp' qn' qc']) k100.out (by simp) noI_s3
      have y1 : Gr wr v1 := by rw [sv1]; exact setRow_gr' (o := 0) (cs := [.bool qb, .slice qp qn qc, .slice qp' qn' qc']) k100.out (by simp) noI_s3
      have t1 : Hid (∀ t o u, t ≠ (w.heap.size) → At t o u wr → At t o u v1) := fun t o u h k => by rw [sv1]; exact k.setRow h _ _
      have e1_ : Ext w v1 := by rw [sv1]; exact setRow_below _ _ LB2.out _ _ XX.out
      have b100_0 : Hid (At (w.heap.size) 0 (.bool qb) v1) := by rw [sv1]; exact uv1.2.1 0 _ rfl
      have b100_1 : Hid (At (w.heap.size) 1 (.slice qp qn qc) v1) := by rw [sv1]; exact uv1.2.1 1 _ rfl
      have b100_2 : Hid (At (w.heap.size) 2 (.slice qp' qn' qc') v1) := by rw [sv1]; exact uv1.2.1 2 _ rfl
      have k100 : Hid (Bx 3 (w.heap.size) v1) := by rw [sv1]; exact uv1.1
      rw [← hv1]
      clear hv1 sv1 uv1
      have c0 := b100_0.out.1
      have c1 := b100_1.out.1
      have c2 := b100_2.out.1
      refine bodyPost_ret (v := .tuple #[.agg #[.bool qb, .slice qp qn qc, .slice qp' qn' qc'], .int .i64 0]) (by simp [results, Try.results7, go_sem, c0, c1, c2]) rfl ?_
      exact ⟨_, _, _, _, _, rfl, (QR.out.gr y1), ((QO.out.gr y1)), e1_⟩

set_option maxHeartbeats 8000000 in
set_option maxRecDepth 100000 in
theorem plcost_bad (w : World) (k n : Int) (hn : ¬ mayP k n) : Calls Try.prog 7 #[.int .i64 k, .int .i64 n] w (RetRE w 1) := by
  have MAY : Hid (decide (mayP k n) = false) := by show _ = _; rw [decide_eq_false_iff_not]; exact hn
  clear hn
  go_enter Try.func7, Try.ntmps7
  go_wp2_with fail
  obtain ⟨v1, hv1⟩ : ∃ W, W = (w.alloc (.cells #[.bool false, .slice none 0 0, .slice none 0 0] 36)) := ⟨_, rfl⟩
  have y1 : Ext w v1 := by rw [hv1]; exact ((Ext.refl _).alloc _)
  have b0_0 : Hid (At (w.heap.size) 0 (.bool false) v1) := by rw [hv1]; exact At.ext (At.n0 (by rfl)) (Ext.refl _)
  have b0_1 : Hid (At (w.heap.size) 1 (.slice none 0 0) v1) := by rw [hv1]; exact At.ext (At.n0 (by rfl)) (Ext.refl _)
  have b0_2 : Hid (At (w.heap.size) 2 (.slice none 0 0) v1) := by rw [hv1]; exact At.ext (At.n0 (by rfl)) (Ext.refl _)
  have k0 : Hid (Bx 3 (w.heap.size) v1) := by rw [hv1]; exact Bx.gr (Bx.n0 3 ⟨rfl, by decide⟩ (by decide) noI_s3) (Ext.gr (Ext.refl _))
  have u0 : Hid (w.heap.size < v1.heap.size) := b0_0.out.2
  have e1_ : Ext w v1 := y1
  rw [← hv1]
  clear hv1
  refine (pmay_calls _ k n false MAY.out).mono ?_
  rintro e w2 ⟨rfl, x2⟩
  have e2_ : Ext w w2 := Ext.trans e1_ x2
  have g0_0 := (b0_0.out.ext x2).1
  have g0_1 := (b0_1.out.ext x2).1
  have g0_2 := (b0_2.out.ext x2).1
  have z0_0 := (k0.out.gr x2.gr).free 0
  have z0_1 := (k0.out.gr x2.gr).free 1
  have z0_2 := (k0.out.gr x2.gr).free 2
  have f0 : w.heap.size < w2.heap.size := (b0_0.out.ext x2).2
  go_wp2_with fail
  obtain ⟨v3, hv3⟩ : ∃ W, W = (((w2.setCell ⟨w.heap.size, 0, none⟩ (.bool false)).setCell ⟨w.heap.size, 1, none⟩ (.slice none 0 0)).setCell ⟨w.heap.size, 2, none⟩ (.slice none 0 0)) := ⟨_, rfl⟩
  have sv3 : v3 = setRow (w.heap.size) 0 [.bool false, .slice none 0 0, .slice none 0 0] w2 := hv3
  have uv3 := setRow_bx' (o := 0) (cs := [.bool false, .slice none 0 0, .slice none 0 0]) (k0.out.gr x2.gr) (by simp) noI_s3
  have y3 : Gr w2 v3 := by rw [sv3]; exact setRow_gr' (o := 0) (cs := [.bool false, .slice none 0 0, .slice none 0 0]) (k0.out.gr x2.gr) (by simp) noI_s3
  have t3 : Hid (∀ t o u, t ≠ (w.heap.size) → At t o u w2 → At t o u v3) := fun t o u h k => by rw [sv3]; exact k.setRow h _ _
  have e3_ : Ext w v3 := by rw [sv3]; exact setRow_below _ _ (by omega) _ _ e2_
  have b0_0 : Hid (At (w.heap.size) 0 (.bool false) v3) := by rw [sv3]; exact uv3.2.1 0 _ rfl
  have b0_1 : Hid (At (w.heap.size) 1 (.slice none 0 0) v3) := by rw [sv3]; exact uv3.2.1 1 _ rfl
  have b0_2 : Hid (At (w.heap.size) 2 (.slice none 0 0) v3) := by rw [sv3]; exact uv3.2.1 2 _ rfl
  have k0 : Hid (Bx 3 (w.heap.size) v3) := by rw [sv3]; exact uv3.1
  rw [← hv3]
  clear hv3 sv3 uv3
  have c0 := b0_0.out.1
  have c1 := b0_1.out.1
  have c2 := b0_2.out.1
  refine bodyPost_ret (v := .tuple #[.agg #[.bool false, .slice none 0 0, .slice none 0 0], .int .i64 1]) (by simp [results, Try.results7, go_sem, c0, c1, c2]) rfl ?_
  exact ⟨rfl, e3_⟩
end Go.Proofs.Ytefeglkbikcjeaa

/- The contract of pool.Choose. -/
namespace Go.Proofs.Ytefeglkbikcjeaa
open Go Go.RowKit

theorem info_nat : (Try.prog.info? 30).map (fun i => (i.zero, i.size, i.bytes)) = some (some (.slice none 0 0), 1, 24) := by kernel_rfl
/-- k + 1 naturals in block g, each in memory of the call's own -/
def NatRow (B g k : Nat) (f : Nat → Nat) (w : World) : Prop :=
  ∃ cur : Array Value, w.heap[g]? = some (.cells cur 30 (0, 0)) ∧ cur.size = k + 1 ∧ ∀ i, i ≤ k → ∃ p n c, cur[i]? = some (.slice p n c) ∧ OwnL B w (.slice p n c) (dig (f i))
theorem NatRow.ext {B g k : Nat} {f : Nat → Nat} {w w' : World} (h : NatRow B g k f w) (x : Ext w w') : NatRow B g k f w' := by
  obtain ⟨cur, h1, h2, h3⟩ := h
  refine ⟨cur, by rw [x.block g (Array.getElem?_eq_some_iff.1 h1).1]; exact h1, h2, fun i hi => ?_⟩
  obtain ⟨p, n, c, q1, q2⟩ := h3 i hi
  exact ⟨p, n, c, q1, q2.ext x⟩
theorem NatRow.lt {B g k : Nat} {f : Nat → Nat} {w : World} (h : NatRow B g k f w) : g < w.heap.size := by
  obtain ⟨cur, h1, h2, h3⟩ := h
  exact (Array.getElem?_eq_some_iff.1 h1).1
theorem NatRow.cell {B g k : Nat} {f : Nat → Nat} {w : World} (h : NatRow B g k f w) {i : Nat} (hi : i ≤ k) : ∃ p n c, w.cell? ⟨g, i, none⟩ = some (.slice p n c) ∧ OwnL B w (.slice p n c) (dig (f i)) := by
  obtain ⟨cur, h1, h2, h3⟩ := h
  obtain ⟨p, n, c, q1, q2⟩ := h3 i hi
  exact ⟨p, n, c, by rw [cell_of_row w g i cur _ (0, 0) h1, q1], q2⟩
theorem NatRow.free {B g k : Nat} {f : Nat → Nat} {w : World} (h : NatRow B g k f w) (i : Nat) : w.frozen? ⟨g, i, none⟩ = false := by
  obtain ⟨cur, h1, h2, h3⟩ := h
  simp [World.frozen?, h1]
theorem OwnL.store {B g o : Nat} {w : World} {v u : Value} {A : List Nat} {cur : Array Value} {t : TypeId} (h : OwnL B w v A) (hg : w.heap[g]? = some (.cells cur t (0, 0))) (ht : t ≠ 49) : OwnL B (w.setCell ⟨g, o, none⟩ u) v A := by
  refine ⟨?_, h.2⟩
  have hsz : (w.setCell ⟨g, o, none⟩ u).heap.size = w.heap.size := by simp [World.setCell]
  rcases h.1 with ⟨h1, h2⟩ | ⟨a, e1, e2, e3, h4⟩
  · refine .inl ⟨h1, ?_⟩
    rcases h2 with h2 | ⟨g', cap, c', e, hg', hh, rest⟩
    · exact .inl h2
    · refine .inr ⟨g', cap, c', e, hg', ?_, rest⟩
      rw [Below.heap_setCell _ _ _ _ (by
        show g' ≠ g
        rintro rfl
        rw [hg] at hh
        injection hh with hh
        injection hh with _ hh
        exact ht hh)]
      exact hh
  · exact .inr ⟨a, e1, e2, e3, fun p hp => ⟨(h4 p hp).1, by rw [hsz]; exact (h4 p hp).2⟩⟩
theorem NatRow.set {B g k i x : Nat} {f : Nat → Nat} {w : World} {p : Option Addr} {n c : Nat} (h : NatRow B g k f w) (_hi : i ≤ k) (hv : OwnL B w (.slice p n c) (dig x)) : NatRow B g k (fun j => if j = i then x else f j) (w.setCell ⟨g, i, none⟩ (.slice p n c)) := by
  obtain ⟨cur, h1, h2, h3⟩ := h
  refine ⟨cur.setIfInBounds i (.slice p n c), ?_, by rw [Array.size_setIfInBounds, h2], fun j hj => ?_⟩
  · simp [World.setCell, Array.getElem?_modify, h1]
  · by_cases e : j = i
    · subst e
      exact ⟨p, n, c, by rw [Array.getElem?_setIfInBounds_self_of_lt (by omega)], by show OwnL _ _ _ (dig (if j = j then x else f j)); rw [if_pos rfl]; exact hv.store h1 (by decide)⟩
    · obtain ⟨p', n', c', q1, q2⟩ := h3 j hj
      exact ⟨p', n', c', by rw [Array.getElem?_setIfInBounds_ne (by omega)]; exact q1, by show OwnL _ _ _ (dig (if j = i then x else f j)); rw [if_neg e]; exact q2.store h1 (by decide)⟩
theorem NatRow.cong {B g k : Nat} {f f' : Nat → Nat} {w : World} (h : NatRow B g k f w) (e : ∀ i, i ≤ k → f i = f' i) : NatRow B g k f' w := by
  obtain ⟨cur, h1, h2, h3⟩ := h
  exact ⟨cur, h1, h2, fun i hi => by rw [← e i hi]; exact h3 i hi⟩

/-- 'make' of naturals -/
theorem make_nats {w : World} {ops : Array Oper} {rest : List Oper} {o : Oper} {a : Act} {Q : Exit → Act → World → Prop} (hgd : o.guard = none) (l c : Operand) (t : TypeId)
    (ht : Try.prog.underlying t = some (.slice 30)) (hop : o.op = Op.makeSlice t l c) (k : Nat) (C : Int) (hC : C = ((k + 1 : Nat) : Int)) (hl : a.eval l = .int .i64 C) (hc : a.eval c = .int .i64 C) (hn : k + 1 ≤ 100000)
    (h : ∀ w', NatRow w.heap.size w.heap.size k (fun _ => 0) w' → w.grownBy w' none →
      wpList Try.prog ops Q rest (a.put o.dst (.slice (some ⟨w.heap.size, 0, none⟩) (k + 1) (k + 1))) w') : wpList Try.prog ops Q (o :: rest) a w := by
  obtain ⟨i, hi, hz, hsize, hby⟩ : ∃ i, Try.prog.info? 30 = some i ∧ i.zero = some (.slice none 0 0) ∧ i.size = 1 ∧ i.bytes = 24 := by
    have := info_nat
    cases hh : Try.prog.info? 30 with
    | none => rw [hh] at this; cases this
    | some i =>
      rw [hh] at this
      simp only [Option.map_some, Option.some.injEq, Prod.mk.injEq] at this
      exact ⟨i, rfl, this.1, this.2.1, this.2.2⟩
  refine wpList_make_full w hgd l c t hop w.heap.size 30 i (.slice none 0 0) 1 ht hi hz hsize .i64 .i64 C C (k + 1) hl hc hC hC (by rw [hby]; omega) (by unfold maxLen; omega) (Nat.le_refl _) (fun w' h1 h2 => h w' ?_ h2)
  rw [show (Value.slice none 0 0).cells = #[Value.slice none 0 0] from rfl, Nat.mul_one, toList_madeCells_one] at h1
  obtain ⟨-, h1⟩ := h1
  rcases h1 with ⟨h1, -⟩ | ⟨g, cap, cur, e, hg, hh, p1, p2, p3, p4⟩
  · cases h1
  injection e with e1 e2 e3
  injection e1 with e1
  injection e1 with e1
  subst e1 e3
  rw [Nat.mul_one] at p3 p4
  refine ⟨cur, hh, p3, fun j hj => ⟨none, 0, 0, ?_, by show OwnL _ _ _ (dig 0); rw [dig]; exact OwnL.nil _ _⟩⟩
  rw [List.take_of_length_le (by rw [Array.length_toList, p3]; exact Nat.le_refl _)] at p4
  rw [← Array.getElem?_toList, p4, List.getElem?_replicate, if_pos (by omega)]
/-- the row that is made of the one ahead, from the place i + 1 on -/
def binF (r i j : Nat) : Nat := if i < j then bin (r + 1) j else bin r j
theorem binF_start (r k j : Nat) (h : j ≤ k) : bin r j = binF r k j := by unfold binF; rw [if_neg (by omega)]
theorem binF_end (r j : Nat) : binF r 0 j = bin (r + 1) j := by
  unfold binF
  split
  · rfl
  · obtain rfl : j = 0 := by omega
    rw [bin_zero, bin_zero]
theorem binF_step (r q j : Nat) : (if j = q + 1 then bin r (q + 1) + bin r q else binF r (q + 1) j) = binF r q j := by
  by_cases e : j = q + 1
  · subst e
    rw [if_pos rfl, binF, if_pos (by omega), bin, Nat.add_comm]
  · rw [if_neg e]
    unfold binF
    by_cases h : q + 1 < j
    · rw [if_pos h, if_pos (by omega)]
    · rw [if_neg h, if_neg (by omega)]
theorem bin_len {r j : Nat} (h : r ≤ 64) : (dig (bin r j)).length ≤ 2 := by
  refine dig_len_le (Nat.lt_of_le_of_lt (bin_le r j) (Nat.lt_of_le_of_lt (Nat.pow_le_pow_right (by decide) h) ?_))
  rw [Bs_def]; decide

theorem NatRow.mono {B B' g k : Nat} {f : Nat → Nat} {w : World} (h : NatRow B g k f w) (e : B' ≤ B) : NatRow B' g k f w := by
  obtain ⟨cur, h1, h2, h3⟩ := h
  refine ⟨cur, h1, h2, fun i hi => ?_⟩
  obtain ⟨p, n, c, q1, q2⟩ := h3 i hi
  exact ⟨p, n, c, q1, q2.mono e⟩
theorem nadd_one (w : World) : Calls Try.prog 19 #[.int .u64 1] w fun e w' => ∃ p n c, e = .returned (.slice p n c) ∧ OwnL w.heap.size w' (.slice p n c) (dig 1) ∧ Ext w w' := by
  refine (nof_n w 1 (by rw [Bs_def]; decide)).mono ?_
  rintro e w' ⟨v, rfl, ho, hx⟩
  obtain ⟨p, c, rfl, -⟩ := ho.limbs.open
  exact ⟨_, _, _, rfl, ho, hx⟩
theorem nadd_two {w : World} {B B' x y : Nat} {v u : Value} (h : OwnL B w v (dig x)) (k : OwnL B' w u (dig y)) (hx : (dig x).length ≤ 2) (hy : (dig y).length ≤ 2) :
    Calls Try.prog 20 #[v, u] w fun e w' => ∃ p n c, e = .returned (.slice p n c) ∧ OwnL w.heap.size w' (.slice p n c) (dig (x + y)) ∧ Ext w w' := by
  refine (natadd_calls h.limbs k.limbs (by rw [Lmax_def]; omega) (by rw [Lmax_def]; omega)).mono ?_
  rintro e w' ⟨v, rfl, ho, hx⟩
  rw [val_dig, val_dig] at ho
  obtain ⟨p, c, rfl, -⟩ := ho.limbs.open
  exact ⟨_, _, _, rfl, ho, hx⟩

set_option maxHeartbeats 2000000 in
set_option maxRecDepth 100000 in
theorem choose_ok (w : World) (k n : Nat) (hkn : k ≤ n) (hn : n ≤ 64) :
    Calls Try.prog 6 #[.int .i64 (k : Int), .int .i64 (n : Int)] w fun e w' => ∃ r, e = .returned (.tuple #[r, .int .i64 0]) ∧ OwnL w.heap.size w' r (dig (bin n k)) ∧ Ext w w' := by
  have t1 : (k : Int) ≤ 64 := by omega
  have t2 : (n : Int) ≤ 64 := by omega
  have N64 := Lib.hid hn
  have K64 : Hid (k ≤ 64) := by show k ≤ 64; omega
  have KL : Hid (k + 1 ≤ 100000) := by show k + 1 ≤ 100000; omega
  have MAY : Hid (decide (mayP (k : Int) (n : Int)) = true) := by show _ = _; rw [decide_eq_true_eq]; unfold mayP; omega
  have hw1 : IntKind.i64.wrap ((k : Int) + 1) = ((k + 1 : Nat) : Int) := by rw [IntWalk.i64_in _ (by omega)]; omega
  have hk0 : 0 < k + 1 := by omega
  clear hkn hn
  go_enter Try.func6, Try.ntmps6
  go_wp2_with fail
  refine (pmay_calls _ _ _ true MAY.out).mono ?_
  rintro e w1 ⟨rfl, x1⟩
  have X1 := Lib.hid x1
  clear x1
  go_wp2_with (at_make; refine make_nats rfl _ _ 54 Try.underlying54 rfl k _ rfl rfl rfl KL.out ?_; intro w2 hown hgrow; have X2 : Hid (Ext w w2) := X1.out.grown hgrow (fun k hk => by cases hk); have R2 := Lib.hid hown; clear hown hgrow)
  obtain ⟨g, hg⟩ : ∃ g, w1.heap.size = g := ⟨_, rfl⟩
  have HG : Hid (w.heap.size ≤ g) := by show _ ≤ g; have := X1.out.size; omega
  rw [hg] at R2 ⊢
  clear hg hw1
  have hf0 := R2.out.free 0
  obtain ⟨pz, nz, cz, hc0, -⟩ := R2.out.cell (i := 0) (by omega)
  go_wp2_with fail
  refine (nadd_one _).mono ?_
  rintro e w3 ⟨pu, nu, cu, rfl, ho, x3⟩
  have R3 : Hid (NatRow w.heap.size g k (bin 0) (w3.setCell ⟨g, 0, none⟩ (.slice pu nu cu))) := by
    refine ((R2.out.ext x3).mono HG.out |>.set (i := 0) (x := 1) (Nat.zero_le _) (ho.mono X2.out.size)).cong fun j hj => ?_
    cases j with
    | zero => rfl
    | succ j => rfl
  have X3 : Hid (Ext w (w3.setCell ⟨g, 0, none⟩ (.slice pu nu cu))) := (X2.out.trans x3).setCell (p := ⟨g, 0, none⟩) HG.out _
  have hf3 := (R2.out.ext x3).free 0
  have hc3 := (At.ext ⟨hc0, R2.out.lt⟩ x3).1
  clear ho x3
  go_wp2_with fail
  go_loopw [19] (fun v19 wr => ∃ r : Nat, v19 = .int .i64 (r : Int) ∧ r ≤ n ∧ NatRow w.heap.size g k (bin r) wr ∧ Ext w wr) (fun v19 _ => n - (intOf v19).toNat)
  case atStart => exact ⟨0, rfl, Nat.zero_le _, R3.out, X3.out⟩
  case round =>
    obtain ⟨r, rfl, hr, hR, hx⟩ := hrel
    have R := Lib.hid hR
    have X := Lib.hid hx
    clear hR hx R3 X3
    by_cases hrn : r < n
    · have LT := Lib.hid hrn
      have R64 : Hid (r ≤ 64) := by have := N64.out; show r ≤ 64; omega
      go_wp2_with fail
      go_loopw [7] (fun v7 wr => ∃ i : Nat, v7 = .int .i64 (i : Int) ∧ i ≤ k ∧ NatRow w.heap.size g k (binF r i) wr ∧ Ext w wr) (fun v7 _ => (intOf v7).toNat)
      case atStart => exact ⟨k, rfl, Nat.le_refl _, R.out.cong fun j hj => binF_start r k j hj, X.out⟩
      case round =>
        clear R X
        obtain ⟨i, rfl, hi, hR, hx⟩ := hrel
        have R := Lib.hid hR
        have X := Lib.hid hx
        clear hR hx
        rcases Nat.eq_zero_or_pos i with h0 | h0
        · subst h0
          go_wp2_with fail
          exact ⟨⟨r + 1, by go_num, LT.out, R.out.cong fun j _ => binF_end r j, X.out⟩, by simp [intOf]; have := LT.out; omega⟩
        · obtain ⟨q, rfl⟩ : ∃ q, i = q + 1 := ⟨i - 1, by omega⟩
          have QK := Lib.hid hi
          obtain ⟨p1, n1, c1, hc1, o1⟩ := R.out.cell (i := q + 1) hi
          obtain ⟨p2, n2, c2, hc2, o2⟩ := R.out.cell (i := q) (by omega)
          rw [show binF r (q + 1) (q + 1) = bin r (q + 1) from if_neg (by omega)] at o1
          rw [show binF r (q + 1) q = bin r q from if_neg (by omega)] at o2
          have O1 := Lib.hid o1
          have O2 := Lib.hid o2
          have hf1 := R.out.free (q + 1)
          have hwq : IntKind.i64.wrap ((q : Int) + 1 - 1) = (q : Int) := by rw [IntWalk.i64_in _ (by have := K64.out; omega)]; omega
          have hwq2 : IntKind.i64.wrap (q : Int) = (q : Int) := by rw [IntWalk.i64_in _ (by have := K64.out; omega)]
          have hwq3 : (q : Int) + 1 - 1 = q := by omega
          have hq1 : q + 1 < k + 1 := by omega
          have hq0 : q < k + 1 := by omega
          have hq2 : ((q + 1 : Nat) : Int) ≤ 64 := by have := K64.out; omega
          have hq3 : (1 : Int) ≤ ((q + 1 : Nat) : Int) := by omega
          clear o1 o2 hi
          go_wp2_with fail
          have E0 : Hid (Ext wr wr.drew) := (Ext.refl wr).drew
          have HL1 : Hid ((dig (bin r (q + 1))).length ≤ 2) := bin_len R64.out
          have HL2 : Hid ((dig (bin r q)).length ≤ 2) := bin_len R64.out
          go_region_with (go_at_call 20; refine (nadd_two (O1.out.ext E0.out) (O2.out.ext E0.out) HL1.out HL2.out).mono ?_; rintro e w4 ⟨p3, n3, c3, rfl, o3, x4⟩; have X4 : Hid (Ext wr w4) := E0.out.trans x4; have hf4 := (R.out.ext X4.out).free (q + 1); have hc4 := (At.ext ⟨hc1, R.out.lt⟩ X4.out).1; have O3 : Hid (OwnL w.heap.size w4 (.slice p3 n3 c3) (dig (bin r (q + 1) + bin r q))) := o3.mono (Nat.le_trans X.out.size E0.out.size); clear o3 x4)
          all_goals
            have R5 := Lib.hid (((R.out.ext X4.out).set QK.out O3.out).cong fun j _ => binF_step r q j)
            have X5 : Hid (Ext w (w4.setCell ⟨g, q + 1, none⟩ (.slice p3 n3 c3))) := (X.out.trans X4.out).setCell (p := ⟨g, q + 1, none⟩) HG.out _
            clear R X4 X
            go_wp2_with fail
            exact ⟨⟨q, by first | rfl | go_num, by have := QK.out; omega, R5.out, X5.out⟩, by simp [intOf]⟩
    · obtain rfl : n = r := by omega
      obtain ⟨p1, n1, c1, hc1, o1⟩ := R.out.cell (i := k) (Nat.le_refl _)
      have O1 := Lib.hid o1
      have HL1 : Hid ((dig (bin n k)).length ≤ Lmax) := by have := bin_len (r := n) (j := k) N64.out; show _ ≤ Lmax; rw [Lmax_def]; omega
      clear o1
      go_wp2_with fail
      refine (trim_calls O1.out.limbs HL1.out).mono ?_
      rintro e w5 ⟨u, rfl, ho, hx⟩
      rw [val_dig] at ho
      have O5 := Lib.hid (ho.mono X.out.size)
      have X5 := Lib.hid (X.out.trans hx)
      clear ho hx
      go_wp2_with fail
      go_ret2
      exact ⟨_, rfl, O5.out, X5.out⟩

set_option maxHeartbeats 2000000 in
set_option maxRecDepth 100000 in
theorem choose_bad (w : World) (k n : Int) (h : ¬ mayP k n) :
    Calls Try.prog 6 #[.int .i64 k, .int .i64 n] w fun e w' => e = .returned (.tuple #[.slice none 0 0, .int .i64 1]) ∧ Ext w w' := by
  have MAY : Hid (decide (mayP k n) = false) := by show _ = _; rw [decide_eq_false_iff_not]; exact h
  clear h
  go_enter Try.func6, Try.ntmps6
  go_wp2_with fail
  refine (pmay_calls _ _ _ false MAY.out).mono ?_
  rintro e w1 ⟨rfl, x1⟩
  have X1 := Lib.hid x1
  clear x1
  go_wp2_with fail
  go_ret2
  exact ⟨rfl, X1.out⟩
end Go.Proofs.Ytefeglkbikcjeaa

/- What the laws of chapter 13 ask of the package: contracts in the form of the generator; tombolaref13.Same. -/
namespace Go.Proofs.Ytefeglkbikcjeaa
open Go Go.RowKit

set_option maxHeartbeats 2000000 in
set_option maxRecDepth 100000 in
theorem same13_calls {w : World} {v u : Value} {L M : List Int} (h : Ints w v L) (k : Ints w u M) (b : Bool) (hb : decide (L = M) = b) :
    Calls Try.prog 9 #[v, u] w fun e w' => e = .returned (.bool b) ∧ Ext w w' := by
  obtain ⟨p1, c1, rfl, g1, g2, g3⟩ := h.open
  obtain ⟨p2, c2, rfl, k1, k2, k3⟩ := k.open
  unfold maxLen at g2 k2
  have G3 := Lib.hid g3
  have K3 := Lib.hid k3
  have HB := Lib.hid hb
  obtain ⟨n, hn⟩ : ∃ n, L.length = n := ⟨_, rfl⟩
  obtain ⟨m, hm⟩ : ∃ m, M.length = m := ⟨_, rfl⟩
  have HN := Lib.hid hn
  have HM := Lib.hid hm
  rw [hn] at g1 ⊢
  rw [hm] at k1 ⊢
  have gi : (n : Int) ≤ 9223372036854775807 := by omega
  have ki : (m : Int) ≤ 9223372036854775807 := by omega
  by_cases hnm : n = m
  case neg =>
    have HF : Hid (b = false) := by show _ = _; rw [← HB.out, decide_eq_false_iff_not]; intro e; apply hnm; rw [← hn, ← hm, e]
    have t1 : ¬ (n : Int) = (m : Int) := by omega
    have t2 : ((n : Int) != (m : Int)) = true := by rw [bne_iff_ne]; exact t1
    clear g3 k3 hb h k hn hm g1 g2 k1 k2 hnm
    go_enter Try.func9, Try.ntmps9
    go_wp2_with fail
    go_ret
    exact ⟨by rw [HF.out]; rfl, Ext.refl _⟩
  subst hnm
  clear g3 k3 hb h k hn hm g2 k2 ki
  go_enter Try.func9, Try.ntmps9
  go_wp2_with fail
  go_loopw [5] (fun v5 wr => ∃ i : Nat, v5 = .int .i64 (i : Int) ∧ i ≤ n ∧ Hid (∀ j, j < i → L.getD j 0 = M.getD j 0) ∧ Ext w wr) (fun v5 _ => n - (intOf v5).toNat)
  case atStart => exact ⟨0, rfl, Nat.zero_le _, fun j hj => by omega, Ext.refl _⟩
  case round =>
    obtain ⟨i, rfl, hi, hp, hx⟩ := hrel
    have X := Lib.hid hx
    clear hx
    by_cases hin : i < n
    · obtain ⟨b1, o1, rfl, q1, q2⟩ := G3.out i (by rw [HN.out]; exact hin)
      obtain ⟨b2, o2, rfl, r1, r2⟩ := K3.out i (by rw [HM.out]; exact hin)
      obtain ⟨x, hx⟩ : ∃ x, L.getD i 0 = x := ⟨_, rfl⟩
      obtain ⟨y, hy⟩ : ∃ y, M.getD i 0 = y := ⟨_, rfl⟩
      have cx : wr.cell? ⟨b1, o1 + i, none⟩ = some (.int .i64 x) := by rw [Below.cell X.out (p := ⟨b1, o1 + i, none⟩) q1, q2 i (by rw [HN.out]; exact hin), hx]
      have cy : wr.cell? ⟨b2, o2 + i, none⟩ = some (.int .i64 y) := by rw [Below.cell X.out (p := ⟨b2, o2 + i, none⟩) r1, r2 i (by rw [HM.out]; exact hin), hy]
      have HX := Lib.hid hx
      have HY := Lib.hid hy
      have LT := Lib.hid hin
      clear q2 r2 hx hy
      by_cases hxy : x = y
      · subst hxy
        have HP : Hid (∀ j, j < i + 1 → L.getD j 0 = M.getD j 0) := fun j hj => by
          by_cases e : j < i
          · exact hp.out j e
          · obtain rfl : j = i := by omega
            rw [HX.out, HY.out]
        go_wp2_with fail
        go_quiet (fail)
        go_wp2_with fail
        exact ⟨⟨i + 1, by go_num, LT.out, HP, X.out.drewN _⟩, by simp [intOf]; have := LT.out; omega⟩
      · have HF : Hid (b = false) := by show _ = _; rw [← HB.out, decide_eq_false_iff_not]; intro e; apply hxy; rw [← HX.out, ← HY.out, e]
        have t2 : (x != y) = true := by rw [bne_iff_ne]; exact hxy
        clear hp
        go_wp2_with fail
        go_quiet (fail)
        go_wp2_with fail
        go_ret
        exact ⟨by rw [HF.out]; rfl, X.out.drewN _⟩
    · have e : n = i := by omega
      subst e
      have HT : Hid (b = true) := by show _ = _; rw [← HB.out, decide_eq_true_eq]; exact ext_getD (by rw [HN.out, HM.out]) (fun j hj => hp.out j (by rw [HN.out] at hj; exact hj))
      clear hp
      go_wp2_with fail
      go_ret
      exact ⟨by rw [HT.out]; rfl, X.out⟩

theorem OwnZ.slice13 {t : TypeId} {B : Nat} {w : World} {v : Value} {L : List Int} (h : OwnZ t B w v L) : ∃ a c, v = .slice a L.length c := h.ints.slice
theorem poolF_eq {k : Nat} {J R : List Int} (h : (poolTo k J J.length).Perm R) (hs : R.Pairwise (· ≤ ·)) : poolF k J = R := sorted_only h hs
theorem plR_eq {k : Nat} {n : Int} {J R : List Int} (h : errPool (k : Int) n J = 0) (hp : (poolTo k J J.length).Perm R) (hs : R.Pairwise (· ≤ ·)) : plR (k : Int) n J = R := by
  rw [plR_ok h, Int.toNat_natCast]; exact poolF_eq hp hs
theorem plRes_some {l : List UInt8} {k n : Nat} {a b : Nat} {vs : List Nat} {R : List Int} (hk : k < n) (hn : n ≤ 64) (h : upB l (n - k) k a = (some vs, b)) (hR : poolF k (intsU vs) = R) : plRes l (k : Int) (n : Int) a false = (R, true, b, false) := by
  unfold plRes
  rw [if_neg (by unfold mayP; omega), if_neg (by omega), if_neg (by decide)]
  simp only [Int.toNat_natCast, h, hR]
theorem plRes_none {l : List UInt8} {k n : Nat} {a b : Nat} (hk : k < n) (hn : n ≤ 64) (h : upB l (n - k) k a = (none, b)) : plRes l (k : Int) (n : Int) a false = ([], false, b, true) := by
  unfold plRes
  rw [if_neg (by unfold mayP; omega), if_neg (by omega), if_neg (by decide)]
  simp only [Int.toNat_natCast, h]
theorem choose_n (w : World) (k n x : Nat) (hkn : k ≤ n) (hn : n ≤ 64) (hx : bin n k = x) :
    Calls Try.prog 6 #[.int .i64 (k : Int), .int .i64 (n : Int)] w fun e w' => ∃ r, e = .returned (.tuple #[r, .int .i64 0]) ∧ OwnL w.heap.size w' r (dig x) ∧ Ext w w' := hx ▸ choose_ok w k n hkn hn
theorem plcost_q (w : World) (k n : Nat) (hkn : k ≤ n) (hn : n ≤ 64) (j : Nat) (hj : n - k = j) {q : Rat} (hq : costTo k j = q) : Calls Try.prog 7 #[.int .i64 (k : Int), .int .i64 (n : Int)] w (RetR0 w q) := hq ▸ plcost_is w k n hkn hn j hj
theorem plrow_c {w : World} {v : Value} {J : List Int} (hJ : Ints w v J) (k n : Int) (c : Int) (h : ((errPool k n J : Nat) : Int) = c) (R : List Int) (hR : plR k n J = R) :
    Calls Try.prog 5 #[.int .i64 k, .int .i64 n, v] w fun e w' => ∃ r, e = .returned (.tuple #[r, .int .i64 c]) ∧ OwnZ 3 w.heap.size w' r R ∧ Ext w w' := by
  subst h; exact plrow_all hJ k n _ rfl R hR
end Go.Proofs.Ytefeglkbikcjeaa

/- awake of chapter 13 answers true. -/
namespace Go.Proofs.Ytefeglkbikcjeaa
open Go Go.RowKit

theorem cost13 : costTo 1 2 = mkRat 11 3 := by decide +kernel
set_option maxHeartbeats 8000000 in
set_option maxRecDepth 100000 in
theorem awake13_calls (w : World) : Calls Try.prog 4 #[] w fun e w' => e = .returned (.bool true) ∧ Ext w w' := by
  have h1 : DrawIs [48, 49] 2 0 0 true 1 := drawIs_hit (by decide +kernel) (by decide +kernel) (by decide) (by decide +kernel)
  have h2 : DrawIs [48, 49] 2 1 1 true 2 := drawIs_hit (by decide +kernel) (by decide +kernel) (by decide) (by decide +kernel)
  have h3 : DrawIs [48, 49] 2 2 0 false 2 := drawIs_short (by decide +kernel)
  have HB1 : Hid (plRes (⟨#[48, 49]⟩ : ByteArray).data.toList 1 2 0 false = ([1], true, 1, false)) := plRes_some (k := 1) (n := 2) (vs := [0]) (by decide) (by decide) (by show upB [48, 49] 1 1 0 = _; rw [upB_yes h1]; rfl) (poolF_eq (by decide) (by decide))
  have HB2 : Hid (plRes (⟨#[48, 49]⟩ : ByteArray).data.toList 1 2 1 false = ([0], true, 2, false)) := plRes_some (k := 1) (n := 2) (vs := [1]) (by decide) (by decide) (by show upB [48, 49] 1 1 1 = _; rw [upB_yes h2]; rfl) (poolF_eq (by decide) (by decide))
  have HB3 : Hid (plRes (⟨#[48, 49]⟩ : ByteArray).data.toList 1 2 2 false = ([], false, 2, true)) := plRes_none (k := 1) (n := 2) (by decide) (by decide) (by show upB [48, 49] 1 1 2 = _; exact upB_no h3)
  clear h1 h2 h3
  go_enter Try.func4, Try.ntmps4
  go_wp2_with fail
  obtain ⟨v1, hv1⟩ : ∃ W, W = (w.alloc (.cells #[.int .i64 0] 3)) := ⟨_, rfl⟩
  have y1 : Ext w v1 := by rw [hv1]; exact ((Ext.refl _).alloc _)
  have r0 : Hid (OwnZ 3 w.heap.size v1 (.slice (some ⟨w.heap.size, 0, none⟩) 1 1) [0]) := by rw [hv1]; exact OwnZ.ext (litz_n0 [0] _ rfl 1 rfl (by decide) (Nat.le_refl _)) (Ext.refl _)
  have e1_ : Ext w v1 := y1
  rw [← hv1]
  clear hv1
  refine (plrow_c r0.out.ints 1 2 0 (by decide) [1] (plR_eq (k := 1) (by decide) (by decide) (by decide))).mono ?_
  rintro e w2 ⟨zr1, rfl, zo1, x2⟩
  have e2_ : Ext w w2 := Ext.trans e1_ x2
  obtain ⟨zp1, zc1, rfl⟩ := zo1.slice13
  go_wp2_with fail
  obtain ⟨v3, hv3⟩ : ∃ W, W = (w2.alloc (.cells #[.int .i64 2, .int .i64 0] 3)) := ⟨_, rfl⟩
  have y3 : Ext w2 v3 := by rw [hv3]; exact ((Ext.refl _).alloc _)
  have r1 : Hid (OwnZ 3 w.heap.size v3 (.slice (some ⟨w2.heap.size, 0, none⟩) 2 2) [2, 0]) := by rw [hv3]; exact OwnZ.ext (litz_n0 [2, 0] _ rfl 2 rfl (by decide) e2_.size) (Ext.refl _)
  have e3_ : Ext w v3 := Ext.trans e2_ y3
  rw [← hv3]
  clear hv3
  refine (plrow_c r1.out.ints 2 4 0 (by decide) [1, 3] (plR_eq (k := 2) (by decide) (by decide) (by decide))).mono ?_
  rintro e w4 ⟨zr2, rfl, zo2, x4⟩
  have e4_ : Ext w w4 := Ext.trans e3_ x4
  obtain ⟨zp2, zc2, rfl⟩ := zo2.slice13
  go_wp2_with fail
  obtain ⟨v5, hv5⟩ : ∃ W, W = (w4.alloc (.cells #[.int .i64 3, .int .i64 0] 3)) := ⟨_, rfl⟩
  have y5 : Ext w4 v5 := by rw [hv5]; exact ((Ext.refl _).alloc _)
  have r2 : Hid (OwnZ 3 w.heap.size v5 (.slice (some ⟨w4.heap.size, 0, none⟩) 2 2) [3, 0]) := by rw [hv5]; exact OwnZ.ext (litz_n0 [3, 0] _ rfl 2 rfl (by decide) e4_.size) (Ext.refl _)
  have e5_ : Ext w v5 := Ext.trans e4_ y5
  rw [← hv5]
  clear hv5
  refine (plrow_c r2.out.ints 2 4 1 (by decide) ([] : List Int) (plR_no (by decide))).mono ?_
  rintro e w6 ⟨zr3, rfl, zo3, x6⟩
  have e6_ : Ext w w6 := Ext.trans e5_ x6
  obtain ⟨zp3, zc3, rfl⟩ := zo3.slice13
  go_wp2_with fail
  obtain ⟨v7, hv7⟩ : ∃ W, W = (w6.alloc (.cells #[.int .i64 0] 3)) := ⟨_, rfl⟩
  have y7 : Ext w6 v7 := by rw [hv7]; exact ((Ext.refl _).alloc _)
  have r3 : Hid (OwnZ 3 w.heap.size v7 (.slice (some ⟨w6.heap.size, 0, none⟩) 1 1) [0]) := by rw [hv7]; exact OwnZ.ext (litz_n0 [0] _ rfl 1 rfl (by decide) e6_.size) (Ext.refl _)
  have e7_ : Ext w v7 := Ext.trans e6_ y7
  rw [← hv7]
  clear hv7
  refine (plrow_c r3.out.ints 2 4 4 (by decide) ([] : List Int) (plR_no (by decide))).mono ?_
  rintro e w8 ⟨zr4, rfl, zo4, x8⟩
  have e8_ : Ext w w8 := Ext.trans e7_ x8
  obtain ⟨zp4, zc4, rfl⟩ := zo4.slice13
  go_wp2_with fail
  refine (choose_n _ 2 4 6 (by decide) (by decide) (by decide)).mono ?_
  rintro e w9 ⟨sv5, rfl, o5, x9⟩
  have e9_ : Ext w w9 := Ext.trans e8_ x9
  obtain ⟨sp5, sl5, sc5, rfl⟩ := o5.slice'
  go_wp2_with fail
  refine (plcost_q _ 1 3 (by decide) (by decide) 2 rfl cost13).mono ?_
  rintro e w10 ⟨sb6, sv6, su6, sm6, sd6, rfl, e6, o6, x10⟩
  have e10_ : Ext w w10 := Ext.trans e9_ x10
  obtain ⟨sp6, sl6, sc6, tp6, tl6, tc6, rfl, rfl⟩ := e6.slice
  go_wp2_with fail
  obtain ⟨v11, hv11⟩ : ∃ W, W = (w10.alloc (.cells #[.bool sb6, .slice sp6 sl6 sc6, .slice tp6 tl6 tc6] 36)) := ⟨_, rfl⟩
  have y11 : Ext w10 v11 := by rw [hv11]; exact ((Ext.refl _).alloc _)
  have b4_0 : Hid (At (w10.heap.size) 0 (.bool sb6) v11) := by rw [hv11]; exact At.ext (At.n0 (by rfl)) (Ext.refl _)
  have b4_1 : Hid (At (w10.heap.size) 1 (.slice sp6 sl6 sc6) v11) := by rw [hv11]; exact At.ext (At.n0 (by rfl)) (Ext.refl _)
  have b4_2 : Hid (At (w10.heap.size) 2 (.slice tp6 tl6 tc6) v11) := by rw [hv11]; exact At.ext (At.n0 (by rfl)) (Ext.refl _)
  have k4 : Hid (Bx 3 (w10.heap.size) v11) := by rw [hv11]; exact Bx.gr (Bx.n0 3 ⟨rfl, by decide⟩ (by decide) noI_s3) (Ext.gr (Ext.refl _))
  have u4 : Hid (w10.heap.size < v11.heap.size) := b4_0.out.2
  have e11_ : Ext w v11 := Ext.trans e10_ y11
  rw [← hv11]
  clear hv11
  refine (over_is (q := (mkRat 11 3)) _ 11 3 (by decide) (by decide) (by decide) (by decide) (by decide) (by decide +kernel)).mono ?_
  rintro e w12 ⟨sb7, sv7, su7, sm7, sd7, rfl, e7, o7, x12⟩
  have e12_ : Ext w w12 := Ext.trans e11_ x12
  obtain ⟨sp7, sl7, sc7, tp7, tl7, tc7, rfl, rfl⟩ := e7.slice
  go_wp2_with fail
  obtain ⟨v13, hv13⟩ : ∃ W, W = (w12.alloc (.cells #[.bool sb7, .slice sp7 sl7 sc7, .slice tp7 tl7 tc7] 36)) := ⟨_, rfl⟩
  have y13 : Ext w12 v13 := by rw [hv13]; exact ((Ext.refl _).alloc _)
  have b5_0 : Hid (At (w12.heap.size) 0 (.bool sb7) v13) := by rw [hv13]; exact At.ext (At.n0 (by rfl)) (Ext.refl _)
  have b5_1 : Hid (At (w12.heap.size) 1 (.slice sp7 sl7 sc7) v13) := by rw [hv13]; exact At.ext (At.n0 (by rfl)) (Ext.refl _)
  have b5_2 : Hid (At (w12.heap.size) 2 (.slice tp7 tl7 tc7) v13) := by rw [hv13]; exact At.ext (At.n0 (by rfl)) (Ext.refl _)
  have k5 : Hid (Bx 3 (w12.heap.size) v13) := by rw [hv13]; exact Bx.gr (Bx.n0 3 ⟨rfl, by decide⟩ (by decide) noI_s3) (Ext.gr (Ext.refl _))
  have u5 : Hid (w12.heap.size < v13.heap.size) := b5_0.out.2
  have e13_ : Ext w v13 := Ext.trans e12_ y13
  rw [← hv13]
  clear hv13
  refine (cnew_ok ⟨#[48, 49]⟩ _ (by decide) (by decide +kernel)).mono ?_
  rintro e w14 ⟨cs8, rfl, cl8, cc8_, x14⟩
  have e14_ : Ext w w14 := Ext.trans e13_ x14
  have b6_0 : Hid (At (cs8) 0 (.string ⟨#[48, 49]⟩) w14) := cc8_.c0
  have b6_1 : Hid (At (cs8) 1 (.int .i64 ((0 : Nat) : Int)) w14) := cc8_.c1
  have b6_2 : Hid (At (cs8) 2 (.bool false) w14) := cc8_.c2
  have k6 := Lib.hid cc8_.bx
  have l6 := Lib.hid cl8
  have u6 := Lib.hid cc8_.bx.lt
  clear cl8 cc8_
  go_wp2_with fail
  refine (pldraw_all (show Cur ⟨#[48, 49]⟩ (cs8) (0) false _ from ⟨b6_0.out, b6_1.out, b6_2.out, k6.out⟩) (by decide +kernel) (by decide) 1 2 HB1.out).mono ?_
  rintro e w15 ⟨zr9, rfl, zo9, mv15, cc15⟩
  have y15 : Gr w14 w15 := ((show Cur ⟨#[48, 49]⟩ (cs8) (0) false _ from ⟨b6_0.out, b6_1.out, b6_2.out, k6.out⟩)).mvgr mv15 cc15
  have t15 : Hid (∀ t o u, t ≠ (cs8) → At t o u w14 → At t o u w15) := fun t o u h k => mv15.at h k
  have e15_ : Ext w w15 := mv15.ext e14_ (Nat.le_trans e13_.size l6.out)
  have b6_0 : Hid (At (cs8) 0 (.string ⟨#[48, 49]⟩) w15) := cc15.c0
  have b6_1 : Hid (At (cs8) 1 (.int .i64 ((1 : Nat) : Int)) w15) := cc15.c1
  have b6_2 : Hid (At (cs8) 2 (.bool false) w15) := cc15.c2
  have k6 : Hid (Bx 3 (cs8) w15) := cc15.bx
  clear mv15 cc15
  obtain ⟨zp9, zc9, rfl⟩ := zo9.slice13
  go_wp2_with fail
  refine (pldraw_all (show Cur ⟨#[48, 49]⟩ (cs8) (1) false _ from ⟨b6_0.out, b6_1.out, b6_2.out, k6.out⟩) (by decide +kernel) (by decide) 1 2 HB2.out).mono ?_
  rintro e w16 ⟨zr10, rfl, zo10, mv16, cc16⟩
  have y16 : Gr w15 w16 := ((show Cur ⟨#[48, 49]⟩ (cs8) (1) false _ from ⟨b6_0.out, b6_1.out, b6_2.out, k6.out⟩)).mvgr mv16 cc16
  have t16 : Hid (∀ t o u, t ≠ (cs8) → At t o u w15 → At t o u w16) := fun t o u h k => mv16.at h k
  have e16_ : Ext w w16 := mv16.ext e15_ (Nat.le_trans e13_.size l6.out)
  have b6_0 : Hid (At (cs8) 0 (.string ⟨#[48, 49]⟩) w16) := cc16.c0
  have b6_1 : Hid (At (cs8) 1 (.int .i64 ((2 : Nat) : Int)) w16) := cc16.c1
  have b6_2 : Hid (At (cs8) 2 (.bool false) w16) := cc16.c2
  have k6 : Hid (Bx 3 (cs8) w16) := cc16.bx
  clear mv16 cc16
  obtain ⟨zp10, zc10, rfl⟩ := zo10.slice13
  go_wp2_with fail
  refine (pldraw_all (show Cur ⟨#[48, 49]⟩ (cs8) (2) false _ from ⟨b6_0.out, b6_1.out, b6_2.out, k6.out⟩) (by decide +kernel) (by decide) 1 2 HB3.out).mono ?_
  rintro e w17 ⟨zr11, rfl, zo11, mv17, cc17⟩
  have y17 : Gr w16 w17 := ((show Cur ⟨#[48, 49]⟩ (cs8) (2) false _ from ⟨b6_0.out, b6_1.out, b6_2.out, k6.out⟩)).mvgr mv17 cc17
  have t17 : Hid (∀ t o u, t ≠ (cs8) → At t o u w16 → At t o u w17) := fun t o u h k => mv17.at h k
  have e17_ : Ext w w17 := mv17.ext e16_ (Nat.le_trans e13_.size l6.out)
  have b6_0 : Hid (At (cs8) 0 (.string ⟨#[48, 49]⟩) w17) := cc17.c0
  have b6_1 : Hid (At (cs8) 1 (.int .i64 ((2 : Nat) : Int)) w17) := cc17.c1
  have b6_2 : Hid (At (cs8) 2 (.bool true) w17) := cc17.c2
  have k6 : Hid (Bx 3 (cs8) w17) := cc17.bx
  clear mv17 cc17
  obtain ⟨zp11, zc11, rfl⟩ := zo11.slice13
  go_wp2_with fail
  obtain ⟨v18, hv18⟩ : ∃ W, W = (w17.alloc (.cells #[.int .i64 1] 3)) := ⟨_, rfl⟩
  have y18 : Ext w17 v18 := by rw [hv18]; exact ((Ext.refl _).alloc _)
  have r7 : Hid (OwnZ 3 w.heap.size v18 (.slice (some ⟨w17.heap.size, 0, none⟩) 1 1) [1]) := by rw [hv18]; exact OwnZ.ext (litz_n0 [1] _ rfl 1 rfl (by decide) e17_.size) (Ext.refl _)
  have e18_ : Ext w v18 := Ext.trans e17_ y18
  rw [← hv18]
  clear hv18
  refine (same13_calls (zo1.gr (y3.gr.trans (x4.gr.trans (y5.gr.trans (x6.gr.trans (y7.gr.trans (x8.gr.trans (x9.gr.trans (x10.gr.trans (y11.gr.trans (x12.gr.trans (y13.gr.trans (x14.gr.trans (y15.trans (y16.trans (y17.trans y18.gr)))))))))))))))).ints r7.out.ints true (by decide)).mono ?_
  rintro e w19 ⟨rfl, x19⟩
  have e19_ : Ext w w19 := Ext.trans e18_ x19
  go_wp2_with fail
  obtain ⟨v20, hv20⟩ : ∃ W, W = (w19.alloc (.cells #[.int .i64 1, .int .i64 3] 3)) := ⟨_, rfl⟩
  have y20 : Ext w19 v20 := by rw [hv20]; exact ((Ext.refl _).alloc _)
  have r8 : Hid (OwnZ 3 w.heap.size v20 (.slice (some ⟨w19.heap.size, 0, none⟩) 2 2) [1, 3]) := by rw [hv20]; exact OwnZ.ext (litz_n0 [1, 3] _ rfl 2 rfl (by decide) e19_.size) (Ext.refl _)
  have e20_ : Ext w v20 := Ext.trans e19_ y20
  rw [← hv20]
  clear hv20
  refine (same13_calls (zo2.gr (y5.gr.trans (x6.gr.trans (y7.gr.trans (x8.gr.trans (x9.gr.trans (x10.gr.trans (y11.gr.trans (x12.gr.trans (y13.gr.trans (x14.gr.trans (y15.trans (y16.trans (y17.trans (y18.gr.trans (x19.gr.trans y20.gr)))))))))))))))).ints r8.out.ints true (by decide)).mono ?_
  rintro e w21 ⟨rfl, x21⟩
  have e21_ : Ext w w21 := Ext.trans e20_ x21
  go_wp2_with fail
  obtain ⟨v22, hv22⟩ : ∃ W, W = (w21.alloc (.cells #[.int .u64 6] 49)) := ⟨_, rfl⟩
  have y22 : Ext w21 v22 := by rw [hv22]; exact ((Ext.refl _).alloc _)
  have r9 : Hid (Limbs v22 (.slice (some ⟨w21.heap.size, 0, none⟩) 1 1) [6]) := by rw [hv22]; exact (lit_n0 [6] (by decide) rfl 1 rfl (by decide)).ext (Ext.refl _)
  have e22_ : Ext w v22 := Ext.trans e21_ y22
  rw [← hv22]
  clear hv22
  refine (same_bool (o5.limbs.gr (x10.gr.trans (y11.gr.trans (x12.gr.trans (y13.gr.trans (x14.gr.trans (y15.trans (y16.trans (y17.trans (y18.gr.trans (x19.gr.trans (y20.gr.trans (x21.gr.trans y22.gr))))))))))))) r9.out true (by rw [dig_one (by rw [Bs_def]; decide) (by decide)]; decide)).mono ?_
  rintro e w23 ⟨rfl, x23⟩
  have e23_ : Ext w w23 := Ext.trans e22_ x23
  have g4_0 := ((t17.out _ _ _ (by (try dsimp only); have h1 := u4.out; have h2 := (x12.gr.trans y13.gr).size; have h3 := l6.out; omega) (t16.out _ _ _ (by (try dsimp only); have h1 := u4.out; have h2 := (x12.gr.trans y13.gr).size; have h3 := l6.out; omega) (t15.out _ _ _ (by (try dsimp only); have h1 := u4.out; have h2 := (x12.gr.trans y13.gr).size; have h3 := l6.out; omega) (b4_0.out.ext (x12.trans (y13.trans x14)))))).ext (y18.trans (x19.trans (y20.trans (x21.trans (y22.trans x23)))))).1
  have g4_1 := ((t17.out _ _ _ (by (try dsimp only); have h1 := u4.out; have h2 := (x12.gr.trans y13.gr).size; have h3 := l6.out; omega) (t16.out _ _ _ (by (try dsimp only); have h1 := u4.out; have h2 := (x12.gr.trans y13.gr).size; have h3 := l6.out; omega) (t15.out _ _ _ (by (try dsimp only); have h1 := u4.out; have h2 := (x12.gr.trans y13.gr).size; have h3 := l6.out; omega) (b4_1.out.ext (x12.trans (y13.trans x14)))))).ext (y18.trans (x19.trans (y20.trans (x21.trans (y22.trans x23)))))).1
  have g4_2 := ((t17.out _ _ _ (by (try dsimp only); have h1 := u4.out; have h2 := (x12.gr.trans y13.gr).size; have h3 := l6.out; omega) (t16.out _ _ _ (by (try dsimp only); have h1 := u4.out; have h2 := (x12.gr.trans y13.gr).size; have h3 := l6.out; omega) (t15.out _ _ _ (by (try dsimp only); have h1 := u4.out; have h2 := (x12.gr.trans y13.gr).size; have h3 := l6.out; omega) (b4_2.out.ext (x12.trans (y13.trans x14)))))).ext (y18.trans (x19.trans (y20.trans (x21.trans (y22.trans x23)))))).1
  have g5_0 := ((t17.out _ _ _ (by (try dsimp only); have h1 := u5.out; have h2 := Nat.le_refl 0; have h3 := l6.out; omega) (t16.out _ _ _ (by (try dsimp only); have h1 := u5.out; have h2 := Nat.le_refl 0; have h3 := l6.out; omega) (t15.out _ _ _ (by (try dsimp only); have h1 := u5.out; have h2 := Nat.le_refl 0; have h3 := l6.out; omega) (b5_0.out.ext x14)))).ext (y18.trans (x19.trans (y20.trans (x21.trans (y22.trans x23)))))).1
  have g5_1 := ((t17.out _ _ _ (by (try dsimp only); have h1 := u5.out; have h2 := Nat.le_refl 0; have h3 := l6.out; omega) (t16.out _ _ _ (by (try dsimp only); have h1 := u5.out; have h2 := Nat.le_refl 0; have h3 := l6.out; omega) (t15.out _ _ _ (by (try dsimp only); have h1 := u5.out; have h2 := Nat.le_refl 0; have h3 := l6.out; omega) (b5_1.out.ext x14)))).ext (y18.trans (x19.trans (y20.trans (x21.trans (y22.trans x23)))))).1
  have g5_2 := ((t17.out _ _ _ (by (try dsimp only); have h1 := u5.out; have h2 := Nat.le_refl 0; have h3 := l6.out; omega) (t16.out _ _ _ (by (try dsimp only); have h1 := u5.out; have h2 := Nat.le_refl 0; have h3 := l6.out; omega) (t15.out _ _ _ (by (try dsimp only); have h1 := u5.out; have h2 := Nat.le_refl 0; have h3 := l6.out; omega) (b5_2.out.ext x14)))).ext (y18.trans (x19.trans (y20.trans (x21.trans (y22.trans x23)))))).1
  have f4 : w10.heap.size < w23.heap.size := ((t17.out _ _ _ (by (try dsimp only); have h1 := u4.out; have h2 := (x12.gr.trans y13.gr).size; have h3 := l6.out; omega) (t16.out _ _ _ (by (try dsimp only); have h1 := u4.out; have h2 := (x12.gr.trans y13.gr).size; have h3 := l6.out; omega) (t15.out _ _ _ (by (try dsimp only); have h1 := u4.out; have h2 := (x12.gr.trans y13.gr).size; have h3 := l6.out; omega) (b4_0.out.ext (x12.trans (y13.trans x14)))))).ext (y18.trans (x19.trans (y20.trans (x21.trans (y22.trans x23)))))).2
  have f5 : w12.heap.size < w23.heap.size := ((t17.out _ _ _ (by (try dsimp only); have h1 := u5.out; have h2 := Nat.le_refl 0; have h3 := l6.out; omega) (t16.out _ _ _ (by (try dsimp only); have h1 := u5.out; have h2 := Nat.le_refl 0; have h3 := l6.out; omega) (t15.out _ _ _ (by (try dsimp only); have h1 := u5.out; have h2 := Nat.le_refl 0; have h3 := l6.out; omega) (b5_0.out.ext x14)))).ext (y18.trans (x19.trans (y20.trans (x21.trans (y22.trans x23)))))).2
  go_wp2_with fail
  refine (is_is (e6.gr (y11.gr.trans (x12.gr.trans (y13.gr.trans (x14.gr.trans (y15.trans (y16.trans (y17.trans (y18.gr.trans (x19.gr.trans (y20.gr.trans (x21.gr.trans (y22.gr.trans x23.gr))))))))))))) (e7.gr (y13.gr.trans (x14.gr.trans (y15.trans (y16.trans (y17.trans (y18.gr.trans (x19.gr.trans (y20.gr.trans (x21.gr.trans (y22.gr.trans x23.gr))))))))))) true (decide_eq_true (show ((mkRat 11 3) : Rat) = (mkRat 11 3) from rfl))).mono ?_
  rintro e w24 ⟨rfl, x24⟩
  have e24_ : Ext w w24 := Ext.trans e23_ x24
  clear g4_0 g4_1 g4_2 g5_0 g5_1 g5_2 f4 f5
  go_wp2_with fail
  obtain ⟨v25, hv25⟩ : ∃ W, W = (w24.alloc (.cells #[.int .i64 1] 3)) := ⟨_, rfl⟩
  have y25 : Ext w24 v25 := by rw [hv25]; exact ((Ext.refl _).alloc _)
  have r10 : Hid (OwnZ 3 w.heap.size v25 (.slice (some ⟨w24.heap.size, 0, none⟩) 1 1) [1]) := by rw [hv25]; exact OwnZ.ext (litz_n0 [1] _ rfl 1 rfl (by decide) e24_.size) (Ext.refl _)
  have e25_ : Ext w v25 := Ext.trans e24_ y25
  rw [← hv25]
  clear hv25
  refine (same13_calls (zo9.gr (y16.trans (y17.trans (y18.gr.trans (x19.gr.trans (y20.gr.trans (x21.gr.trans (y22.gr.trans (x23.gr.trans (x24.gr.trans y25.gr)))))))))).ints r10.out.ints true (by decide)).mono ?_
  rintro e w26 ⟨rfl, x26⟩
  have e26_ : Ext w w26 := Ext.trans e25_ x26
  go_wp2_with fail
  obtain ⟨v27, hv27⟩ : ∃ W, W = (w26.alloc (.cells #[.int .i64 0] 3)) := ⟨_, rfl⟩
  have y27 : Ext w26 v27 := by rw [hv27]; exact ((Ext.refl _).alloc _)
  have r11 : Hid (OwnZ 3 w.heap.size v27 (.slice (some ⟨w26.heap.size, 0, none⟩) 1 1) [0]) := by rw [hv27]; exact OwnZ.ext (litz_n0 [0] _ rfl 1 rfl (by decide) e26_.size) (Ext.refl _)
  have e27_ : Ext w v27 := Ext.trans e26_ y27
  rw [← hv27]
  clear hv27
  refine (same13_calls (zo10.gr (y17.trans (y18.gr.trans (x19.gr.trans (y20.gr.trans (x21.gr.trans (y22.gr.trans (x23.gr.trans (x24.gr.trans (y25.gr.trans (x26.gr.trans y27.gr))))))))))).ints r11.out.ints true (by decide)).mono ?_
  rintro e w28 ⟨rfl, x28⟩
  have e28_ : Ext w w28 := Ext.trans e27_ x28
  go_wp2_with fail
  go_ret
  exact ⟨rfl, e28_⟩

end Go.Proofs.Ytefeglkbikcjeaa
