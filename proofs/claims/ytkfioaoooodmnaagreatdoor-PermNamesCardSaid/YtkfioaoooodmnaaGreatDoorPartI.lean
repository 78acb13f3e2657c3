/- Facts and contracts, joined: PermPlain, Perm1, Sort, Perm2, Perm3, Perm4, PermKit, Awake12. -/
import Derived.Test.YtkfioaoooodmnaaGreatDoorInts2
import Derived.Shelf.Sort.Plain
import Derived.Shelf.Slices.In.SortNone
import Derived.Shelf.Slices.Clone
import Derived.Shelf.Slices.Turned
import Derived.Shelf.Slices.Equal
import Derived.Sort.OwnSortedInts

/- Rows, the draws that shuffle them: plain facts. -/
namespace Go.Proofs.YtkfioaoooodmnaaGreatDoor

/-- two places exchanged -/
def swapL (l : List Int) (i j : Nat) : List Int := (l.set i (l.getD j 0)).set j (l.getD i 0)
theorem swapL_length (l : List Int) (i j : Nat) : (swapL l i j).length = l.length := by simp [swapL]
theorem getD_in {l : List Int} {k : Nat} (h : k < l.length) : l.getD k 0 = l[k] := by simp [List.getD, h]
theorem getD_set (l : List Int) (i k : Nat) (a : Int) : (l.set i a).getD k 0 = if i = k ∧ k < l.length then a else l.getD k 0 := by
  by_cases hk : k < l.length
  · rw [getD_in (by simpa using hk), List.getElem_set, getD_in hk]
    by_cases e : i = k
    · rw [if_pos e, if_pos ⟨e, hk⟩]
    · rw [if_neg e, if_neg (fun h => e h.1)]
  · rw [if_neg (fun h => hk h.2)]
    simp [List.getD, Nat.not_lt.1 hk]
theorem swapL_get {l : List Int} {i j : Nat} (hi : i < l.length) (hj : j < l.length) (k : Nat) : (swapL l i j).getD k 0 = if k = j then l.getD i 0 else if k = i then l.getD j 0 else l.getD k 0 := by
  unfold swapL
  rw [getD_set, getD_set]
  by_cases h1 : k = j
  · rw [if_pos ⟨h1.symm, by simpa [h1] using hj⟩, if_pos h1]
  · rw [if_neg (fun h => h1 h.1.symm), if_neg h1]
    by_cases h2 : k = i
    · rw [if_pos ⟨h2.symm, by rw [h2]; exact hi⟩, if_pos h2]
    · rw [if_neg (fun h => h2 h.1.symm), if_neg h2]
theorem ext_getD {l m : List Int} (h : l.length = m.length) (k : ∀ i, i < l.length → l.getD i 0 = m.getD i 0) : l = m := by
  refine List.ext_getElem h fun i h1 h2 => ?_
  have := k i h1
  rwa [getD_in h1, getD_in h2] at this
theorem swapL_perm {l : List Int} {i j : Nat} (hi : i < l.length) (hj : j < l.length) : (swapL l i j).Perm l := by
  refine List.perm_iff_count.2 fun x => ?_
  unfold swapL
  rw [List.count_set (by simpa using hj), List.count_set hi]
  have e : (l.set i (l.getD j 0))[j]'(by simpa using hj) = l[j] := by
    rw [List.getElem_set]
    split
    · rw [getD_in hj]
    · rfl
  rw [e, getD_in hj, getD_in hi]
  have c1 : (if l[i] == x then 1 else 0) ≤ l.count x := by
    split
    · rename_i h; have h := eq_of_beq h
      exact List.count_pos_iff.2 (h ▸ List.getElem_mem hi)
    · omega
  by_cases h1 : l[i] == x <;> by_cases h2 : l[j] == x <;> simp only [h1, h2, if_true, if_false, Bool.false_eq_true] at c1 ⊢ <;> omega

/-- the things in their row -/
def things (n : Nat) : List Int := (List.range n).map fun i : Nat => (i : Int)
theorem things_length (n : Nat) : (things n).length = n := by simp [things]
theorem things_get {n i : Nat} (h : i < n) : (things n).getD i 0 = (i : Int) := by simp [things, List.getD, h]
theorem things_succ (n : Nat) : things (n + 1) = things n ++ [(n : Int)] := by simp [things, List.range_succ]
theorem things_nodup (n : Nat) : (things n).Nodup := by
  unfold things
  refine List.Pairwise.map _ (fun a b h => ?_) (List.nodup_range (n := n))
  intro e; exact h (Int.ofNat.inj e)
theorem things_sorted (n : Nat) : (things n).Pairwise (· ≤ ·) := by
  unfold things
  refine List.Pairwise.map _ (fun a b h => ?_) (List.pairwise_lt_range (n := n))
  exact Int.ofNat_le.2 (Nat.le_of_lt h)
theorem mem_things {n : Nat} {x : Int} : x ∈ things n ↔ 0 ≤ x ∧ x < n := by
  unfold things
  simp only [List.mem_map, List.mem_range]
  constructor
  · rintro ⟨a, h, rfl⟩; omega
  · rintro ⟨h1, h2⟩; exact ⟨x.toNat, by omega, by omega⟩

/-- the row that draws shuffle -/
def rowF : List Nat → List Int → List Int
  | [], l => l
  | d :: ds, l => rowF ds (swapL l (ds.length + 1) d)
/-- each draw is one -/
def okD : List Nat → Prop
  | [] => True
  | d :: ds => d ≤ ds.length + 1 ∧ okD ds
theorem rowF_length : ∀ (ds : List Nat) (l : List Int), (rowF ds l).length = l.length
  | [], _ => rfl
  | d :: ds, l => by rw [rowF, rowF_length ds, swapL_length]
theorem rowF_perm : ∀ (ds : List Nat) (l : List Int), okD ds → ds.length < l.length → (rowF ds l).Perm l
  | [], l, _, _ => List.Perm.refl _
  | d :: ds, l, h, hl => by
    simp only [List.length_cons] at hl
    exact (rowF_perm ds _ h.2 (by rw [swapL_length]; omega)).trans (swapL_perm (by omega) (by have := h.1; omega))
theorem rowF_above : ∀ (ds : List Nat) (l : List Int), okD ds → ds.length < l.length → ∀ k, ds.length < k → (rowF ds l).getD k 0 = l.getD k 0
  | [], l, _, _, _, _ => rfl
  | d :: ds, l, h, hl, k, hk => by
    simp only [List.length_cons] at hl hk
    have h1 := h.1
    rw [rowF, rowF_above ds _ h.2 (by rw [swapL_length]; omega) k (by omega), swapL_get (by omega) (by omega), if_neg (by omega), if_neg (by omega)]
theorem rowF_last (d : Nat) (ds : List Nat) (l : List Int) (h : okD (d :: ds)) (hl : ds.length + 1 < l.length) : (rowF (d :: ds) l).getD (ds.length + 1) 0 = l.getD d 0 := by
  have h1 := h.1
  rw [rowF, rowF_above ds _ h.2 (by rw [swapL_length]; omega) _ (by omega), swapL_get (by omega) (by omega)]
  split
  · rename_i e; rw [e]
  · rw [if_pos rfl]
/-- the first k draws done -/
def rowTo (D : List Nat) : Nat → List Int → List Int
  | 0, l => l
  | k + 1, l => swapL (rowTo D k l) (D.length - k) (D.getD k 0)
theorem rowTo_cons (d : Nat) (ds : List Nat) (l : List Int) : ∀ k, rowTo (d :: ds) (k + 1) l = rowTo ds k (swapL l (ds.length + 1) d)
  | 0 => rfl
  | k + 1 => by
    rw [rowTo, rowTo_cons d ds l k, rowTo]
    simp
theorem rowTo_all : ∀ (D : List Nat) (l : List Int), rowTo D D.length l = rowF D l
  | [], _ => rfl
  | d :: ds, l => by rw [List.length_cons, rowTo_cons, rowTo_all ds, rowF]
theorem rowTo_length (D : List Nat) (l : List Int) : ∀ k, (rowTo D k l).length = l.length
  | 0 => rfl
  | k + 1 => by rw [rowTo, swapL_length, rowTo_length D l k]

/-- the place of a thing -/
def posL (l : List Int) (x : Int) : Nat := l.findIdx (· == x)
theorem posL_get {l : List Int} (hn : l.Nodup) {i : Nat} (h : i < l.length) : posL l (l.getD i 0) = i := by
  unfold posL
  rw [List.findIdx_eq h, getD_in h]
  refine ⟨by simp, fun j hj => ?_⟩
  rw [beq_eq_false_iff_ne]
  exact (List.pairwise_iff_getElem.1 hn j i (by omega) h hj)
theorem posL_mem {l : List Int} {x : Int} (h : x ∈ l) : posL l x < l.length ∧ l.getD (posL l x) 0 = x := by
  have h1 : posL l x < l.length := List.findIdx_lt_length.2 ⟨x, h, by simp⟩
  refine ⟨h1, ?_⟩
  rw [getD_in h1]
  have := List.findIdx_getElem (w := h1)
  exact eq_of_beq this

/-- the draws by which a row comes, from the place i down -/
def drawsF (R : List Int) : Nat → List Int → List Nat
  | 0, _ => []
  | i + 1, now => posL now (R.getD (i + 1) 0) :: drawsF R i (swapL now (i + 1) (posL now (R.getD (i + 1) 0)))
theorem drawsF_length (R : List Int) : ∀ (i : Nat) (now : List Int), (drawsF R i now).length = i
  | 0, _ => rfl
  | i + 1, now => by simp only [drawsF, List.length_cons]; rw [drawsF_length R i]
/-- draws, told from their row -/
theorem drawsF_row : ∀ (ds : List Nat) (l : List Int), okD ds → ds.length < l.length → l.Nodup → drawsF (rowF ds l) ds.length l = ds
  | [], _, _, _, _ => rfl
  | d :: ds, l, h, hl, hn => by
    simp only [List.length_cons] at hl
    have h1 := h.1
    have e : (rowF (d :: ds) l).getD (ds.length + 1) 0 = l.getD d 0 := rowF_last d ds l h (by omega)
    show posL l ((rowF (d :: ds) l).getD (ds.length + 1) 0) :: drawsF (rowF (d :: ds) l) ds.length (swapL l (ds.length + 1) (posL l ((rowF (d :: ds) l).getD (ds.length + 1) 0))) = _
    rw [e, posL_get hn (by omega)]
    congr 1
    exact drawsF_row ds _ h.2 (by rw [swapL_length]; omega) ((swapL_perm (by omega) (by omega)).nodup_iff.2 hn)
theorem row_back (R : List Int) : ∀ (i : Nat) (now : List Int), R.Perm now → now.Nodup → i < now.length → (∀ k, i < k → k < now.length → R.getD k 0 = now.getD k 0) → okD (drawsF R i now) ∧ rowF (drawsF R i now) now = R
  | 0, now, hp, hn, hl, ha => by
    refine ⟨trivial, ?_⟩
    show now = R
    have hlen := hp.length_eq
    have hx : R.getD 0 0 ∈ now := hp.mem_iff.1 (by rw [getD_in (by omega)]; exact List.getElem_mem _)
    obtain ⟨p1, p2⟩ := posL_mem hx
    refine (ext_getD hlen fun i hi => ?_).symm
    rcases Nat.eq_zero_or_pos i with h0 | h0
    · subst h0
      rcases Nat.eq_zero_or_pos (posL now (R.getD 0 0)) with h | h
      · rw [← p2, h]
      · have h3 := ha _ h p1
        rw [p2] at h3
        have hR : R.Nodup := hp.nodup_iff.2 hn
        have q1 := posL_get hR (i := posL now (R.getD 0 0)) (by omega)
        have q2 := posL_get hR (i := 0) (by omega)
        rw [h3, q2] at q1
        omega
    · exact ha i h0 (by omega)
  | i + 1, now, hp, hn, hl, ha => by
    have hlen := hp.length_eq
    have hx : R.getD (i + 1) 0 ∈ now := hp.mem_iff.1 (by rw [getD_in (by omega)]; exact List.getElem_mem _)
    obtain ⟨p1, p2⟩ := posL_mem hx
    obtain ⟨j, hj⟩ : ∃ j, posL now (R.getD (i + 1) 0) = j := ⟨_, rfl⟩
    rw [hj] at p1 p2
    have hji : j ≤ i + 1 := by
      rcases Nat.lt_or_ge (i + 1) j with h | h
      · have h3 := ha j h p1
        rw [p2] at h3
        have hR : R.Nodup := hp.nodup_iff.2 hn
        have q1 := posL_get hR (i := j) (by omega)
        have q2 := posL_get hR (i := i + 1) (by omega)
        rw [h3, q2] at q1
        omega
      · exact h
    have hsp := swapL_perm (l := now) (i := i + 1) (j := j) hl p1
    have ih := row_back R i (swapL now (i + 1) j) (hp.trans hsp.symm) (hsp.nodup_iff.2 hn) (by rw [swapL_length]; omega) (fun k hk hkl => by
      rw [swapL_length] at hkl
      rw [swapL_get hl p1]
      split
      · rename_i e
        have : j = i + 1 := by omega
        rw [e, this]; rw [← this, p2, this]
      · split
        · rename_i e; rw [e, p2]
        · exact ha k (by omega) hkl)
    show okD (posL now (R.getD (i + 1) 0) :: drawsF R i (swapL now (i + 1) (posL now (R.getD (i + 1) 0)))) ∧ _
    rw [show rowF (drawsF R (i + 1) now) now = rowF (drawsF R i (swapL now (i + 1) (posL now (R.getD (i + 1) 0)))) (swapL now ((drawsF R i (swapL now (i + 1) (posL now (R.getD (i + 1) 0)))).length + 1) (posL now (R.getD (i + 1) 0))) from rfl]
    rw [drawsF_length, hj]
    exact ⟨⟨by rw [drawsF_length]; exact hji, ih.1⟩, ih.2⟩
end Go.Proofs.YtkfioaoooodmnaaGreatDoor

/- The contracts of package perm: things, Row. -/
namespace Go.Proofs.YtkfioaoooodmnaaGreatDoor
open Go Go.RowKit

/-- the call returns the numbers L in new memory -/
def RetZI (w : World) (L : List Int) (e : Ending) (w' : World) : Prop := ∃ v, e = .returned v ∧ OwnZ 3 w.heap.size w' v L ∧ Ext w w'
/-- the first things are laid, the others are 0 -/
def thingsTo (n k : Nat) : List Int := things k ++ List.replicate (n - k) 0
theorem thingsTo_length {n k : Nat} (h : k ≤ n) : (thingsTo n k).length = n := by simp [thingsTo, things_length]; omega
theorem thingsTo_zero (n : Nat) : thingsTo n 0 = List.replicate n 0 := by simp [thingsTo, things]
theorem thingsTo_all (n : Nat) : thingsTo n n = things n := by simp [thingsTo]
theorem thingsTo_set {n k : Nat} (h : k < n) : (thingsTo n k).set k (k : Int) = thingsTo n (k + 1) := by
  unfold thingsTo
  rw [List.set_append_right _ _ (by rw [things_length]; omega), things_length, Nat.sub_self, things_succ, List.append_assoc]
  obtain ⟨m, hm⟩ : ∃ m, n - k = m + 1 := ⟨n - k - 1, by omega⟩
  rw [hm, show n - (k + 1) = m by omega]
  simp [List.replicate_succ]

set_option maxHeartbeats 1000000 in
set_option maxRecDepth 100000 in
theorem things_calls (w : World) (n : Nat) (h1 : 1 ≤ n) (hn : n ≤ 64) :
    Calls Tryz.prog 76 #[.int .i64 (n : Int)] w fun e w' => e = .returned (.slice (some ⟨w.heap.size, 0, none⟩) n n) ∧ RowZ 3 w.heap.size n (things n) w' ∧ Ext w w' := by
  have NL : Hid (n ≤ 100000) := by show n ≤ 100000; omega
  have t1 : (n : Int) ≤ 64 := by omega
  have H1 := Lib.hid h1
  clear h1 hn
  go_enter Tryz.func76, Tryz.ntmps76
  go_wp2_with (at_make; refine make_ints rfl _ _ 65 3 Tryz.underlying65 info_int rfl n _ rfl rfl rfl NL.out ?_; intro w1 hown hgrow; have X1 : Hid (Ext w w1) := (Ext.refl w).grown hgrow (fun k hk => by cases hk); have R1 : Hid (RowG 3 w.heap.size n (List.replicate n 0) w1) := RowG.made hown (by simp); clear hown hgrow)
  obtain ⟨g, hg⟩ : ∃ g, w.heap.size = g := ⟨_, rfl⟩
  rw [hg] at R1 ⊢
  have HG : Hid (w.heap.size ≤ g) := by show _ ≤ g; omega
  have HGE : Hid (w.heap.size = g) := hg
  rw [← hg]
  rw [hg]
  clear hg
  go_loopw [8] (fun v8 wr => ∃ k : Nat, v8 = .int .i64 (k : Int) ∧ k ≤ n ∧ RowG 3 g n (thingsTo n k) wr ∧ Ext w wr) (fun v8 _ => n - (intOf v8).toNat)
  case atStart => exact ⟨0, rfl, Nat.zero_le _, by rw [thingsTo_zero]; exact R1.out, X1.out⟩
  case round =>
    obtain ⟨k, rfl, hk, hr, hx⟩ := hrel
    have R := Lib.hid hr
    have X := Lib.hid hx
    clear hr hx
    by_cases hkn : k < n
    · have hc := R.out.cell (j := k) (by rw [thingsTo_length hk]; exact hkn)
      have hf := R.out.free k
      have LT := Lib.hid hkn
      go_wp2_with fail
      refine ⟨⟨k + 1, by go_num, LT.out, ?_, X.out.setCell HG.out _⟩, by simp [intOf]; have := LT.out; omega⟩
      rw [← thingsTo_set LT.out]; exact R.out.set k _
    · obtain rfl : n = k := by omega
      have HR : Hid (RowG 3 g n (things n) wr) := by have := R.out; rwa [thingsTo_all] at this
      go_wp2_with fail
      go_ret
      have e := HGE.out
      subst e
      exact ⟨rfl, ⟨HR.out, by decide⟩, X.out⟩

set_option maxHeartbeats 1000000 in
set_option maxRecDepth 100000 in
theorem things_zero (w : World) :
    Calls Tryz.prog 76 #[.int .i64 0] w fun e w' => ∃ p, e = .returned (.slice p 0 0) ∧ Ext w w' := by
  go_enter Tryz.func76, Tryz.ntmps76
  go_wp2_with (at_make; refine make_ints rfl _ _ 65 3 Tryz.underlying65 info_int rfl 0 _ rfl rfl rfl (by decide) ?_; intro w1 hown hgrow; have X1 : Hid (Ext w w1) := (Ext.refl w).grown hgrow (fun k hk => by cases hk); clear hown hgrow)
  refine wp_loop_rounds 1 ?_
  rw [rounds_succ]
  go_wp2_with fail
  go_ret
  exact ⟨_, rfl, X1.out⟩

/-- the draws, told as numbers -/
def natsOf (D : List Int) : List Nat := D.map Int.toNat
/-- what is wrong of draws -/
def okI : List Int → Prop
  | [] => True
  | d :: ds => (0 ≤ d ∧ d ≤ ds.length + 1) ∧ okI ds
instance okI_dec : (D : List Int) → Decidable (okI D)
  | [] => .isTrue trivial
  | _ :: ds => have := okI_dec ds; by unfold okI; infer_instance
def errP (D : List Int) : Nat := if 64 ≤ D.length then 5 else if okI D then 0 else 1
theorem okI.get : ∀ {D : List Int}, okI D → ∀ {k : Nat}, k < D.length → 0 ≤ D.getD k 0 ∧ D.getD k 0 ≤ ((D.length - k : Nat) : Int)
  | d :: ds, h, 0, _ => by simpa using h.1
  | d :: ds, h, k + 1, hk => by
    have := h.2.get (k := k) (by simpa using hk)
    simpa using this
theorem okI_of : ∀ {D : List Int}, (∀ k, k < D.length → 0 ≤ D.getD k 0 ∧ D.getD k 0 ≤ ((D.length - k : Nat) : Int)) → okI D
  | [], _ => trivial
  | d :: ds, h => ⟨by simpa using h 0 (by simp), okI_of fun k hk => by simpa using h (k + 1) (by simpa using hk)⟩
theorem okI.nats : ∀ {D : List Int}, okI D → okD (natsOf D)
  | [], _ => trivial
  | d :: ds, h => ⟨by have := h.1; simp; omega, h.2.nats⟩
theorem natsOf_length (D : List Int) : (natsOf D).length = D.length := by simp [natsOf]
theorem natsOf_get {D : List Int} {k : Nat} (h : k < D.length) : (natsOf D).getD k 0 = (D.getD k 0).toNat := by simp [natsOf, List.getD, h]

set_option maxHeartbeats 2000000 in
set_option maxRecDepth 100000 in
theorem prow_ok {w : World} {v : Value} {D : List Int} (hD : Ints w v D) (h : errP D = 0) :
    Calls Tryz.prog 41 #[v] w fun e w' => ∃ g cap, e = .returned (.tuple #[.slice (some ⟨g, 0, none⟩) (D.length + 1) cap, .int .i64 0]) ∧ w.heap.size ≤ g ∧ RowZ 3 g cap (rowF (natsOf D) (things (D.length + 1))) w' ∧ Ext w w' := by
  obtain ⟨a, cap, rfl, h1, h2, h3⟩ := hD.open
  unfold maxLen at h2
  have H3 := Lib.hid h3
  have hl : D.length < 64 ∧ okI D := by
    unfold errP at h
    split at h
    · cases h
    · split at h
      · rename_i g k; exact ⟨by omega, k⟩
      · cases h
  obtain ⟨n, hn⟩ : ∃ n, D.length = n := ⟨_, rfl⟩
  have HN := Lib.hid hn
  have HO := Lib.hid hl.2
  have t1 : (n : Int) ≤ 63 := by have := hl.1; omega
  have N1 : Hid (n + 1 ≤ 64) := by show n + 1 ≤ 64; omega
  rw [hn] at h1 ⊢
  clear h3 hD h hl hn
  go_enter Tryz.func41, Tryz.ntmps41
  go_wp2_with fail
  refine (things_calls _ (n + 1) (by omega) N1.out).mono ?_
  rintro e w1 ⟨rfl, hr, x1⟩
  obtain ⟨g, hg⟩ : ∃ g, w.heap.size = g := ⟨_, rfl⟩
  rw [hg] at hr ⊢
  have HG : Hid (w.heap.size ≤ g) := by show _ ≤ g; omega
  have R1 := Lib.hid hr.1
  have X1 := Lib.hid x1
  clear hr x1 hg
  go_wp2_with fail
  go_loopw [17] (fun v17 wr => ∃ k : Nat, v17 = .int .i64 (k : Int) ∧ k ≤ n ∧ RowG 3 g (n + 1) (rowTo (natsOf D) k (things (n + 1))) wr ∧ Ext w wr) (fun v17 _ => n - (intOf v17).toNat)
  case atStart => exact ⟨0, rfl, Nat.zero_le _, R1.out, X1.out⟩
  case round =>
    obtain ⟨k, rfl, hk, hr, hx⟩ := hrel
    have R := Lib.hid hr
    have X := Lib.hid hx
    clear hr hx
    by_cases hkn : k < n
    · obtain ⟨b, o, rfl, hb, hc⟩ := H3.out k (by rw [HN.out]; exact hkn)
      obtain ⟨hd1, hd2⟩ := HO.out.get (k := k) (by rw [HN.out]; exact hkn)
      obtain ⟨d, hd⟩ : ∃ d : Nat, D.getD k 0 = (d : Int) := ⟨(D.getD k 0).toNat, by omega⟩
      obtain ⟨i, hi⟩ : ∃ i, n - k = i := ⟨_, rfl⟩
      rw [hd, HN.out, hi] at hd2
      have hcd : wr.cell? ⟨b, o + k, none⟩ = some (.int .i64 (d : Int)) := by rw [Below.cell X.out (p := ⟨b, o + k, none⟩) hb, hc k (by rw [HN.out]; exact hkn), hd]
      have hw1 : (n : Int) - k = (i : Int) := by omega
      have hdi : d ≤ i := by omega
      have hin : i < n + 1 := by omega
      have hdn : d < n + 1 := by omega
      have LL : Hid ((rowTo (natsOf D) k (things (n + 1))).length = n + 1) := by show _ = _; rw [rowTo_length, things_length]
      have ci := R.out.cell (j := i) (by rw [LL.out]; exact hin)
      have cd := R.out.cell (j := d) (by rw [LL.out]; exact hdn)
      have fi := R.out.free i
      have fd := R.out.free d
      have HS : Hid (swapL (rowTo (natsOf D) k (things (n + 1))) i d = rowTo (natsOf D) (k + 1) (things (n + 1))) := by
        show _ = _
        rw [rowTo, natsOf_length, HN.out, hi, natsOf_get (by rw [HN.out]; exact hkn), hd]; rfl
      obtain ⟨L, hL⟩ : ∃ L, rowTo (natsOf D) k (things (n + 1)) = L := ⟨_, rfl⟩
      rw [hL] at ci cd HS R
      obtain ⟨x, hx⟩ : ∃ x, L.getD i 0 = x := ⟨_, rfl⟩
      obtain ⟨y, hy⟩ : ∃ y, L.getD d 0 = y := ⟨_, rfl⟩
      rw [hx] at ci
      rw [hy] at cd
      have HX := Lib.hid hx
      have HY := Lib.hid hy
      have HKN := Lib.hid hkn
      have hwr : IntKind.i64.wrap ((n : Int) - k) = (i : Int) := by rw [hw1, IntWalk.i64_in _ (by omega)]
      have HE2 : Hid (RowG 3 g (n + 1) (rowTo (natsOf D) (k + 1) (things (n + 1))) (((wr.setCell ⟨g, i, none⟩ (.int .i64 y)).setCell ⟨g, d, none⟩ (.int .i64 x)).drew)) := by
        rw [← HS.out, swapL, HX.out, HY.out]
        exact ((R.out.set i y).set d x).ext (Ext.refl _).drew
      have HX2 : Hid (Ext w (((wr.setCell ⟨g, i, none⟩ (.int .i64 y)).setCell ⟨g, d, none⟩ (.int .i64 x)).drew)) := ((X.out.setCell HG.out _).setCell HG.out _).drew
      clear hc hd1 hd hi hL hx hy hd2 hw1
      by_cases hid : i = d
      · subst hid
        have e := HX.out.symm.trans HY.out
        subst e
        go_wp2_with fail
        go_region
        go_wp2_with fail
        exact ⟨⟨k + 1, by go_num, HKN.out, HE2.out, HX2.out⟩, by simp [intOf]; have := HKN.out; omega⟩
      · have hid2 : ¬ d = i := fun e => hid e.symm
        go_wp2_with fail
        go_region
        go_wp2_with fail
        exact ⟨⟨k + 1, by go_num, HKN.out, HE2.out, HX2.out⟩, by simp [intOf]; have := HKN.out; omega⟩
    · obtain rfl : n = k := by omega
      have HR : Hid (RowG 3 g (n + 1) (rowF (natsOf D) (things (n + 1))) wr) := by have := R.out; rwa [← HN.out, ← natsOf_length D, rowTo_all, natsOf_length, HN.out] at this
      go_wp2_with fail
      go_ret2
      exact ⟨g, n + 1, rfl, HG.out, ⟨HR.out, by decide⟩, X.out⟩

set_option maxHeartbeats 2000000 in
set_option maxRecDepth 100000 in
theorem prow_no {w : World} {v : Value} {D : List Int} (hD : Ints w v D) (k : Nat) (h : errP D = k) (h0 : k ≠ 0) :
    Calls Tryz.prog 41 #[v] w fun e w' => e = .returned (.tuple #[.slice none 0 0, .int .i64 (k : Int)]) ∧ Ext w w' := by
  obtain ⟨a, cap, rfl, h1, h2, h3⟩ := hD.open
  unfold maxLen at h2
  have H3 := Lib.hid h3
  obtain ⟨n, hn⟩ : ∃ n, D.length = n := ⟨_, rfl⟩
  have HN := Lib.hid hn
  rw [hn] at h1 ⊢
  by_cases hl : 64 ≤ n
  · have HK : Hid (k = 5) := by show _ = _; rw [← h]; unfold errP; rw [hn, if_pos hl]
    have t1 : (64 : Int) ≤ n := by omega
    clear h3 hD h hn hl h0
    go_enter Tryz.func41, Tryz.ntmps41
    go_wp2_with fail
    go_ret2
    exact ⟨by rw [HK.out]; rfl, Ext.refl _⟩
  have hk : k = 1 ∧ ¬ okI D := by
    unfold errP at h
    rw [hn, if_neg hl] at h
    split at h
    · exact absurd h.symm h0
    · rename_i g; exact ⟨h.symm, g⟩
  obtain ⟨rfl, hno⟩ := hk
  have HNO := Lib.hid hno
  have t1 : (n : Int) ≤ 63 := by omega
  have N1 : Hid (n + 1 ≤ 64) := by show n + 1 ≤ 64; omega
  clear h3 hD h hn hl h0 hno
  go_enter Tryz.func41, Tryz.ntmps41
  go_wp2_with fail
  refine (things_calls _ (n + 1) (by omega) N1.out).mono ?_
  rintro e w1 ⟨rfl, hr, x1⟩
  obtain ⟨g, hg⟩ : ∃ g, w.heap.size = g := ⟨_, rfl⟩
  rw [hg] at hr ⊢
  have HG : Hid (w.heap.size ≤ g) := by show _ ≤ g; omega
  have R1 := Lib.hid hr.1
  have X1 := Lib.hid x1
  clear hr x1 hg
  go_wp2_with fail
  go_loopw [17] (fun v17 wr => ∃ k : Nat, v17 = .int .i64 (k : Int) ∧ k ≤ n ∧ Hid (∀ j, j < k → 0 ≤ D.getD j 0 ∧ D.getD j 0 ≤ ((n - j : Nat) : Int)) ∧ (∃ L, L.length = n + 1 ∧ RowG 3 g (n + 1) L wr) ∧ Ext w wr) (fun v17 _ => n - (intOf v17).toNat)
  case atStart => exact ⟨0, rfl, Nat.zero_le _, fun j hj => by omega, ⟨_, things_length _, R1.out⟩, X1.out⟩
  case round =>
    obtain ⟨k, rfl, hk, hok, ⟨L, hL, hr⟩, hx⟩ := hrel
    have R := Lib.hid hr
    have X := Lib.hid hx
    have LL := Lib.hid hL
    clear hr hx hL
    by_cases hkn : k < n
    · obtain ⟨b, o, rfl, hb, hc⟩ := H3.out k (by rw [HN.out]; exact hkn)
      obtain ⟨z, hz⟩ : ∃ z, D.getD k 0 = z := ⟨_, rfl⟩
      obtain ⟨i, hi⟩ : ∃ i, n - k = i := ⟨_, rfl⟩
      have hw1 : (n : Int) - k = (i : Int) := by omega
      have hcd : wr.cell? ⟨b, o + k, none⟩ = some (.int .i64 z) := by rw [Below.cell X.out (p := ⟨b, o + k, none⟩) hb, hc k (by rw [HN.out]; exact hkn), hz]
      have hwr : IntKind.i64.wrap ((n : Int) - k) = (i : Int) := by rw [hw1, IntWalk.i64_in _ (by omega)]
      have HKN := Lib.hid hkn
      have hin : i < n + 1 := by omega
      by_cases hz0 : z < 0
      · clear hc hi hz hw1
        go_wp2_with fail
        go_ret2
        exact ⟨rfl, X.out⟩
      by_cases hzi : (i : Int) < z
      · clear hc hi hz hw1
        go_wp2_with fail
        go_ret2
        exact ⟨rfl, X.out⟩
      have HOK : Hid (∀ j, j < k + 1 → 0 ≤ D.getD j 0 ∧ D.getD j 0 ≤ ((n - j : Nat) : Int)) := fun j hj => by
        by_cases e : j < k
        · exact hok.out j e
        · obtain rfl : j = k := by omega
          rw [hz, hi]; omega
      obtain ⟨d, rfl⟩ : ∃ d : Nat, z = (d : Int) := ⟨z.toNat, by omega⟩
      have hdi : d ≤ i := by omega
      have hdn : d < n + 1 := by omega
      have ci := R.out.cell (j := i) (by rw [LL.out]; exact hin)
      have cd := R.out.cell (j := d) (by rw [LL.out]; exact hdn)
      have fi := R.out.free i
      have fd := R.out.free d
      obtain ⟨x, hx⟩ : ∃ x, L.getD i 0 = x := ⟨_, rfl⟩
      obtain ⟨y, hy⟩ : ∃ y, L.getD d 0 = y := ⟨_, rfl⟩
      rw [hx] at ci
      rw [hy] at cd
      have HX := Lib.hid hx
      have HY := Lib.hid hy
      have HE2 : Hid (RowG 3 g (n + 1) ((L.set i y).set d x) (((wr.setCell ⟨g, i, none⟩ (.int .i64 y)).setCell ⟨g, d, none⟩ (.int .i64 x)).drew)) := ((R.out.set i y).set d x).ext (Ext.refl _).drew
      have HX2 : Hid (Ext w (((wr.setCell ⟨g, i, none⟩ (.int .i64 y)).setCell ⟨g, d, none⟩ (.int .i64 x)).drew)) := ((X.out.setCell HG.out _).setCell HG.out _).drew
      have HLL : Hid (((L.set i y).set d x).length = n + 1) := by show _ = _; rw [List.length_set, List.length_set, LL.out]
      clear hc hz hi hx hy hw1 hz0 hzi hok
      by_cases hid : i = d
      · subst hid
        have e := HX.out.symm.trans HY.out
        subst e
        go_wp2_with fail
        go_region
        go_wp2_with fail
        exact ⟨⟨k + 1, by go_num, HKN.out, HOK, ⟨_, HLL.out, HE2.out⟩, HX2.out⟩, by simp [intOf]; have := HKN.out; omega⟩
      · have hid2 : ¬ d = i := fun e => hid e.symm
        go_wp2_with fail
        go_region
        go_wp2_with fail
        exact ⟨⟨k + 1, by go_num, HKN.out, HOK, ⟨_, HLL.out, HE2.out⟩, HX2.out⟩, by simp [intOf]; have := HKN.out; omega⟩
    · obtain rfl : n = k := by omega
      exact absurd (okI_of (D := D) (fun j hj => by rw [HN.out] at hj ⊢; exact hok.out j hj)) HNO.out
end Go.Proofs.YtkfioaoooodmnaaGreatDoor

/- slices.Sort, Clone, Equal, Index at []int: the shelf's contracts laid at this program (by the kit's tool lay-plain, its numbers by name), and what they say of rows. -/
namespace Go.Proofs
open Go.Shelf
def Tryz.lays189_ren : Go.Shelf.Ren := ⟨fun | 189 => 78 | 125 => 113 | 257 => 112 | 128 => 162 | 129 => 163 | 294 => 153 | 295 => 154 | 296 => 155 | 297 => 156 | 298 => 157 | 299 => 158 | 216 => 159 | 300 => 160 | 301 => 161 | 328 => 180 | 329 => 181 | 330 => 182 | 331 => 183 | 332 => 184 | 215 => 185 | 343 => 190 | n => n, fun | 28 => 65 | 3 => 3 | 46 => 112 | 0 => 0 | 51 => 186 | 53 => 92 | 4 => 4 | 183 => 179 | 182 => 178 | 131 => 52 | 5 => 5 | 9 => 9 | 218 => 198 | 222 => 202 | 228 => 205 | 229 => 206 | n => n, fun | n => n⟩
theorem Tryz.lays189 : Go.Proofs.Lays.n189 Tryz.prog Tryz.lays189_ren := {
  mixed := by kernel_rfl
  f125 := Tryz.func113.trans (congrArg some (by kernel_rfl))
  f128 := Tryz.func162.trans (congrArg some (by kernel_rfl))
  f129 := Tryz.func163.trans (congrArg some (by kernel_rfl))
  f189 := Tryz.func78.trans (congrArg some (by kernel_rfl))
  f215 := Tryz.func185.trans (congrArg some (by kernel_rfl))
  f216 := Tryz.func159.trans (congrArg some (by kernel_rfl))
  f257 := Tryz.func112.trans (congrArg some (by kernel_rfl))
  f294 := Tryz.func153.trans (congrArg some (by kernel_rfl))
  f295 := Tryz.func154.trans (congrArg some (by kernel_rfl))
  f296 := Tryz.func155.trans (congrArg some (by kernel_rfl))
  f297 := Tryz.func156.trans (congrArg some (by kernel_rfl))
  f298 := Tryz.func157.trans (congrArg some (by kernel_rfl))
  f299 := Tryz.func158.trans (congrArg some (by kernel_rfl))
  f300 := Tryz.func160.trans (congrArg some (by kernel_rfl))
  f301 := Tryz.func161.trans (congrArg some (by kernel_rfl))
  f328 := Tryz.func180.trans (congrArg some (by kernel_rfl))
  f329 := Tryz.func181.trans (congrArg some (by kernel_rfl))
  f330 := Tryz.func182.trans (congrArg some (by kernel_rfl))
  f331 := Tryz.func183.trans (congrArg some (by kernel_rfl))
  f332 := Tryz.func184.trans (congrArg some (by kernel_rfl))
  f343 := Tryz.func190.trans (congrArg some (by kernel_rfl))
  t0 := Tryz.underlying0
  a0 := Tryz.isAgg0
  z0 := Tryz.sizeOf0
  v0 := Tryz.zeroValue0
  t3 := Tryz.underlying3
  a3 := Tryz.isAgg3
  z3 := Tryz.sizeOf3
  v3 := Tryz.zeroValue3
  t4 := Tryz.underlying4
  a4 := Tryz.isAgg4
  z4 := Tryz.sizeOf4
  v4 := Tryz.zeroValue4
  t5 := Tryz.underlying5
  a5 := Tryz.isAgg5
  z5 := Tryz.sizeOf5
  v5 := Tryz.zeroValue5
  t9 := Tryz.underlying9
  a9 := Tryz.isAgg9
  z9 := Tryz.sizeOf9
  v9 := Tryz.zeroValue9
  t28 := Tryz.underlying65
  a28 := Tryz.isAgg65
  z28 := Tryz.sizeOf65
  v28 := Tryz.zeroValue65
  t46 := Tryz.underlying112
  a46 := Tryz.isAgg112
  z46 := Tryz.sizeOf112
  v46 := Tryz.zeroValue112
  t51 := Tryz.underlying186
  a51 := Tryz.isAgg186
  z51 := Tryz.sizeOf186
  v51 := Tryz.zeroValue186
  t53 := Tryz.underlying92
  a53 := Tryz.isAgg92
  z53 := Tryz.sizeOf92
  v53 := Tryz.zeroValue92
  t131 := Tryz.underlying52
  a131 := Tryz.isAgg52
  z131 := Tryz.sizeOf52
  v131 := Tryz.zeroValue52
  t182 := Tryz.underlying178
  a182 := Tryz.isAgg178
  z182 := Tryz.sizeOf178
  v182 := Tryz.zeroValue178
  t183 := Tryz.underlying179
  a183 := Tryz.isAgg179
  z183 := Tryz.sizeOf179
  v183 := Tryz.zeroValue179
  t218 := Tryz.underlying198
  a218 := Tryz.isAgg198
  z218 := Tryz.sizeOf198
  v218 := Tryz.zeroValue198
  t222 := Tryz.underlying202
  a222 := Tryz.isAgg202
  z222 := Tryz.sizeOf202
  v222 := Tryz.zeroValue202
  t228 := Tryz.underlying205
  a228 := Tryz.isAgg205
  z228 := Tryz.sizeOf205
  v228 := Tryz.zeroValue205
  t229 := Tryz.underlying206
  a229 := Tryz.isAgg206
  z229 := Tryz.sizeOf206
  v229 := Tryz.zeroValue206 }
def Tryz.laysNm215_ren : Go.Shelf.Ren := ⟨fun | 15 => 77 | n => n, fun | 22 => 65 | 3 => 3 | 4 => 4 | n => n, fun | n => n⟩
theorem Tryz.laysNm215 : Go.Proofs.Lays2.n15 Tryz.prog Tryz.laysNm215_ren := {
  mixed := by kernel_rfl
  f15 := Tryz.func77.trans (congrArg some (by kernel_rfl))
  t3 := Tryz.underlying3
  a3 := Tryz.isAgg3
  z3 := Tryz.sizeOf3
  v3 := Tryz.zeroValue3
  t4 := Tryz.underlying4
  a4 := Tryz.isAgg4
  z4 := Tryz.sizeOf4
  v4 := Tryz.zeroValue4
  t22 := Tryz.underlying65
  a22 := Tryz.isAgg65
  z22 := Tryz.sizeOf65
  v22 := Tryz.zeroValue65
  i3 := by kernel_rfl }
def Tryz.lays111_ren : Go.Shelf.Ren := ⟨fun | 111 => 79 | n => n, fun | 28 => 65 | 3 => 3 | 4 => 4 | 0 => 0 | n => n, fun | n => n⟩
theorem Tryz.lays111 : Go.Proofs.Lays.n111 Tryz.prog Tryz.lays111_ren := {
  mixed := by kernel_rfl
  f111 := Tryz.func79.trans (congrArg some (by kernel_rfl))
  t0 := Tryz.underlying0
  a0 := Tryz.isAgg0
  z0 := Tryz.sizeOf0
  v0 := Tryz.zeroValue0
  t3 := Tryz.underlying3
  a3 := Tryz.isAgg3
  z3 := Tryz.sizeOf3
  v3 := Tryz.zeroValue3
  t4 := Tryz.underlying4
  a4 := Tryz.isAgg4
  z4 := Tryz.sizeOf4
  v4 := Tryz.zeroValue4
  t28 := Tryz.underlying65
  a28 := Tryz.isAgg65
  z28 := Tryz.sizeOf65
  v28 := Tryz.zeroValue65 }
def Tryz.lays108_ren : Go.Shelf.Ren := ⟨fun | 108 => 80 | n => n, fun | 28 => 65 | 3 => 3 | 0 => 0 | 4 => 4 | n => n, fun | n => n⟩
theorem Tryz.lays108 : Go.Proofs.Lays.n108 Tryz.prog Tryz.lays108_ren := {
  mixed := by kernel_rfl
  f108 := Tryz.func80.trans (congrArg some (by kernel_rfl))
  t0 := Tryz.underlying0
  a0 := Tryz.isAgg0
  z0 := Tryz.sizeOf0
  v0 := Tryz.zeroValue0
  t3 := Tryz.underlying3
  a3 := Tryz.isAgg3
  z3 := Tryz.sizeOf3
  v3 := Tryz.zeroValue3
  t4 := Tryz.underlying4
  a4 := Tryz.isAgg4
  z4 := Tryz.sizeOf4
  v4 := Tryz.zeroValue4
  t28 := Tryz.underlying65
  a28 := Tryz.isAgg65
  z28 := Tryz.sizeOf65
  v28 := Tryz.zeroValue65 }
end Go.Proofs
namespace Go.Proofs.YtkfioaoooodmnaaGreatDoor
open Go Go.RowKit Go.Shelf

theorem map_zv (L : List Int) : L.map zv = L.map (Value.int .i64) := rfl
/-- the numbers, sorted -/
def sortL (L : List Int) : List Int := L.mergeSort fun x y => decide (x ≤ y)
theorem sortL_perm (L : List Int) : (sortL L).Perm L := List.mergeSort_perm _ _
theorem sortL_length (L : List Int) : (sortL L).length = L.length := (sortL_perm L).length_eq

theorem sort_calls {w : World} {g cap : Nat} {L : List Int} (h : RowG 3 g cap L w) (hl : L.length ≤ 100000) :
    Calls Tryz.prog 78 #[.slice (some ⟨g, 0, none⟩) L.length cap] w fun e w' => e = .returned (.tuple #[]) ∧ RowG 3 g cap (sortL L) w' ∧ w.grownBy w' (some g) := by
  have hH : Go.Sort.Holds (Value.int .i64) w g 0 L.toArray := fun j hj => by
    have hj' : j < L.length := by simpa using hj
    refine ⟨?_, h.free _⟩
    have := h.cell hj'
    rw [Nat.zero_add, this]
    simp [List.getD, hj']
  refine (Any.slices_Sort_int Tryz.lays189 g 0 cap L w hH h.lt (by omega)).mono ?_
  rintro e w' ⟨he, n, os, rfl⟩
  refine ⟨he, ?_, grownBy_sortedI _⟩
  obtain ⟨h1, h2⟩ := h
  rcases h2 with ⟨h2, -⟩ | ⟨g', cap', cur, e2, hg, hh, h3, h4, h5, h6⟩
  · cases h2
  · injection e2 with e2 e3 e4
    injection e2 with e2
    injection e2 with e2
    subst e2 e4
    have := ownsRow_sortedI (w := w) (base := g) (n := n) (os := os) (ss := L) (ts := sortL L) (sortL_length L) (Nat.le_refl _) hh h3 h4 h5
    unfold RowG
    rw [sortL_length, map_zv]
    exact this
theorem sort_none (w : World) (p : Option Addr) (cap : Nat) :
    Calls Tryz.prog 78 #[.slice p 0 cap] w fun e w' => e = .returned (.tuple #[]) ∧ Ext w w' :=
  (Any.slices_Sort_int_none Tryz.lays189 p cap w).mono fun _ _ ⟨h1, h2⟩ => ⟨h1, by rw [h2]; exact Ext.refl _⟩

theorem iclone_calls {w : World} {v : Value} {L : List Int} (h : Ints w v L) (h1 : 1 ≤ L.length) (hl : L.length ≤ 100000) :
    Calls Tryz.prog 77 #[v] w fun e w' => ∃ g cap, e = .returned (.slice (some ⟨g, 0, none⟩) L.length cap) ∧ w.heap.size ≤ g ∧ RowG 3 g cap L w' ∧ Ext w w' := by
  obtain ⟨b, o, cap, rfl, hc⟩ := ints_cell h h1
  refine (Any.slices_Clone_int Tryz.laysNm215 b o L.length cap L w (Nat.le_refl _) (by omega) (fun j hj => (hc j hj).1)).mono ?_
  rintro e w' ⟨v', rfl, hown, -, hb⟩
  rw [List.take_of_length_le (Nat.le_refl _), ← map_zv] at hown
  obtain ⟨g, cap', rfl, hg, hr⟩ := RowG.of hown h1
  exact ⟨g, cap', rfl, hg, hr, hb⟩
theorem iclone_none {w : World} {p : Option Addr} {cap : Nat} :
    Calls Tryz.prog 77 #[.slice p 0 cap] w fun e w' => ∃ q c, e = .returned (.slice q 0 c) ∧ Ext w w' := by
  cases p with
  | none =>
    refine (Any.slices_Clone_int_nil Tryz.laysNm215 0 cap w).mono ?_
    rintro e w' ⟨rfl, rfl⟩
    exact ⟨_, _, rfl, Ext.refl _⟩
  | some a =>
    refine (Any.slices_Clone_int_zero Tryz.laysNm215 a cap w).mono ?_
    rintro e w' ⟨v', rfl, hown, -, hb⟩
    obtain ⟨q, c, rfl⟩ := row_sliceI hown
    exact ⟨q, c, rfl, hb⟩

theorem iequal_calls {w : World} {v u : Value} {L M : List Int} (h : Ints w v L) (k : Ints w u M) (hl : L.length = M.length) (h1 : 1 ≤ L.length) (hs : L.length ≤ 100000) (b : Bool) (hb : decide (L = M) = b) :
    Calls Tryz.prog 79 #[v, u] w fun e w' => e = .returned (.bool b) ∧ Ext w w' := by
  obtain ⟨b1, o1, c1, rfl, hc1⟩ := ints_cell h h1
  obtain ⟨b2, o2, c2, rfl, hc2⟩ := ints_cell k (by omega)
  refine (Any.slices_Equal_int Tryz.lays111 b1 o1 L.length c1 b2 o2 M.length c2 L M w (Nat.le_refl _) (Nat.le_refl _) (by omega) (by omega) (fun j hj => (hc1 j hj).1) (fun j hj => (hc2 j hj).1)).mono ?_
  rintro e w' ⟨rfl, q, rfl⟩
  refine ⟨?_, (Ext.refl _).drewN q⟩
  rw [List.take_of_length_le (Nat.le_refl _), List.take_of_length_le (Nat.le_refl _), ← hb]
  congr 2
  rw [Bool.eq_iff_iff, beq_iff_eq, decide_eq_true_eq]
theorem iequal_none (w : World) (p q : Option Addr) (c d : Nat) :
    Calls Tryz.prog 79 #[.slice p 0 c, .slice q 0 d] w fun e w' => e = .returned (.bool true) ∧ Ext w w' :=
  (Any.slices_Equal_int_empty Tryz.lays111 p q c 0 d w (by decide)).mono fun _ _ ⟨h1, h2⟩ => ⟨h1, by rw [h2]; exact Ext.refl _⟩

theorem iindex_calls {w : World} {v : Value} {L : List Int} {x : Int} (h : Ints w v L) (k : Nat) (hk : k < L.length) (hx : L.getD k 0 = x) (hne : ∀ j, j < k → L.getD j 0 ≠ x) (hs : L.length ≤ 100000) :
    Calls Tryz.prog 80 #[v, .int .i64 x] w fun e w' => e = .returned (.int .i64 (k : Int)) ∧ w = w' := by
  obtain ⟨b1, o1, c1, rfl, hc1⟩ := ints_cell h (by omega)
  refine (Any.slices_Index_int Tryz.lays108 b1 o1 L.length c1 L x w (Nat.le_refl _) (by omega) (fun j hj => (hc1 j hj).1)).mono ?_
  rintro e w' ⟨rfl, rfl⟩
  refine ⟨?_, rfl⟩
  rw [Lib.idxOf_hit L L.length k x hk (Nat.le_refl _) hx hne]
end Go.Proofs.YtkfioaoooodmnaaGreatDoor

/- The contract of perm.Draws. -/
namespace Go.Proofs.YtkfioaoooodmnaaGreatDoor
open Go Go.RowKit

theorem RowG.grown {t : TypeId} {g cap : Nat} {L : List Int} {w w' : World} {row : Option Nat} (h : RowG t g cap L w) (hg : w.grownBy w' row) (hr : ∀ k, row = some k → g < k) : RowG t g cap L w' := by
  have hlt := h.lt
  obtain ⟨h1, h2⟩ := h
  refine ⟨h1, ?_⟩
  rcases h2 with h2 | ⟨g', cap', cur, e, hg', hh, rest⟩
  · exact .inl h2
  · injection e with e2 e3 e4
    injection e2 with e2
    injection e2 with e2
    subst e2
    exact .inr ⟨g, cap', cur, by rw [e4], hg', by rw [hg.block g hlt (fun e => Nat.lt_irrefl g (hr g e.symm))]; exact hh, rest⟩
/-- draws as numbers -/
def intsOf (D : List Nat) : List Int := D.map fun d : Nat => (d : Int)
theorem natsOf_intsOf (D : List Nat) : natsOf (intsOf D) = D := by
  unfold natsOf intsOf
  rw [List.map_map]
  exact (List.map_congr_left fun d _ => Int.toNat_natCast d).trans (List.map_id D)
/-- what is wrong of a row -/
def errR12 (R : List Int) : Nat := if 64 < R.length then 5 else if sortL R = things R.length then 0 else 3
theorem errR12_ok {R : List Int} (h : errR12 R = 0) : R.length ≤ 64 ∧ R.Perm (things R.length) := by
  unfold errR12 at h
  split at h
  · cases h
  · split at h
    · rename_i h1 h2
      exact ⟨by omega, h2 ▸ (sortL_perm R).symm⟩
    · cases h
theorem posL_before {l : List Int} {x : Int} {j : Nat} (h : j < posL l x) : l.getD j 0 ≠ x := by
  have hlt : j < l.length := Nat.lt_of_lt_of_le h (List.findIdx_le_length)
  have := List.not_of_lt_findIdx h
  rw [getD_in hlt]
  simpa using this

/-- in the midst of Draws' loop -/
structure DrMem (R : List Int) (w : World) (B g n i : Nat) (out : List Nat) (now : List Int) (v : Value) (wr : World) : Prop where
  row : RowG 3 g n now wr
  out_ : RowMem 3 B (intsOf out) v w wr
  gB : g < B
  gw : w.heap.size ≤ g
  hB : B ≤ wr.heap.size
theorem DrMem.swap {R : List Int} {w : World} {B g n i i' : Nat} {out : List Nat} {now now' : List Int} {v : Value} {wr : World} (h : DrMem R w B g n i out now v wr) {a b : Nat} {x y : Value} (hr : RowG 3 g n now' (((wr.setCell ⟨g, a, none⟩ x).setCell ⟨g, b, none⟩ y).drew)) :
    DrMem R w B g n i' out now' v (((wr.setCell ⟨g, a, none⟩ x).setCell ⟨g, b, none⟩ y).drew) :=
  ⟨hr, ⟨ownsRow_ext' (ownsRow_setCell_below (ownsRow_setCell_below h.out_.own (a := ⟨g, a, none⟩) h.gB _) (a := ⟨g, b, none⟩) h.gB _) (Ext.refl _).drew, ((h.out_.ext.setCell (p := ⟨g, a, none⟩) h.gw _).setCell (p := ⟨g, b, none⟩) h.gw _).drew, h.out_.lo⟩, h.gB, h.gw, by have := h.hB; simpa [World.setCell, World.drew] using this⟩
theorem DrMem.grow {R : List Int} {w : World} {B g n i i' : Nat} {out : List Nat} {now : List Int} {v v' : Value} {wr w1 w' : World} {d : Nat} (h : DrMem R w B g n i out now v wr) (k : Ext wr w1) {C : List Value} (h1 : w'.ownsRow B 3 1 v' ((intsOf out).length + 1) ((intsOf out).map zv ++ C)) (hC : C = [zv (d : Int)]) (hg : w1.grownBy w' v.ownBlock) :
    DrMem R w B g n i' (out ++ [d]) now v' w' := by
  subst hC
  have hr := h.out_.grow (A := [(d : Int)]) k h1 hg
  refine ⟨(h.row.ext k).grown hg (fun b hb => Nat.lt_of_lt_of_le h.gB (h.out_.own.lt b hb).1), ?_, h.gB, h.gw, Nat.le_trans h.hB (Nat.le_trans k.size hg.size)⟩
  have e : intsOf (out ++ [d]) = intsOf out ++ [(d : Int)] := by simp [intsOf]
  rw [e]; exact hr

set_option maxHeartbeats 4000000 in
set_option maxRecDepth 100000 in
theorem pdraws_ok {w : World} {v : Value} {R : List Int} (hR : Ints w v R) (h : errR12 R = 0) (h1 : 1 ≤ R.length) :
    Calls Tryz.prog 42 #[v] w fun e w' => ∃ r, e = .returned (.tuple #[r, .int .i64 0]) ∧ OwnZ 3 w.heap.size w' r (intsOf (drawsF R (R.length - 1) (things R.length))) ∧ Ext w w' := by
  obtain ⟨hl, hp⟩ := errR12_ok h
  obtain ⟨b, o, cap, rfl, hcells⟩ := ints_cell hR h1
  have HR := Lib.hid hR
  have HCE := Lib.hid hcells
  obtain ⟨n, hn⟩ : ∃ n, R.length = n := ⟨_, rfl⟩
  have HN := Lib.hid hn
  have HS : Hid (sortL R = things n) := by
    show _ = _
    unfold errR12 at h
    rw [hn, if_neg (by omega)] at h
    split at h
    · assumption
    · cases h
  have HP : Hid (R.Perm (things n)) := by rw [hn] at hp; exact hp
  have t1 : (n : Int) ≤ 64 := by omega
  have N1 : Hid (1 ≤ n) := by show 1 ≤ n; omega
  have N64 : Hid (n ≤ 64) := by show n ≤ 64; omega
  have R1 := Lib.hid h1
  have RL : Hid (R.length ≤ 100000) := by show _ ≤ 100000; omega
  have SL : Hid ((sortL R).length = n) := by show _ = _; rw [sortL_length, hn]
  rw [hn]
  clear hR hcells h hl hp h1 hn
  go_enter Tryz.func42, Tryz.ntmps42
  go_wp2_with fail
  refine (iclone_calls (by have := HR.out; rwa [HN.out] at this) R1.out RL.out).mono ?_
  rintro e w1 ⟨s, sc, rfl, hs, hrow, x1⟩
  have S1 := Lib.hid hs
  have RW1 := Lib.hid hrow
  have X1 := Lib.hid x1
  rw [HN.out]
  clear hs hrow x1
  go_wp2_with fail
  refine (by have := sort_calls RW1.out RL.out; rw [HN.out] at this; exact this : Calls _ _ _ _ _).mono ?_
  rintro e w2 ⟨rfl, hrow, hgrow⟩
  have RW2 := Lib.hid hrow
  have X2 : Hid (Ext w w2) := X1.out.grown hgrow (fun k hk => by cases hk; exact S1.out)
  clear hrow hgrow
  go_wp2_with fail
  refine (things_calls _ n N1.out N64.out).mono ?_
  rintro e w3 ⟨rfl, hr, x3⟩
  obtain ⟨g, hg⟩ : ∃ g, w2.heap.size = g := ⟨_, rfl⟩
  rw [hg] at hr ⊢
  have HG : Hid (w.heap.size ≤ g) := by show _ ≤ g; have := X2.out.size; omega
  have RG3 := Lib.hid hr.1
  have RW3 := Lib.hid (RW2.out.ext x3)
  have X3 := Lib.hid (X2.out.trans x3)
  have TL : Hid ((things n).length = n) := things_length n
  clear hr x3 hg
  go_wp2_with fail
  refine (iequal_calls (L := sortL R) (M := things n) (by have := RW3.out.ownI.ints; rwa [SL.out] at this) (by have := RG3.out.ownI.ints; rwa [TL.out] at this) (by rw [SL.out, TL.out]) (by rw [SL.out]; exact N1.out) (by rw [SL.out]; have := N64.out; omega) true (by rw [HS.out]; simp)).mono ?_
  rintro e w4 ⟨rfl, x4⟩
  have RG4 := Lib.hid (RG3.out.ext x4)
  have X4 := Lib.hid (X3.out.trans x4)
  clear x4
  obtain ⟨m, hm⟩ : ∃ m, n = m + 1 := ⟨n - 1, by have := N1.out; omega⟩
  have hwm : IntKind.i64.wrap ((n : Int) - 1) = (m : Int) := by rw [IntWalk.i64_in _ (by omega)]; omega
  have HM : Hid (n - 1 = m) := by show _ = _; omega
  have hmn : (m : Int) + 1 ≤ n := by omega
  have HM2 := Lib.hid hm
  clear hm
  go_wp2_with fail
  clear hwm
  obtain ⟨B, hB⟩ : ∃ B, w4.heap.size = B := ⟨_, rfl⟩
  have D4 : Hid (DrMem R w B g n m [] (things n) (.slice none 0 0) w4) := ⟨RG4.out, ⟨World.ownsRow_nil .., X4.out, by rw [← hB]; exact X4.out.size⟩, by rw [← hB]; exact RG4.out.lt, HG.out, by rw [hB]; exact Nat.le_refl _⟩
  clear hB
  go_loopw [6, 7] (fun v6 v7 wr => ∃ (i : Nat) (out : List Nat) (now : List Int), v7 = .int .i64 (i : Int) ∧ i ≤ m ∧ Hid (drawsF R m (things n) = out ++ drawsF R i now ∧ R.Perm now ∧ now.length = n ∧ out.length ≤ 64 - i) ∧ DrMem R w B g n i out now v6 wr) (fun _ v7 _ => (intOf v7).toNat)
  case atStart => exact ⟨m, [], things n, rfl, Nat.le_refl _, ⟨rfl, HP.out, TL.out, Nat.zero_le _⟩, D4.out⟩
  case round =>
    obtain ⟨i, out, now, rfl, him, hp, hD⟩ := hrel
    have DM := Lib.hid hD
    have HIM := Lib.hid him
    obtain ⟨va, vc, rfl⟩ := row_sliceI hD.out_.own
    clear hD him
    rcases Nat.eq_zero_or_pos i with h0 | h0
    · subst h0
      have HF : Hid (drawsF R (n - 1) (things n) = out) := by show _ = _; rw [HM.out, hp.out.1]; simp [drawsF]
      go_wp2_with fail
      go_ret2
      exact ⟨_, rfl, by rw [HF.out]; exact ⟨DM.out.out_.ownI.mono DM.out.out_.lo, by decide⟩, DM.out.out_.ext⟩
    · obtain ⟨q, rfl⟩ : ∃ q, i = q + 1 := ⟨i - 1, by omega⟩
      obtain ⟨hd1, hpm, hlen, hol⟩ := hp.out
      have hq : q + 1 < n := by have := HIM.out; have := HM2.out; omega
      obtain ⟨x, hx⟩ : ∃ x, R.getD (q + 1) 0 = x := ⟨_, rfl⟩
      have hmem : x ∈ now := hpm.mem_iff.1 (by rw [← hx, getD_in (by rw [HN.out]; exact hq)]; exact List.getElem_mem _)
      obtain ⟨p1, p2⟩ := posL_mem hmem
      have hbef := fun j' (h : j' < posL now x) => posL_before h
      obtain ⟨j, hj⟩ : ∃ j, posL now x = j := ⟨_, rfl⟩
      obtain ⟨z, hz⟩ : ∃ z, now.getD (q + 1) 0 = z := ⟨_, rfl⟩
      rw [hj] at p1 p2 hbef
      have hcx := ((HCE.out (q + 1) (by rw [HN.out]; exact hq)).ext DM.out.out_.ext).1
      rw [hx] at hcx
      have ci := DM.out.row.cell (j := q + 1) (by rw [hlen]; exact hq)
      have cd := DM.out.row.cell (j := j) p1
      rw [hz] at ci
      rw [p2] at cd
      have fi := DM.out.row.free (q + 1)
      have fd := DM.out.row.free j
      have HSW : Hid (RowG 3 g n (swapL now (q + 1) j) (((wr.setCell ⟨g, q + 1, none⟩ (.int .i64 x)).setCell ⟨g, j, none⟩ (.int .i64 z)).drew)) := by
        rw [swapL, hz, p2]
        exact ((DM.out.row.set (q + 1) x).set j z).ext (Ext.refl _).drew
      have DM2 := Lib.hid (DM.out.swap (i' := q) HSW.out)
      have HREL : Hid (drawsF R m (things n) = (out ++ [j]) ++ drawsF R q (swapL now (q + 1) j) ∧ R.Perm (swapL now (q + 1) j) ∧ (swapL now (q + 1) j).length = n ∧ (out ++ [j]).length ≤ 64 - q) := by
        refine ⟨?_, hpm.trans (swapL_perm (by rw [hlen]; exact hq) p1).symm, by rw [swapL_length, hlen], by simp; have := HIM.out; have := HM2.out; have := N64.out; omega⟩
        rw [hd1, List.append_assoc]
        show _ ++ (posL now (R.getD (q + 1) 0) :: drawsF R q (swapL now (q + 1) (posL now (R.getD (q + 1) 0)))) = _
        rw [hx, hj]; rfl
      have HIX : Hid (Calls Tryz.prog 80 #[.slice (some ⟨g, 0, none⟩) n n, .int .i64 x] wr fun e w' => e = .returned (.int .i64 (j : Int)) ∧ wr = w') := by
        have := iindex_calls (L := now) DM.out.row.ownI.ints j p1 p2 hbef (by rw [hlen]; have := N64.out; omega)
        rw [hlen] at this; exact this
      have hjn : j < n := by rw [← hlen]; exact p1
      have HX := Lib.hid p2
      have HZ := Lib.hid hz
      have HLN : Hid ((intsOf out).length + [((j : Nat) : Int)].length ≤ 100000) := by show _ ≤ 100000; simp [intsOf]; omega
      obtain ⟨W1, hW1⟩ : ∃ W1, (((wr.setCell ⟨g, q + 1, none⟩ (.int .i64 x)).setCell ⟨g, j, none⟩ (.int .i64 z)).drew) = W1 := ⟨_, rfl⟩
      rw [hW1] at DM2
      have HW1 := Lib.hid hW1
      have HEX := Lib.hid ((Ext.refl W1).alloc (.cells #[.int .i64 (j : Int)] 3))
      have HRW := Lib.hid (ownsRow_ext' DM2.out.out_.own HEX.out)
      have HBS : Hid (B ≤ (W1.alloc (.cells #[.int .i64 (j : Int)] 3)).heap.size) := Nat.le_trans DM2.out.hB HEX.out.size
      clear hd1 hpm hlen hol hx hmem p2 hbef hj hz p1 h0 hW1
      by_cases hid : q + 1 = j
      · subst hid
        have e := HZ.out.symm.trans HX.out
        subst e
        go_wp2_with fail
        refine HIX.out.mono ?_
        rintro e w5 ⟨rfl, rfl⟩
        go_wp2_with fail
        go_region
        rw [HW1.out]
        go_wp2_with (at_builtin; refine append_ints rfl _ _ 65 3 Tryz.underlying65 info_int rfl B _ _ _ rfl HRW.out HBS.out _ [((q + 1 : Nat) : Int)] rfl (ints_lit W1 [((q + 1 : Nat) : Int)] _ rfl 1 rfl (by simp)) HLN.out ?_; intro v' w' hown' hgrow; have HN2 := Lib.hid (DM2.out.grow (i' := q) HEX.out hown' rfl hgrow); clear hown' hgrow)
        exact ⟨⟨q, out ++ [q + 1], _, by first | rfl | go_num, by have := HIM.out; omega, HREL.out, HN2.out⟩, by simp [intOf]⟩
      · have hid2 : ¬ j = q + 1 := fun e => hid e.symm
        go_wp2_with fail
        refine HIX.out.mono ?_
        rintro e w5 ⟨rfl, rfl⟩
        go_wp2_with fail
        go_region
        rw [HW1.out]
        go_wp2_with (at_builtin; refine append_ints rfl _ _ 65 3 Tryz.underlying65 info_int rfl B _ _ _ rfl HRW.out HBS.out _ [(j : Int)] rfl (ints_lit W1 [(j : Int)] _ rfl 1 rfl (by simp)) HLN.out ?_; intro v' w' hown' hgrow; have HN2 := Lib.hid (DM2.out.grow (i' := q) HEX.out hown' rfl hgrow); clear hown' hgrow)
        exact ⟨⟨q, out ++ [j], _, by first | rfl | go_num, by have := HIM.out; omega, HREL.out, HN2.out⟩, by simp [intOf]⟩
end Go.Proofs.YtkfioaoooodmnaaGreatDoor

/- The contracts of perm.Draws that refuses, and of perm.Draw. -/
namespace Go.Proofs.YtkfioaoooodmnaaGreatDoor
open Go Go.RowKit

set_option maxHeartbeats 2000000 in
set_option maxRecDepth 100000 in
theorem pdraws_none {w : World} {p : Option Addr} {cap : Nat} :
    Calls Tryz.prog 42 #[.slice p 0 cap] w fun e w' => e = .returned (.tuple #[.slice none 0 0, .int .i64 0]) ∧ Ext w w' := by
  go_enter Tryz.func42, Tryz.ntmps42
  go_wp2_with fail
  refine iclone_none.mono ?_
  rintro e w1 ⟨q, c, rfl, x1⟩
  go_wp2_with fail
  refine (sort_none _ _ _).mono ?_
  rintro e w2 ⟨rfl, x2⟩
  go_wp2_with fail
  refine (things_zero _).mono ?_
  rintro e w3 ⟨p3, rfl, x3⟩
  go_wp2_with fail
  refine (iequal_none _ _ _ _ _).mono ?_
  rintro e w4 ⟨rfl, x4⟩
  have X := Lib.hid (((x1.trans x2).trans x3).trans x4)
  clear x1 x2 x3 x4
  go_wp2_with fail
  refine wp_loop_rounds 1 ?_
  rw [rounds_succ]
  go_wp2_with fail
  go_ret2
  exact ⟨rfl, X.out⟩

set_option maxHeartbeats 2000000 in
set_option maxRecDepth 100000 in
theorem pdraws_no {w : World} {v : Value} {R : List Int} (hR : Ints w v R) (k : Nat) (h : errR12 R = k) (h0 : k ≠ 0) :
    Calls Tryz.prog 42 #[v] w fun e w' => e = .returned (.tuple #[.slice none 0 0, .int .i64 (k : Int)]) ∧ Ext w w' := by
  obtain ⟨n, hn⟩ : ∃ n, R.length = n := ⟨_, rfl⟩
  have HN := Lib.hid hn
  by_cases hl : 64 < n
  · have HK : Hid (k = 5) := by show _ = _; rw [← h]; unfold errR12; rw [hn, if_pos hl]
    obtain ⟨a, cap, rfl⟩ := hR.slice
    have t1 : (65 : Int) ≤ n := by omega
    rw [hn]
    have hc := hR.open
    obtain ⟨a', cap', e, -, h2, -⟩ := hc
    injection e with e1 e2 e3
    subst e3
    unfold maxLen at h2
    have h3 : (n : Int) ≤ 9223372036854775807 := by
      obtain ⟨_, _, e, g1, g2, -⟩ := hR.open
      injection e with e1 e2 e3
      unfold maxLen at g2
      omega
    clear hR h hn hl h0 h2
    go_enter Tryz.func42, Tryz.ntmps42
    go_wp2_with fail
    go_ret2
    exact ⟨by rw [HK.out]; rfl, Ext.refl _⟩
  have hk : k = 3 ∧ sortL R ≠ things n := by
    unfold errR12 at h
    rw [hn, if_neg hl] at h
    split at h
    · exact absurd h.symm h0
    · rename_i g; exact ⟨h.symm, g⟩
  obtain ⟨rfl, hno⟩ := hk
  have h1 : 1 ≤ R.length := by
    rcases Nat.eq_zero_or_pos R.length with e | e
    · exfalso; apply hno
      have e2 := List.length_eq_zero_iff.1 e
      have : n = 0 := by omega
      subst e2 this
      simp [sortL, things]
    · exact e
  obtain ⟨b, o, cap, rfl, hcells⟩ := ints_cell hR h1
  have HR := Lib.hid hR
  have HS := Lib.hid hno
  have t1 : (n : Int) ≤ 64 := by omega
  have N1 : Hid (1 ≤ n) := by show 1 ≤ n; omega
  have N64 : Hid (n ≤ 64) := by show n ≤ 64; omega
  have R1 := Lib.hid h1
  have RL : Hid (R.length ≤ 100000) := by show _ ≤ 100000; omega
  have SL : Hid ((sortL R).length = n) := by show _ = _; rw [sortL_length, hn]
  rw [hn]
  clear hR hcells h hl h1 hn hno h0
  go_enter Tryz.func42, Tryz.ntmps42
  go_wp2_with fail
  refine (iclone_calls (by have := HR.out; rwa [HN.out] at this) R1.out RL.out).mono ?_
  rintro e w1 ⟨s, sc, rfl, hs, hrow, x1⟩
  have S1 := Lib.hid hs
  have RW1 := Lib.hid hrow
  have X1 := Lib.hid x1
  rw [HN.out]
  clear hs hrow x1
  go_wp2_with fail
  refine (by have := sort_calls RW1.out RL.out; rw [HN.out] at this; exact this : Calls _ _ _ _ _).mono ?_
  rintro e w2 ⟨rfl, hrow, hgrow⟩
  have RW2 := Lib.hid hrow
  have X2 : Hid (Ext w w2) := X1.out.grown hgrow (fun k hk => by cases hk; exact S1.out)
  clear hrow hgrow
  go_wp2_with fail
  refine (things_calls _ n N1.out N64.out).mono ?_
  rintro e w3 ⟨rfl, hr, x3⟩
  obtain ⟨g, hg⟩ : ∃ g, w2.heap.size = g := ⟨_, rfl⟩
  rw [hg] at hr ⊢
  have RG3 := Lib.hid hr.1
  have RW3 := Lib.hid (RW2.out.ext x3)
  have X3 := Lib.hid (X2.out.trans x3)
  have TL : Hid ((things n).length = n) := things_length n
  clear hr x3 hg
  go_wp2_with fail
  refine (iequal_calls (L := sortL R) (M := things n) (by have := RW3.out.ownI.ints; rwa [SL.out] at this) (by have := RG3.out.ownI.ints; rwa [TL.out] at this) (by rw [SL.out, TL.out]) (by rw [SL.out]; exact N1.out) (by rw [SL.out]; have := N64.out; omega) false (by simpa using HS.out)).mono ?_
  rintro e w4 ⟨rfl, x4⟩
  have X4 := Lib.hid (X3.out.trans x4)
  clear x4
  go_wp2_with fail
  go_ret2
  exact ⟨rfl, X4.out⟩

/-- numbers below m, m - 1, .. 2, drawn one behind the other -/
def drawsB (l : List UInt8) : Nat → Nat → Option (List Nat) × Nat
  | 0, a => (some [], a)
  | 1, a => (some [], a)
  | m + 2, a => match drawF l (m + 2) a with
    | (none, b) => (none, b)
    | (some v, b) => match drawsB l (m + 1) b with
      | (none, c) => (none, c)
      | (some vs, c) => (some (v :: vs), c)
/-- what stands ahead -/
def preD (out : List Nat) : Option (List Nat) × Nat → Option (List Nat) × Nat
  | (none, b) => (none, b)
  | (some vs, b) => (some (out ++ vs), b)
theorem preD_nil (p : Option (List Nat) × Nat) : preD [] p = p := by rcases p with ⟨_ | _, _⟩ <;> rfl
theorem preD_app (a b : List Nat) (p : Option (List Nat) × Nat) : preD a (preD b p) = preD (a ++ b) p := by
  rcases p with ⟨_ | _, _⟩
  · rfl
  · simp [preD]
theorem drawsB_yes {l : List UInt8} {m a x b : Nat} (h : DrawIs l (m + 2) a x true b) : drawsB l (m + 2) a = preD [x] (drawsB l (m + 1) b) := by
  obtain ⟨h1, h2, h3⟩ := h
  rw [drawsB]
  rcases hd : drawF l (m + 2) a with ⟨_ | v, c⟩
  · rw [hd] at h2; cases h2
  · rw [hd] at h1 h3
    obtain rfl : v = x := h1
    obtain rfl : c = b := h3
    rcases hq : drawsB l (m + 1) c with ⟨_ | vs, q⟩
    · simp [preD, hq]
    · simp [preD, hq]
theorem drawsB_no {l : List UInt8} {m a x b : Nat} (h : DrawIs l (m + 2) a x false b) : drawsB l (m + 2) a = (none, b) := by
  obtain ⟨h1, h2, h3⟩ := h
  rw [drawsB]
  rcases hd : drawF l (m + 2) a with ⟨_ | v, c⟩
  · rw [hd] at h3; obtain rfl : c = b := h3; rfl
  · rw [hd] at h2; cases h2
theorem drawsB_ok {l : List UInt8} : ∀ (m a : Nat) {vs : List Nat} {b : Nat}, drawsB l m a = (some vs, b) → vs.length = m - 1 ∧ okD vs
  | 0, a, vs, b, h => by injection h with h; injection h with h; subst h; exact ⟨rfl, trivial⟩
  | 1, a, vs, b, h => by injection h with h; injection h with h; subst h; exact ⟨rfl, trivial⟩
  | m + 2, a, vs, b, h => by
    obtain ⟨x, y, c, hd⟩ := drawIs l (m + 2) a
    have hx := hd.lt (by omega)
    cases y
    · rw [drawsB_no hd] at h; cases h
    · rw [drawsB_yes hd] at h
      rcases hq : drawsB l (m + 1) c with ⟨_ | us, q⟩
      · rw [hq] at h; cases h
      · rw [hq] at h
        injection h with h
        injection h with h
        subst h
        obtain ⟨g1, g2⟩ := drawsB_ok (m + 1) c hq
        exact ⟨by simp [g1], by rw [List.singleton_append]; exact ⟨by rw [g1]; omega, g2⟩⟩
theorem drawsB_le {l : List UInt8} : ∀ (m a : Nat), a ≤ l.length → a ≤ (drawsB l m a).2 ∧ (drawsB l m a).2 ≤ l.length
  | 0, a, h => ⟨Nat.le_refl _, h⟩
  | 1, a, h => ⟨Nat.le_refl _, h⟩
  | m + 2, a, h => by
    obtain ⟨x, y, c, hd⟩ := drawIs l (m + 2) a
    have hc := hd.le h
    cases y
    · rw [drawsB_no hd]; exact hc
    · rw [drawsB_yes hd]
      have ih := drawsB_le (m + 1) c hc.2
      rcases hq : drawsB l (m + 1) c with ⟨_ | us, q⟩
      · rw [hq] at ih; simp only [preD] at *; omega
      · rw [hq] at ih; simp only [preD] at *; omega
theorem okI_intsOf : ∀ {D : List Nat}, okD D → okI (intsOf D)
  | [], _ => trivial
  | d :: ds, h => ⟨by have := h.1; simp; omega, okI_intsOf h.2⟩
theorem intsOf_length (D : List Nat) : (intsOf D).length = D.length := by simp [intsOf]
theorem errP_intsOf {D : List Nat} (h : okD D) (hl : D.length < 64) : errP (intsOf D) = 0 := by
  unfold errP
  rw [intsOf_length, if_neg (by omega), if_pos (okI_intsOf h)]

theorem Mv.grown {t : Nat} {w wr w' : World} {row : Option Nat} (h : Mv t w wr) (ht : t ≤ w.heap.size) (hg : wr.grownBy w' row) (hr : ∀ k, row = some k → w.heap.size ≤ k) : Mv t w w' :=
  ⟨Below.grown h.blw hg (Nat.le_trans ht h.size) (fun k hk => Nat.le_trans ht (hr k hk)), fun b hb hn => (hg.block b (Nat.lt_of_lt_of_le hb h.size) (fun e => by have := hr b e.symm; omega)).trans (h.oth b hb hn)⟩
theorem Cur.grown {S : ByteArray} {s a : Nat} {ov : Bool} {w w' : World} {row : Option Nat} (h : Cur S s a ov w) (hg : w.grownBy w' row) (hr : ∀ k, row = some k → s < k) : Cur S s a ov w' :=
  ⟨h.c0.grown hg hr, h.c1.grown hg hr, h.c2.grown hg hr, h.bx.grown hg hr⟩
theorem Mv.tail {t : Nat} {a b c : World} (h : Mv t a b) (x : Ext b c) (ht : t ≤ b.heap.size) : Mv t a c := h.trans (x.mv ht)

/-- in the midst of Draw's loop -/
structure PdMem (S : ByteArray) (w : World) (t a : Nat) (out : List Nat) (v : Value) (wr : World) : Prop where
  row : wr.ownsRow w.heap.size 3 1 v (intsOf out).length ((intsOf out).map zv)
  mv : Mv t w wr
  cur : Cur S t a false wr
  lt : t < w.heap.size
theorem PdMem.move {S : ByteArray} {w : World} {t a a' : Nat} {out : List Nat} {v : Value} {wr w1 : World} (h : PdMem S w t a out v wr) (m : Mv t wr w1) (c : Cur S t a' false w1) : PdMem S w t a' out v w1 := by
  refine ⟨?_, h.mv.trans m, c, h.lt⟩
  obtain ⟨h1, h2⟩ := h.row
  refine ⟨h1, ?_⟩
  rcases h2 with h2 | ⟨g, cap, cur, e, hg, hh, rest⟩
  · exact .inl h2
  · exact .inr ⟨g, cap, cur, e, hg, by rw [m.oth g (Array.getElem?_eq_some_iff.1 hh).1 (by have := h.lt; omega)]; exact hh, rest⟩
theorem PdMem.grow {S : ByteArray} {w : World} {t a d : Nat} {out : List Nat} {v v' : Value} {wr w1 w' : World} (h : PdMem S w t a out v wr) (k : Ext wr w1) {C : List Value} (h1 : w'.ownsRow w.heap.size 3 1 v' ((intsOf out).length + 1) ((intsOf out).map zv ++ C)) (hC : C = [zv (d : Int)]) (hg : w1.grownBy w' v.ownBlock) :
    PdMem S w t a (out ++ [d]) v' w' := by
  subst hC
  have e : intsOf (out ++ [d]) = intsOf out ++ [(d : Int)] := by simp [intsOf]
  have hr : ∀ b, v.ownBlock = some b → w.heap.size ≤ b := fun b hb => (h.row.lt b hb).1
  refine ⟨?_, (h.mv.tail k (Nat.le_of_lt h.cur.lt)).grown (Nat.le_of_lt h.lt) hg hr, (h.cur.ext k).grown hg (fun b hb => Nat.lt_of_lt_of_le h.lt (hr b hb)), h.lt⟩
  rw [e, List.length_append, List.map_append]; exact h1

set_option maxHeartbeats 4000000 in
set_option maxRecDepth 100000 in
theorem pdraw_some {S : ByteArray} {t a b : Nat} {w : World} {vs : List Nat} (hc : Cur S t a false w) (ho : okS S.data.toList = true) (ha : a ≤ S.size) (n : Nat) (h1 : 1 ≤ n) (hn : n ≤ 64) (hd : drawsB S.data.toList n a = (some vs, b)) :
    Calls Tryz.prog 46 #[.pointer (some ⟨t, 0, none⟩), .int .i64 (n : Int)] w fun e w' => ∃ g cap, e = .returned (.tuple #[.slice (some ⟨g, 0, none⟩) n cap, .bool true]) ∧ w.heap.size ≤ g ∧ RowZ 3 g cap (rowF vs (things n)) w' ∧ Mv t w w' ∧ Cur S t b false w' := by
  have HC := Lib.hid hc
  have HO := Lib.hid ho
  have HD := Lib.hid hd
  have HA := Lib.hid ha
  have HSZ : Hid (S.size = S.data.toList.length) := Lib.size_eq S
  have H1 := Lib.hid h1
  have H64 := Lib.hid hn
  have t1 : (n : Int) ≤ 64 := by omega
  have t2 : ((n : Int) == 0) = false := by rw [beq_eq_false_iff_ne]; omega
  obtain ⟨m, hm⟩ : ∃ m, n = m + 1 := ⟨n - 1, by omega⟩
  have hwm : IntKind.i64.wrap ((n : Int) - 1) = (m : Int) := by rw [IntWalk.i64_in _ (by omega)]; omega
  have hmn : (m : Int) + 1 ≤ n := by omega
  have HM := Lib.hid hm
  clear hc ho hd ha h1 hn hm
  go_enter Tryz.func46, Tryz.ntmps46
  go_wp2_with fail
  clear hwm
  go_loopw [6, 22] (fun v6 v22 wr => ∃ (k c : Nat) (out : List Nat), v22 = .int .i64 (k : Int) ∧ k ≤ m ∧ c ≤ S.size ∧ Hid (drawsB S.data.toList n a = preD out (drawsB S.data.toList (n - k) c) ∧ out.length = k) ∧ PdMem S w t c out v6 wr) (fun _ v22 _ => m - (intOf v22).toNat)
  case atStart => exact ⟨0, a, [], rfl, Nat.zero_le _, HA.out, ⟨(preD_nil _).symm, rfl⟩, ⟨World.ownsRow_nil .., Mv.refl _ _, HC.out, HC.out.lt⟩⟩
  case round =>
    obtain ⟨k, c, out, rfl, hkm, hcS, hp, hP⟩ := hrel
    have PM := Lib.hid hP
    have HCS := Lib.hid hcS
    have HKM := Lib.hid hkm
    obtain ⟨va, vc, rfl⟩ := row_sliceI hP.row
    clear hP hcS
    by_cases hk : k < m
    · obtain ⟨q, hq⟩ : ∃ q, n - k = q + 2 := ⟨n - k - 2, by have := HM.out; omega⟩
      obtain ⟨x, y, c', hdr⟩ := drawIs S.data.toList (q + 2) c
      have hy : y = true := by
        cases y
        · have e := hp.out.1
          rw [hq, drawsB_no hdr, HD.out] at e
          cases e
        · rfl
      subst hy
      obtain ⟨M, hM⟩ : ∃ M, q + 2 = M := ⟨_, rfl⟩
      have hx := hdr.lt (by omega)
      have hle := hdr.le (by rw [← HSZ.out]; exact HCS.out)
      have HREL : Hid (drawsB S.data.toList n a = preD (out ++ [x]) (drawsB S.data.toList (n - (k + 1)) c') ∧ (out ++ [x]).length = k + 1) := by
        refine ⟨?_, by simp [hp.out.2]⟩
        rw [hp.out.1, hq, drawsB_yes hdr, preD_app, show n - (k + 1) = q + 1 by omega]
      have HCS' : Hid (c' ≤ S.size) := by show _ ≤ _; rw [HSZ.out]; exact hle.2
      have hMi : IntKind.i64.wrap ((n : Int) - k) = (M : Int) := by rw [IntWalk.i64_in _ (by omega)]; omega
      have hM1 : (M : Int) ≤ 64 := by omega
      have hx1 : (x : Int) ≤ 64 := by omega
      have MB : Hid (M < Bs) := by show M < Bs; rw [Bs_def]; omega
      have M1 : Hid (1 ≤ M) := by show 1 ≤ M; omega
      have HDR : Hid (DrawIs S.data.toList M c x true c') := by rw [← hM]; exact hdr
      have HLN : Hid ((intsOf out).length + [((x : Nat) : Int)].length ≤ 100000) := by show _ ≤ 100000; rw [intsOf_length, hp.out.2]; simp; omega
      have HKK : Hid (k + 1 ≤ m) := hk
      clear hdr hle hq hM hx hp
      go_wp2_with fail
      refine (bdraw_ok PM.out.cur HO.out HCS.out M MB.out M1.out HDR.out).mono ?_
      rintro e w1 ⟨rfl, mv1, c1⟩
      have PM1 := Lib.hid (PM.out.move mv1 c1)
      have HEX := Lib.hid ((Ext.refl w1).alloc (.cells #[.int .i64 (x : Int)] 3))
      have HRW := Lib.hid (ownsRow_ext' PM1.out.row HEX.out)
      have HBS : Hid (w.heap.size ≤ (w1.alloc (.cells #[.int .i64 (x : Int)] 3)).heap.size) := Nat.le_trans PM1.out.mv.size HEX.out.size
      clear mv1 c1 hMi
      go_wp2_with (at_builtin; refine append_ints rfl _ _ 65 3 Tryz.underlying65 info_int rfl w.heap.size _ _ _ rfl HRW.out HBS.out _ [(x : Int)] rfl (ints_lit w1 [(x : Int)] _ rfl 1 rfl (by simp)) HLN.out ?_; intro v' w' hown' hgrow; have HN2 := Lib.hid (PM1.out.grow HEX.out hown' rfl hgrow); clear hown' hgrow)
      exact ⟨⟨k + 1, c', out ++ [x], by go_num, HKK.out, HCS'.out, HREL.out, HN2.out⟩, by simp [intOf]; have := HKK.out; omega⟩
    · have ek : m = k := by omega
      subst ek
      have HE : Hid (vs = out ∧ b = c) := by
        have e := hp.out.1
        rw [show n - m = 1 by have := HM.out; omega, HD.out] at e
        simp only [drawsB, preD, List.append_nil] at e
        injection e with e1 e2
        injection e1 with e1
        exact ⟨e1, e2⟩
      have hok := drawsB_ok n a HD.out
      have HERR : Hid (errP (intsOf out) = 0) := by
        rw [← HE.out.1]
        exact errP_intsOf hok.2 (by rw [hok.1]; have := H64.out; have := H1.out; omega)
      have HL : Hid ((intsOf out).length + 1 = n) := by show _ = _; rw [intsOf_length, hp.out.2]; exact HM.out.symm
      clear hp hok
      go_wp2_with fail
      refine (prow_ok (D := intsOf out) (Own.sl (.inl PM.out.row)) HERR.out).mono ?_
      rintro e w5 ⟨g, gc, rfl, hg, hr, x5⟩
      rw [HL.out, natsOf_intsOf, ← HE.out.1] at hr
      rw [HL.out]
      have HG : Hid (w.heap.size ≤ g) := Nat.le_trans PM.out.mv.size hg
      have HR := Lib.hid hr
      have MV := Lib.hid (PM.out.mv.tail x5 (Nat.le_of_lt PM.out.cur.lt))
      have CU : Hid (Cur S t b false w5) := by have := PM.out.cur.ext x5; rw [HE.out.2]; exact this
      clear hg hr x5
      go_wp2_with fail
      go_ret2
      exact ⟨g, gc, rfl, HG.out, HR.out, MV.out, CU.out⟩

set_option maxHeartbeats 4000000 in
set_option maxRecDepth 100000 in
theorem pdraw_none {S : ByteArray} {t a b : Nat} {w : World} (hc : Cur S t a false w) (ho : okS S.data.toList = true) (ha : a ≤ S.size) (n : Nat) (h1 : 1 ≤ n) (hn : n ≤ 64) (hd : drawsB S.data.toList n a = (none, b)) :
    Calls Tryz.prog 46 #[.pointer (some ⟨t, 0, none⟩), .int .i64 (n : Int)] w fun e w' => e = .returned (.tuple #[.slice none 0 0, .bool false]) ∧ Mv t w w' ∧ Cur S t b true w' := by
  have HC := Lib.hid hc
  have HO := Lib.hid ho
  have HD := Lib.hid hd
  have HA := Lib.hid ha
  have HSZ : Hid (S.size = S.data.toList.length) := Lib.size_eq S
  have H1 := Lib.hid h1
  have H64 := Lib.hid hn
  have t1 : (n : Int) ≤ 64 := by omega
  have t2 : ((n : Int) == 0) = false := by rw [beq_eq_false_iff_ne]; omega
  obtain ⟨m, hm⟩ : ∃ m, n = m + 1 := ⟨n - 1, by omega⟩
  have hwm : IntKind.i64.wrap ((n : Int) - 1) = (m : Int) := by rw [IntWalk.i64_in _ (by omega)]; omega
  have hmn : (m : Int) + 1 ≤ n := by omega
  have HM := Lib.hid hm
  clear hc ho hd ha h1 hn hm
  go_enter Tryz.func46, Tryz.ntmps46
  go_wp2_with fail
  clear hwm
  go_loopw [6, 22] (fun v6 v22 wr => ∃ (k c : Nat) (out : List Nat), v22 = .int .i64 (k : Int) ∧ k ≤ m ∧ c ≤ S.size ∧ Hid (drawsB S.data.toList n a = preD out (drawsB S.data.toList (n - k) c) ∧ out.length = k) ∧ PdMem S w t c out v6 wr) (fun _ v22 _ => m - (intOf v22).toNat)
  case atStart => exact ⟨0, a, [], rfl, Nat.zero_le _, HA.out, ⟨(preD_nil _).symm, rfl⟩, ⟨World.ownsRow_nil .., Mv.refl _ _, HC.out, HC.out.lt⟩⟩
  case round =>
    obtain ⟨k, c, out, rfl, hkm, hcS, hp, hP⟩ := hrel
    have PM := Lib.hid hP
    have HCS := Lib.hid hcS
    have HKM := Lib.hid hkm
    obtain ⟨va, vc, rfl⟩ := row_sliceI hP.row
    clear hP hcS
    by_cases hk : k < m
    · obtain ⟨q, hq⟩ : ∃ q, n - k = q + 2 := ⟨n - k - 2, by have := HM.out; omega⟩
      obtain ⟨x, y, c', hdr⟩ := drawIs S.data.toList (q + 2) c
      obtain ⟨M, hM⟩ : ∃ M, q + 2 = M := ⟨_, rfl⟩
      have hx := hdr.lt (by omega)
      have hle := hdr.le (by rw [← HSZ.out]; exact HCS.out)
      have hMi : IntKind.i64.wrap ((n : Int) - k) = (M : Int) := by rw [IntWalk.i64_in _ (by omega)]; omega
      have hM1 : (M : Int) ≤ 64 := by omega
      have hx1 : (x : Int) ≤ 64 := by omega
      have MB : Hid (M < Bs) := by show M < Bs; rw [Bs_def]; omega
      have M1 : Hid (1 ≤ M) := by show 1 ≤ M; omega
      have HDR : Hid (DrawIs S.data.toList M c x y c') := by rw [← hM]; exact hdr
      have HKK : Hid (k + 1 ≤ m) := hk
      cases y
      case false =>
        have HBC : Hid (b = c') := by
          have e := hp.out.1
          rw [hq, drawsB_no hdr, HD.out] at e
          injection e
        clear hdr hle hq hM hx hp
        go_wp2_with fail
        refine (bdraw_ok PM.out.cur HO.out HCS.out M MB.out M1.out HDR.out).mono ?_
        rintro e w1 ⟨rfl, mv1, c1⟩
        have MV1 := Lib.hid (PM.out.mv.trans mv1)
        have C1 := Lib.hid c1
        clear mv1 c1 hMi
        go_wp2_with fail
        go_ret2
        exact ⟨rfl, MV1.out, by rw [HBC.out]; exact C1.out⟩
      have HREL : Hid (drawsB S.data.toList n a = preD (out ++ [x]) (drawsB S.data.toList (n - (k + 1)) c') ∧ (out ++ [x]).length = k + 1) := by
        refine ⟨?_, by simp [hp.out.2]⟩
        rw [hp.out.1, hq, drawsB_yes hdr, preD_app, show n - (k + 1) = q + 1 by omega]
      have HCS' : Hid (c' ≤ S.size) := by show _ ≤ _; rw [HSZ.out]; exact hle.2
      have HLN : Hid ((intsOf out).length + [((x : Nat) : Int)].length ≤ 100000) := by show _ ≤ 100000; rw [intsOf_length, hp.out.2]; simp; omega
      clear hdr hle hq hM hx hp
      go_wp2_with fail
      refine (bdraw_ok PM.out.cur HO.out HCS.out M MB.out M1.out HDR.out).mono ?_
      rintro e w1 ⟨rfl, mv1, c1⟩
      have PM1 := Lib.hid (PM.out.move mv1 c1)
      have HEX := Lib.hid ((Ext.refl w1).alloc (.cells #[.int .i64 (x : Int)] 3))
      have HRW := Lib.hid (ownsRow_ext' PM1.out.row HEX.out)
      have HBS : Hid (w.heap.size ≤ (w1.alloc (.cells #[.int .i64 (x : Int)] 3)).heap.size) := Nat.le_trans PM1.out.mv.size HEX.out.size
      clear mv1 c1 hMi
      go_wp2_with (at_builtin; refine append_ints rfl _ _ 65 3 Tryz.underlying65 info_int rfl w.heap.size _ _ _ rfl HRW.out HBS.out _ [(x : Int)] rfl (ints_lit w1 [(x : Int)] _ rfl 1 rfl (by simp)) HLN.out ?_; intro v' w' hown' hgrow; have HN2 := Lib.hid (PM1.out.grow HEX.out hown' rfl hgrow); clear hown' hgrow)
      exact ⟨⟨k + 1, c', out ++ [x], by go_num, HKK.out, HCS'.out, HREL.out, HN2.out⟩, by simp [intOf]; have := HKK.out; omega⟩
    · have ek : m = k := by omega
      subst ek
      exfalso
      have e := hp.out.1
      rw [show n - m = 1 by have := HM.out; omega, HD.out] at e
      cases e

set_option maxHeartbeats 2000000 in
set_option maxRecDepth 100000 in
/-- of no things: an empty row; of too many, or fewer than none: none -/
theorem pdraw_zero (w : World) (v : Value) :
    Calls Tryz.prog 46 #[v, .int .i64 0] w fun e w' => e = .returned (.tuple #[.slice none 0 0, .bool true]) ∧ Ext w w' := by
  go_enter Tryz.func46, Tryz.ntmps46
  go_wp2_with fail
  go_ret2
  exact ⟨rfl, Ext.refl _⟩
set_option maxHeartbeats 2000000 in
set_option maxRecDepth 100000 in
theorem pdraw_bad (w : World) (v : Value) (n : Int) (h : n < 0 ∨ 64 < n) :
    Calls Tryz.prog 46 #[v, .int .i64 n] w fun e w' => e = .returned (.tuple #[.slice none 0 0, .bool false]) ∧ Ext w w' := by
  rcases h with h | h
  · go_enter Tryz.func46, Tryz.ntmps46
    go_wp2_with fail
    go_ret2
    exact ⟨rfl, Ext.refl _⟩
  · have h2 : ¬ n < 0 := by omega
    go_enter Tryz.func46, Tryz.ntmps46
    go_wp2_with fail
    go_ret2
    exact ⟨rfl, Ext.refl _⟩
set_option maxHeartbeats 2000000 in
set_option maxRecDepth 100000 in
/-- of two things or more, when the bits are over, or by nobody's cursor: none -/
theorem pdraw_over {S : ByteArray} {t a : Nat} {w : World} (hc : Cur S t a true w) (n : Nat) (h1 : 2 ≤ n) (hn : n ≤ 64) :
    Calls Tryz.prog 46 #[.pointer (some ⟨t, 0, none⟩), .int .i64 (n : Int)] w fun e w' => e = .returned (.tuple #[.slice none 0 0, .bool false]) ∧ Ext w w' := by
  have HC := Lib.hid hc
  have t1 : (n : Int) ≤ 64 := by omega
  have t3 : (2 : Int) ≤ n := by omega
  have t2 : ((n : Int) == 0) = false := by rw [beq_eq_false_iff_ne]; omega
  have MB : Hid (n < Bs) := by show n < Bs; rw [Bs_def]; omega
  clear hc h1 hn
  go_enter Tryz.func46, Tryz.ntmps46
  go_wp2_with fail
  refine wp_loop_rounds 1 ?_
  rw [rounds_succ]
  go_wp2_with fail
  refine (bdraw_over HC.out n MB.out).mono ?_
  rintro e w1 ⟨rfl, x1⟩
  have X1 := Lib.hid x1
  clear x1
  go_wp2_with fail
  go_ret2
  exact ⟨rfl, X1.out⟩
set_option maxHeartbeats 2000000 in
set_option maxRecDepth 100000 in
theorem pdraw_nil (w : World) (n : Nat) (h1 : 2 ≤ n) (hn : n ≤ 64) :
    Calls Tryz.prog 46 #[.pointer none, .int .i64 (n : Int)] w fun e w' => e = .returned (.tuple #[.slice none 0 0, .bool false]) ∧ Ext w w' := by
  have t1 : (n : Int) ≤ 64 := by omega
  have t3 : (2 : Int) ≤ n := by omega
  have t2 : ((n : Int) == 0) = false := by rw [beq_eq_false_iff_ne]; omega
  have MB : Hid (n < Bs) := by show n < Bs; rw [Bs_def]; omega
  clear h1 hn
  go_enter Tryz.func46, Tryz.ntmps46
  go_wp2_with fail
  refine wp_loop_rounds 1 ?_
  rw [rounds_succ]
  go_wp2_with fail
  refine (bdraw_nil _ n MB.out).mono ?_
  rintro e w1 ⟨rfl, x1⟩
  have X1 := Lib.hid x1
  clear x1
  go_wp2_with fail
  go_ret2
  exact ⟨rfl, X1.out⟩
end Go.Proofs.YtkfioaoooodmnaaGreatDoor

/- The contract of perm.Cost; tombolaref12.Same; tombolalaw12.comes. -/
namespace Go.Proofs.YtkfioaoooodmnaaGreatDoor
open Go Go.RowKit

/-- what a shuffled row costs -/
noncomputable def pcostQ : Nat → Rat
  | 0 => 0
  | 1 => 0
  | n + 2 => pcostQ (n + 1) + costQ (n + 2)
theorem pcostQ_next {n : Nat} (h : 2 ≤ n) : pcostQ (n - 1) + costQ n = pcostQ n := by
  obtain ⟨m, rfl⟩ : ∃ m, n = m + 2 := ⟨n - 2, by omega⟩
  rw [pcostQ]; rfl
theorem pcostQ_len : ∀ {n : Nat}, n < Bs → LenR (3 * n + 1) (pcostQ n)
  | 0, _ => lenR_zero
  | 1, _ => lenR_zero.mono (by decide)
  | n + 2, h => by
    have h1 := pcostQ_len (n := n + 1) (by omega)
    rw [pcostQ]
    exact (LenR.add h1 (costQ_len h)).mono (by omega)
/-- a box that holds a fraction in memory of the call's own -/
def BoxO (B s : Nat) (q : Rat) (w : World) : Prop := ∃ b p n c p' n' c' m d, At s 0 (.bool b) w ∧ At s 1 (.slice p n c) w ∧ At s 2 (.slice p' n' c') w ∧ Bx 3 s w ∧ IsR w b (.slice p n c) (.slice p' n' c') m d q ∧ OwnR B w (.slice p n c) (.slice p' n' c') m d
theorem BoxO.mk {B s : Nat} {q : Rat} {w : World} {b : Bool} {p p' : Option Addr} {n c n' c' m d : Nat} (h0 : At s 0 (.bool b) w) (h1 : At s 1 (.slice p n c) w) (h2 : At s 2 (.slice p' n' c') w) (hb : Bx 3 s w) (hr : IsR w b (.slice p n c) (.slice p' n' c') m d q) (ho : OwnR B w (.slice p n c) (.slice p' n' c') m d) : BoxO B s q w := ⟨_, _, _, _, _, _, _, _, _, h0, h1, h2, hb, hr, ho⟩
/-- in the midst of Cost's loop -/
structure PcMem (w : World) (s2 s4 : Nat) (q : Rat) (wr : World) : Prop where
  ext : Ext w wr
  z0 : At s2 0 (.bool false) wr
  z1 : At s2 1 (.slice none 0 0) wr
  z2 : At s2 2 (.slice none 0 0) wr
  bz : Bx 3 s2 wr
  box : BoxO w.heap.size s4 q wr

set_option maxHeartbeats 8000000 in
set_option maxRecDepth 100000 in
theorem pcost_is (w : World) (n : Nat) (hn : n ≤ 64) : Calls Tryz.prog 43 #[.int .i64 (n : Int)] w (RetR0 w (pcostQ n)) := by
  have t1 : (n : Int) ≤ 64 := by omega
  have HN := Lib.hid hn
  clear hn
  go_enter Tryz.func43, Tryz.ntmps43
  go_wp2_with fail
  obtain ⟨v1, hv1⟩ : ∃ W, W = (w.alloc (.cells #[.bool false, .slice none 0 0, .slice none 0 0] 37)) := ⟨_, rfl⟩
  have y1 : Ext w v1 := by rw [hv1]; exact ((Ext.refl _).alloc _)
  have b0_0 : Hid (At (w.heap.size) 0 (.bool false) v1) := by rw [hv1]; exact At.ext (At.n0 (by rfl)) (Ext.refl _)
  have b0_1 : Hid (At (w.heap.size) 1 (.slice none 0 0) v1) := by rw [hv1]; exact At.ext (At.n0 (by rfl)) (Ext.refl _)
  have b0_2 : Hid (At (w.heap.size) 2 (.slice none 0 0) v1) := by rw [hv1]; exact At.ext (At.n0 (by rfl)) (Ext.refl _)
  have k0 : Hid (Bx 3 (w.heap.size) v1) := by rw [hv1]; exact Bx.gr (Bx.n0 3 ⟨rfl, by decide⟩ (by decide) noI_s3) (Ext.gr (Ext.refl _))
  have u0 : Hid (w.heap.size < v1.heap.size) := b0_0.out.2
  have e1_ : Ext w v1 := y1
  rw [← hv1]
  clear hv1
  refine (rof_is _ 0 (by decide) (by decide)).mono ?_
  rintro e w2 ⟨sb1, sv1, su1, sm1, sd1, rfl, e1, o1, x2⟩
  have e2_ : Ext w w2 := Ext.trans e1_ x2
  obtain ⟨sp1, sl1, sc1, tp1, tl1, tc1, rfl, rfl⟩ := e1.slice
  go_wp2_with fail
  obtain ⟨v3, hv3⟩ : ∃ W, W = (w2.alloc (.cells #[.bool sb1, .slice sp1 sl1 sc1, .slice tp1 tl1 tc1] 37)) := ⟨_, rfl⟩
  have y3 : Ext w2 v3 := by rw [hv3]; exact ((Ext.refl _).alloc _)
  have b1_0 : Hid (At (w2.heap.size) 0 (.bool sb1) v3) := by rw [hv3]; exact At.ext (At.n0 (by rfl)) (Ext.refl _)
  have b1_1 : Hid (At (w2.heap.size) 1 (.slice sp1 sl1 sc1) v3) := by rw [hv3]; exact At.ext (At.n0 (by rfl)) (Ext.refl _)
  have b1_2 : Hid (At (w2.heap.size) 2 (.slice tp1 tl1 tc1) v3) := by rw [hv3]; exact At.ext (At.n0 (by rfl)) (Ext.refl _)
  have k1 : Hid (Bx 3 (w2.heap.size) v3) := by rw [hv3]; exact Bx.gr (Bx.n0 3 ⟨rfl, by decide⟩ (by decide) noI_s3) (Ext.gr (Ext.refl _))
  have u1 : Hid (w2.heap.size < v3.heap.size) := b1_0.out.2
  have e3_ : Ext w v3 := Ext.trans e2_ y3
  rw [← hv3]
  clear hv3
  have NE := Lib.hid (show (w.heap.size) ≠ (w2.heap.size) from (by (try dsimp only); have h1 := u0.out; have h2 := x2.gr.size; have h3 := Nat.le_refl 0; omega))
  have LB2 := Lib.hid (show w.heap.size ≤ (w.heap.size) from (by omega))
  have LB4 := Lib.hid (show w.heap.size ≤ (w2.heap.size) from (by have := e2_.size; omega))
  have P0 : Hid (PcMem w (w.heap.size) (w2.heap.size) (pcostQ 1) v3) := ⟨e3_, (b0_0.out.ext (x2.trans y3)), (b0_1.out.ext (x2.trans y3)), (b0_2.out.ext (x2.trans y3)), (k0.out.gr (x2.gr.trans y3.gr)), BoxO.mk b1_0.out b1_1.out b1_2.out k1.out (show IsR _ _ _ _ _ _ (pcostQ 1) from (e1.ext y3)) ((o1.ext y3).mono e1_.size)⟩
  go_loopw [5] (fun v5 wr => ∃ i : Nat, v5 = .int .i64 (i : Int) ∧ 2 ≤ i ∧ (i ≤ n + 1 ∨ i = 2) ∧ PcMem w (w.heap.size) (w2.heap.size) (pcostQ (i - 1)) wr) (fun v5 _ => n + 1 - (intOf v5).toNat)
  case atStart => exact ⟨2, rfl, Nat.le_refl _, .inr rfl, P0.out⟩
  case round =>
    obtain ⟨i, rfl, hi2, hin, hP⟩ := hrel
    obtain ⟨hx, h0, h1, h2, hz, qb, qp, qn, qc, qp', qn', qc', qm, qd, c0, c1, c2, cb, cr, co⟩ := hP
    have XX := Lib.hid hx
    have b100_0 := Lib.hid h0
    have b100_1 := Lib.hid h1
    have b100_2 := Lib.hid h2
    have k100 := Lib.hid hz
    have u100 := Lib.hid hz.lt
    have b102_0 := Lib.hid c0
    have b102_1 := Lib.hid c1
    have b102_2 := Lib.hid c2
    have k102 := Lib.hid cb
    have u102 := Lib.hid cb.lt
    have QR := Lib.hid cr
    have QO := Lib.hid co
    clear hx h0 h1 h2 hz c0 c1 c2 cb cr co
    have HI2 := Lib.hid hi2
    by_cases hni : i ≤ n
    · have t2 : (i : Int) ≤ n := by omega
      have t3 : (2 : Int) ≤ i := by omega
      have MB : Hid (i < Bs) := by show i < Bs; rw [Bs_def]; omega
      have M1 : Hid (1 ≤ i) := by show 1 ≤ i; omega
      have PL : Hid (i - 1 < Bs) := by show i - 1 < Bs; rw [Bs_def]; omega
      have K1 : Hid (3 * (i - 1) + 1 + 2 ≤ 30000) := by show _ ≤ 30000; omega
      clear hin
      go_wp2_with fail
      refine (bcost_is i MB.out M1.out).mono ?_
      rintro e w1 ⟨sb1, sv1, su1, sm1, sd1, rfl, e1, o1, x1⟩
      have e1_ : Ext w w1 := Ext.trans XX.out x1
      obtain ⟨sp1, sl1, sc1, tp1, tl1, tc1, rfl, rfl⟩ := e1.slice
      have g102_0 := (b102_0.out.ext x1).1
      have g102_1 := (b102_1.out.ext x1).1
      have g102_2 := (b102_2.out.ext x1).1
      have f102 : w2.heap.size < w1.heap.size := (b102_0.out.ext x1).2
      go_wp2_with fail
      obtain ⟨v2, hv2⟩ : ∃ W, W = (w1.alloc (.cells #[.bool sb1, .slice sp1 sl1 sc1, .slice tp1 tl1 tc1] 37)) := ⟨_, rfl⟩
      have y2 : Ext w1 v2 := by rw [hv2]; exact ((Ext.refl _).alloc _)
      have b0_0 : Hid (At (w1.heap.size) 0 (.bool sb1) v2) := by rw [hv2]; exact At.ext (At.n0 (by rfl)) (Ext.refl _)
      have b0_1 : Hid (At (w1.heap.size) 1 (.slice sp1 sl1 sc1) v2) := by rw [hv2]; exact At.ext (At.n0 (by rfl)) (Ext.refl _)
      have b0_2 : Hid (At (w1.heap.size) 2 (.slice tp1 tl1 tc1) v2) := by rw [hv2]; exact At.ext (At.n0 (by rfl)) (Ext.refl _)
      have k0 : Hid (Bx 3 (w1.heap.size) v2) := by rw [hv2]; exact Bx.gr (Bx.n0 3 ⟨rfl, by decide⟩ (by decide) noI_s3) (Ext.gr (Ext.refl _))
      have u0 : Hid (w1.heap.size < v2.heap.size) := b0_0.out.2
      have e2_ : Ext w v2 := Ext.trans e1_ y2
      rw [← hv2]
      clear hv2
      refine (radd_is ((QR.out.ext (x1.trans y2)).inR (k := (3 * (i - 1) + 1)) (pcostQ_len PL.out)) ((e1.ext y2).inR (k := 2) (costQ_len MB.out)) K1.out).mono ?_
      rintro e w3 ⟨sb2, sv2, su2, sm2, sd2, rfl, e2, o2, x3⟩
      have e3_ : Ext w w3 := Ext.trans e2_ x3
      obtain ⟨sp2, sl2, sc2, tp2, tl2, tc2, rfl, rfl⟩ := e2.slice
      clear g102_0 g102_1 g102_2 f102
      have g102_0 := (b102_0.out.ext (x1.trans (y2.trans x3))).1
      have g102_1 := (b102_1.out.ext (x1.trans (y2.trans x3))).1
      have g102_2 := (b102_2.out.ext (x1.trans (y2.trans x3))).1
      have z102_0 := (k102.out.gr (x1.gr.trans (y2.gr.trans x3.gr))).free 0
      have z102_1 := (k102.out.gr (x1.gr.trans (y2.gr.trans x3.gr))).free 1
      have z102_2 := (k102.out.gr (x1.gr.trans (y2.gr.trans x3.gr))).free 2
      have f102 : w2.heap.size < w3.heap.size := (b102_0.out.ext (x1.trans (y2.trans x3))).2
      go_wp2_with fail
      obtain ⟨v4, hv4⟩ : ∃ W, W = (((w3.setCell ⟨w2.heap.size, 0, none⟩ (.bool sb2)).setCell ⟨w2.heap.size, 1, none⟩ (.slice sp2 sl2 sc2)).setCell ⟨w2.heap.size, 2, none⟩ (.slice tp2 tl2 tc2)) := ⟨_, rfl⟩
      have sv4 : v4 = setRow (w2.heap.size) 0 [.bool sb2, .slice sp2 sl2 sc2, .slice tp2 tl2 tc2] w3 := hv4
      have uv4 := setRow_bx' (o := 0) (cs := [.bool sb2, .slice sp2 sl2 sc2, .slice tp2 tl2 tc2]) (k102.out.gr (x1.gr.trans (y2.gr.trans x3.gr))) (by simp) noI_s3
      have y4 : Gr w3 v4 := by rw [sv4]; exact setRow_gr' (o := 0) (cs := [.bool sb2, .slice sp2 sl2 sc2, .slice tp2 tl2 tc2]) (k102.out.gr (x1.gr.trans (y2.gr.trans x3.gr))) (by simp) noI_s3
      have t4 : Hid (∀ t o u, t ≠ (w2.heap.size) → At t o u w3 → At t o u v4) := fun t o u h k => by rw [sv4]; exact k.setRow h _ _
      have e4_ : Ext w v4 := by rw [sv4]; exact setRow_below _ _ LB4.out _ _ e3_
      have b102_0 : Hid (At (w2.heap.size) 0 (.bool sb2) v4) := by rw [sv4]; exact uv4.2.1 0 _ rfl
      have b102_1 : Hid (At (w2.heap.size) 1 (.slice sp2 sl2 sc2) v4) := by rw [sv4]; exact uv4.2.1 1 _ rfl
      have b102_2 : Hid (At (w2.heap.size) 2 (.slice tp2 tl2 tc2) v4) := by rw [sv4]; exact uv4.2.1 2 _ rfl
      have k102 : Hid (Bx 3 (w2.heap.size) v4) := by rw [sv4]; exact uv4.1
      rw [← hv4]
      clear hv4 sv4 uv4
      refine ⟨⟨i + 1, by go_num, by have := HI2.out; omega, .inl (by omega), ⟨e4_, (t4.out _ _ _ NE.out (b100_0.out.ext (x1.trans (y2.trans x3)))), (t4.out _ _ _ NE.out (b100_1.out.ext (x1.trans (y2.trans x3)))), (t4.out _ _ _ NE.out (b100_2.out.ext (x1.trans (y2.trans x3)))), (k100.out.gr (x1.gr.trans (y2.gr.trans (x3.gr.trans y4)))), ?_⟩⟩, by simp [intOf]; omega⟩
      rw [show i + 1 - 1 = i from rfl, ← pcostQ_next HI2.out]
      exact BoxO.mk b102_0.out b102_1.out b102_2.out k102.out (e2.gr y4) ((o2.gr y4).mono e2_.size)
    · have HQ : Hid (pcostQ (i - 1) = pcostQ n) := by
        show _ = _
        rcases hin with h | h
        · rw [show i - 1 = n by omega]
        · subst h
          have : n = 0 ∨ n = 1 := by omega
          rcases this with rfl | rfl <;> rfl
      have t2 : (n : Int) + 1 ≤ i := by omega
      clear hin hni
      have QR : Hid (IsR wr qb (.slice qp qn qc) (.slice qp' qn' qc') qm qd (pcostQ n)) := by have := QR.out; rwa [HQ.out] at this
      have g102_0 := b102_0.out.1
      have g102_1 := b102_1.out.1
      have g102_2 := b102_2.out.1
      have g100_0 := b100_0.out.1
      have g100_1 := b100_1.out.1
      have g100_2 := b100_2.out.1
      have z100_0 := k100.out.free 0
      have z100_1 := k100.out.free 1
      have z100_2 := k100.out.free 2
      have f102 : w2.heap.size < wr.heap.size := b102_0.out.2
      have f100 : w.heap.size < wr.heap.size := b100_0.out.2
      have n100_102 : w.heap.size ≠ w2.heap.size := NE.out
      have n102_100 : w2.heap.size ≠ w.heap.size := Ne.symm n100_102
      go_wp2_with fail
      obtain ⟨v1, hv1⟩ : ∃ W, W = (((wr.setCell ⟨w.heap.size, 0, none⟩ (.bool qb)).setCell ⟨w.heap.size, 1, none⟩ (.slice qp qn qc)).setCell ⟨w.heap.size, 2, none⟩ (.slice qp' qn' qc')) := ⟨_, rfl⟩
      have sv1 : v1 = setRow (w.heap.size) 0 [.bool qb, .slice qp qn qc, .slice qp' qn' qc'] wr := hv1
      have uv1 := setRow_bx' (o := 0) (cs := [.bool qb, .slice qp qn qc, .slice qp' qn' qc']) k100.out (by simp) noI_s3
      have y1 : Gr wr v1 := by rw [sv1]; exact setRow_gr' (o := 0) (cs := [.bool qb, .slice qp qn qc, .slice qp' qn' qc']) k100.out (by simp) noI_s3
      have t1 : Hid (∀ t o u, t ≠ (w.heap.size) → At t o u wr → At t o u v1) := fun t o u h k => by rw [sv1]; exact k.setRow h _ _
      have e1_ : Ext w v1 := by rw [sv1]; exact setRow_below _ _ LB2.out _ _ XX.out
      have b100_0 : Hid (At (w.heap.size) 0 (.bool qb) v1) := by rw [sv1]; exact uv1.2.1 0 _ rfl
      have b100_1 : Hid (At (w.heap.size) 1 (.slice qp qn qc) v1) := by rw [sv1]; exact uv1.2.1 1 _ rfl
      have b100_2 : Hid (At (w.heap.size) 2 (.slice qp' qn' qc') v1) := by rw [sv1]; exact uv1.2.1 2 _ rfl
      have k100 : Hid (Bx 3 (w.heap.size) v1) := by rw [sv1]; exact uv1.1
      rw [← hv1]
      clear hv1 sv1 uv1
      have c0 := b100_0.out.1
      have c1 := b100_1.out.1
      have c2 := b100_2.out.1
      refine bodyPost_ret (v := .tuple #[.agg #[.bool qb, .slice qp qn qc, .slice qp' qn' qc'], .int .i64 0]) (by simp [results, Tryz.results43, go_sem, c0, c1, c2]) rfl ?_
      exact ⟨_, _, _, _, _, rfl, (QR.out.gr y1), ((QO.out.gr y1)), e1_⟩

set_option maxHeartbeats 8000000 in
set_option maxRecDepth 100000 in
theorem pcost_bad (w : World) (n : Int) (hn : n < 0 ∨ 64 < n) : Calls Tryz.prog 43 #[.int .i64 n] w (RetRE w 1) := by
  rcases hn with h | h
  · go_enter Tryz.func43, Tryz.ntmps43
    go_wp2_with fail
    obtain ⟨v1, hv1⟩ : ∃ W, W = (w.alloc (.cells #[.bool false, .slice none 0 0, .slice none 0 0] 37)) := ⟨_, rfl⟩
    have y1 : Ext w v1 := by rw [hv1]; exact ((Ext.refl _).alloc _)
    have b0_0 : Hid (At (w.heap.size) 0 (.bool false) v1) := by rw [hv1]; exact At.ext (At.n0 (by rfl)) (Ext.refl _)
    have b0_1 : Hid (At (w.heap.size) 1 (.slice none 0 0) v1) := by rw [hv1]; exact At.ext (At.n0 (by rfl)) (Ext.refl _)
    have b0_2 : Hid (At (w.heap.size) 2 (.slice none 0 0) v1) := by rw [hv1]; exact At.ext (At.n0 (by rfl)) (Ext.refl _)
    have k0 : Hid (Bx 3 (w.heap.size) v1) := by rw [hv1]; exact Bx.gr (Bx.n0 3 ⟨rfl, by decide⟩ (by decide) noI_s3) (Ext.gr (Ext.refl _))
    have u0 : Hid (w.heap.size < v1.heap.size) := b0_0.out.2
    have e1_ : Ext w v1 := y1
    rw [← hv1]
    clear hv1
    have c0 := b0_0.out.1
    have c1 := b0_1.out.1
    have c2 := b0_2.out.1
    refine bodyPost_ret (v := .tuple #[.agg #[.bool false, .slice none 0 0, .slice none 0 0], .int .i64 1]) (by simp [results, Tryz.results43, go_sem, c0, c1, c2]) rfl ?_
    exact ⟨rfl, e1_⟩
  · have h2 : ¬ n < 0 := by omega
    go_enter Tryz.func43, Tryz.ntmps43
    go_wp2_with fail
    obtain ⟨v1, hv1⟩ : ∃ W, W = (w.alloc (.cells #[.bool false, .slice none 0 0, .slice none 0 0] 37)) := ⟨_, rfl⟩
    have y1 : Ext w v1 := by rw [hv1]; exact ((Ext.refl _).alloc _)
    have b0_0 : Hid (At (w.heap.size) 0 (.bool false) v1) := by rw [hv1]; exact At.ext (At.n0 (by rfl)) (Ext.refl _)
    have b0_1 : Hid (At (w.heap.size) 1 (.slice none 0 0) v1) := by rw [hv1]; exact At.ext (At.n0 (by rfl)) (Ext.refl _)
    have b0_2 : Hid (At (w.heap.size) 2 (.slice none 0 0) v1) := by rw [hv1]; exact At.ext (At.n0 (by rfl)) (Ext.refl _)
    have k0 : Hid (Bx 3 (w.heap.size) v1) := by rw [hv1]; exact Bx.gr (Bx.n0 3 ⟨rfl, by decide⟩ (by decide) noI_s3) (Ext.gr (Ext.refl _))
    have u0 : Hid (w.heap.size < v1.heap.size) := b0_0.out.2
    have e1_ : Ext w v1 := y1
    rw [← hv1]
    clear hv1
    have c0 := b0_0.out.1
    have c1 := b0_1.out.1
    have c2 := b0_2.out.1
    refine bodyPost_ret (v := .tuple #[.agg #[.bool false, .slice none 0 0, .slice none 0 0], .int .i64 1]) (by simp [results, Tryz.results43, go_sem, c0, c1, c2]) rfl ?_
    exact ⟨rfl, e1_⟩

set_option maxHeartbeats 2000000 in
set_option maxRecDepth 100000 in
theorem same12_calls {w : World} {v u : Value} {L M : List Int} (h : Ints w v L) (k : Ints w u M) (b : Bool) (hb : decide (L = M) = b) :
    Calls Tryz.prog 44 #[v, u] w fun e w' => e = .returned (.bool b) ∧ Ext w w' := by
  obtain ⟨p1, c1, rfl, g1, g2, g3⟩ := h.open
  obtain ⟨p2, c2, rfl, k1, k2, k3⟩ := k.open
  unfold maxLen at g2 k2
  have G3 := Lib.hid g3
  have K3 := Lib.hid k3
  have HB := Lib.hid hb
  obtain ⟨n, hn⟩ : ∃ n, L.length = n := ⟨_, rfl⟩
  obtain ⟨m, hm⟩ : ∃ m, M.length = m := ⟨_, rfl⟩
  have HN := Lib.hid hn
  have HM := Lib.hid hm
  rw [hn] at g1 ⊢
  rw [hm] at k1 ⊢
  have gi : (n : Int) ≤ 9223372036854775807 := by omega
  have ki : (m : Int) ≤ 9223372036854775807 := by omega
  by_cases hnm : n = m
  case neg =>
    have HF : Hid (b = false) := by show _ = _; rw [← HB.out, decide_eq_false_iff_not]; intro e; apply hnm; rw [← hn, ← hm, e]
    have t1 : ¬ (n : Int) = (m : Int) := by omega
    have t2 : ((n : Int) != (m : Int)) = true := by rw [bne_iff_ne]; exact t1
    clear g3 k3 hb h k hn hm g1 g2 k1 k2 hnm
    go_enter Tryz.func44, Tryz.ntmps44
    go_wp2_with fail
    go_ret
    exact ⟨by rw [HF.out]; rfl, Ext.refl _⟩
  subst hnm
  clear g3 k3 hb h k hn hm g2 k2 ki
  go_enter Tryz.func44, Tryz.ntmps44
  go_wp2_with fail
  go_loopw [5] (fun v5 wr => ∃ i : Nat, v5 = .int .i64 (i : Int) ∧ i ≤ n ∧ Hid (∀ j, j < i → L.getD j 0 = M.getD j 0) ∧ Ext w wr) (fun v5 _ => n - (intOf v5).toNat)
  case atStart => exact ⟨0, rfl, Nat.zero_le _, fun j hj => by omega, Ext.refl _⟩
  case round =>
    obtain ⟨i, rfl, hi, hp, hx⟩ := hrel
    have X := Lib.hid hx
    clear hx
    by_cases hin : i < n
    · obtain ⟨b1, o1, rfl, q1, q2⟩ := G3.out i (by rw [HN.out]; exact hin)
      obtain ⟨b2, o2, rfl, r1, r2⟩ := K3.out i (by rw [HM.out]; exact hin)
      obtain ⟨x, hx⟩ : ∃ x, L.getD i 0 = x := ⟨_, rfl⟩
      obtain ⟨y, hy⟩ : ∃ y, M.getD i 0 = y := ⟨_, rfl⟩
      have cx : wr.cell? ⟨b1, o1 + i, none⟩ = some (.int .i64 x) := by rw [Below.cell X.out (p := ⟨b1, o1 + i, none⟩) q1, q2 i (by rw [HN.out]; exact hin), hx]
      have cy : wr.cell? ⟨b2, o2 + i, none⟩ = some (.int .i64 y) := by rw [Below.cell X.out (p := ⟨b2, o2 + i, none⟩) r1, r2 i (by rw [HM.out]; exact hin), hy]
      have HX := Lib.hid hx
      have HY := Lib.hid hy
      have LT := Lib.hid hin
      clear q2 r2 hx hy
      by_cases hxy : x = y
      · subst hxy
        have HP : Hid (∀ j, j < i + 1 → L.getD j 0 = M.getD j 0) := fun j hj => by
          by_cases e : j < i
          · exact hp.out j e
          · obtain rfl : j = i := by omega
            rw [HX.out, HY.out]
        go_wp2_with fail
        go_quiet (fail)
        go_wp2_with fail
        exact ⟨⟨i + 1, by go_num, LT.out, HP, X.out.drewN _⟩, by simp [intOf]; have := LT.out; omega⟩
      · have HF : Hid (b = false) := by show _ = _; rw [← HB.out, decide_eq_false_iff_not]; intro e; apply hxy; rw [← HX.out, ← HY.out, e]
        have t2 : (x != y) = true := by rw [bne_iff_ne]; exact hxy
        clear hp
        go_wp2_with fail
        go_quiet (fail)
        go_wp2_with fail
        go_ret
        exact ⟨by rw [HF.out]; rfl, X.out.drewN _⟩
    · have e : n = i := by omega
      subst e
      have HT : Hid (b = true) := by show _ = _; rw [← HB.out, decide_eq_true_eq]; exact ext_getD (by rw [HN.out, HM.out]) (fun j hj => hp.out j (by rw [HN.out] at hj; exact hj))
      clear hp
      go_wp2_with fail
      go_ret
      exact ⟨by rw [HT.out]; rfl, X.out⟩

set_option maxHeartbeats 2000000 in
set_option maxRecDepth 100000 in
theorem comes_calls {w : World} {v u : Value} {D M : List Int} (h : Ints w v D) (k : Ints w u M) (he : errP D = 0) (hm : rowF (natsOf D) (things (D.length + 1)) = M) :
    Calls Tryz.prog 73 #[v, u] w fun e w' => e = .returned (.bool true) ∧ Ext w w' := by
  have H := Lib.hid h
  have K := Lib.hid k
  have HE := Lib.hid he
  have HM := Lib.hid hm
  clear h k he hm
  go_enter Tryz.func73, Tryz.ntmps73
  go_wp2_with fail
  refine (prow_ok H.out HE.out).mono ?_
  rintro e w1 ⟨g, gc, rfl, hg, hr, x1⟩
  have R1 := Lib.hid hr
  have X1 := Lib.hid x1
  have HL : Hid ((rowF (natsOf D) (things (D.length + 1))).length = D.length + 1) := by show _ = _; rw [rowF_length, things_length]
  clear hg hr x1
  go_wp2_with fail
  refine (same12_calls (L := rowF (natsOf D) (things (D.length + 1))) (by have := R1.out.1.ownI.ints; rwa [HL.out] at this) (K.out.ext X1.out) true (by rw [HM.out]; simp)).mono ?_
  rintro e w2 ⟨rfl, x2⟩
  have X2 := Lib.hid x2
  clear x2
  go_wp2_with fail
  go_ret
  exact ⟨rfl, X1.out.trans X2.out⟩
end Go.Proofs.YtkfioaoooodmnaaGreatDoor

/- Small contracts for the laws of chapter 12: what the walks that a program prints go by. -/
namespace Go.Proofs.YtkfioaoooodmnaaGreatDoor
open Go Go.RowKit

/-- the row of draws -/
def permL (D : List Int) : List Int := rowF (natsOf D) (things (D.length + 1))
theorem permL_length (D : List Int) : (permL D).length = D.length + 1 := by unfold permL; rw [rowF_length, things_length]
theorem RowZ.z {g cap n B : Nat} {L : List Int} {w : World} (h : RowZ 3 g cap L w) (hl : L.length = n) (hB : B ≤ g) : OwnZ 3 B w (.slice (some ⟨g, 0, none⟩) n cap) L := by
  subst hl
  exact ⟨h.1.ownI.mono hB, by decide⟩
theorem prow_z {w : World} {v : Value} {D : List Int} (hD : Ints w v D) (h : errP D = 0) :
    Calls Tryz.prog 41 #[v] w fun e w' => ∃ r, e = .returned (.tuple #[r, .int .i64 0]) ∧ OwnZ 3 w.heap.size w' r (permL D) ∧ Ext w w' := by
  refine (prow_ok hD h).mono ?_
  rintro e w' ⟨g, cap, rfl, hg, hr, hx⟩
  exact ⟨_, rfl, hr.z (permL_length D) hg, hx⟩
theorem pdraw_z {S : ByteArray} {t a b : Nat} {w : World} {vs : List Nat} (hc : Cur S t a false w) (ho : okS S.data.toList = true) (ha : a ≤ S.size) (n : Nat) (h1 : 1 ≤ n) (hn : n ≤ 64) (hd : drawsB S.data.toList n a = (some vs, b)) :
    Calls Tryz.prog 46 #[.pointer (some ⟨t, 0, none⟩), .int .i64 (n : Int)] w fun e w' => ∃ r, e = .returned (.tuple #[r, .bool true]) ∧ OwnZ 3 w.heap.size w' r (rowF vs (things n)) ∧ Mv t w w' ∧ Cur S t b false w' := by
  refine (pdraw_some hc ho ha n h1 hn hd).mono ?_
  rintro e w' ⟨g, cap, rfl, hg, hr, hm, hc'⟩
  exact ⟨_, rfl, hr.z (by rw [rowF_length, things_length]) hg, hm, hc'⟩
theorem OwnZ.slice {t : TypeId} {B : Nat} {w : World} {v : Value} {L : List Int} (h : OwnZ t B w v L) : ∃ a c, v = .slice a L.length c := h.ints.slice
/-- draws, from a row of at least one thing, or of none -/
theorem pdraws_z {w : World} {v : Value} {R : List Int} (hR : Ints w v R) (h : errR12 R = 0) :
    Calls Tryz.prog 42 #[v] w fun e w' => ∃ r, e = .returned (.tuple #[r, .int .i64 0]) ∧ OwnZ 3 w.heap.size w' r (intsOf (drawsF R (R.length - 1) (things R.length))) ∧ Ext w w' := by
  rcases Nat.eq_zero_or_pos R.length with h0 | h0
  · have e := List.length_eq_zero_iff.1 h0
    subst e
    obtain ⟨p, cap, rfl⟩ := hR.slice
    refine pdraws_none.mono ?_
    rintro e w' ⟨rfl, hx⟩
    exact ⟨_, rfl, ⟨OwnI.nil _ _ _, by decide⟩, hx⟩
  · exact pdraws_ok hR h h0
/-- the sorted list is the only one -/
theorem sortL_eq {L S : List Int} (h : L.Perm S) (hs : S.Pairwise (· ≤ ·)) : sortL L = S := by
  refine List.Perm.eq_of_pairwise (le := fun a b : Int => a ≤ b) (fun a b _ _ h1 h2 => Int.le_antisymm h1 h2) ?_ hs ((sortL_perm L).trans h)
  have := List.pairwise_mergeSort (le := fun x y : Int => decide (x ≤ y)) (fun a b c h1 h2 => by simp only [decide_eq_true_eq] at *; exact Int.le_trans h1 h2) (fun a b => by simp only [Bool.or_eq_true, decide_eq_true_eq]; exact Int.le_total a b) L
  exact this.imp fun h => by simpa using h
theorem errR12_of {R : List Int} (h : R.length ≤ 64) (hp : R.Perm (things R.length)) : errR12 R = 0 := by
  unfold errR12
  rw [if_neg (by omega), if_pos (sortL_eq hp (things_sorted _))]
theorem errR12_not {R : List Int} (h : R.length ≤ 64) (hp : ¬ R.Perm (things R.length)) : errR12 R = 3 := by
  unfold errR12
  rw [if_neg (by omega), if_neg]
  intro e
  apply hp
  have := (sortL_perm R).symm
  rwa [e] at this
theorem prow_zl {w : World} {v : Value} {D L : List Int} (hD : Ints w v D) (h : errP D = 0) (hL : permL D = L) :
    Calls Tryz.prog 41 #[v] w fun e w' => ∃ r, e = .returned (.tuple #[r, .int .i64 0]) ∧ OwnZ 3 w.heap.size w' r L ∧ Ext w w' := hL ▸ prow_z hD h
theorem pdraws_zl {w : World} {v : Value} {R L : List Int} (hR : Ints w v R) (h : errR12 R = 0) (hL : intsOf (drawsF R (R.length - 1) (things R.length)) = L) :
    Calls Tryz.prog 42 #[v] w fun e w' => ∃ r, e = .returned (.tuple #[r, .int .i64 0]) ∧ OwnZ 3 w.heap.size w' r L ∧ Ext w w' := hL ▸ pdraws_z hR h
theorem errP_ok {D : List Int} (h : errP D = 0) : D.length < 64 ∧ okI D := by
  unfold errP at h
  split at h
  · cases h
  · split at h
    · rename_i g k; exact ⟨by omega, k⟩
    · cases h
theorem intsOf_natsOf : ∀ {D : List Int}, okI D → intsOf (natsOf D) = D
  | [], _ => rfl
  | d :: ds, h => by
    have h1 := h.1
    have h2 := intsOf_natsOf h.2
    unfold intsOf natsOf at *
    rw [List.map_cons, List.map_cons, h2]
    congr 1; omega
theorem permL_perm {D : List Int} (h : errP D = 0) : (permL D).Perm (things (D.length + 1)) := by
  obtain ⟨h1, h2⟩ := errP_ok h
  exact rowF_perm _ _ h2.nats (by rw [natsOf_length, things_length]; omega)
theorem back1 {D : List Int} (h : errP D = 0) : errR12 (permL D) = 0 ∧ intsOf (drawsF (permL D) ((permL D).length - 1) (things (permL D).length)) = D := by
  obtain ⟨h1, h2⟩ := errP_ok h
  refine ⟨errR12_of (by rw [permL_length]; omega) (by rw [permL_length]; exact permL_perm h), ?_⟩
  rw [permL_length, Nat.add_sub_cancel]
  have := drawsF_row (natsOf D) (things (D.length + 1)) h2.nats (by rw [natsOf_length, things_length]; omega) (things_nodup _)
  rw [natsOf_length] at this
  unfold permL
  rw [this, intsOf_natsOf h2]
theorem back2 {R : List Int} (h : errR12 R = 0) (h1 : 1 ≤ R.length) : errP (intsOf (drawsF R (R.length - 1) (things R.length))) = 0 ∧ permL (intsOf (drawsF R (R.length - 1) (things R.length))) = R := by
  obtain ⟨h2, h3⟩ := errR12_ok h
  obtain ⟨g1, g2⟩ := row_back R (R.length - 1) (things R.length) h3 (things_nodup _) (by rw [things_length]; omega) (fun k hk hl => by rw [things_length] at hl; omega)
  refine ⟨errP_intsOf g1 (by rw [drawsF_length]; omega), ?_⟩
  unfold permL
  rw [natsOf_intsOf, intsOf_length, drawsF_length, show R.length - 1 + 1 = R.length by omega]
  exact g2
end Go.Proofs.YtkfioaoooodmnaaGreatDoor

/- awake of chapter 12 answers true. -/
namespace Go.Proofs.YtkfioaoooodmnaaGreatDoor
open Go Go.RowKit

theorem pcost3 : pcostQ 3 = mkRat 11 3 := by decide +kernel
set_option maxHeartbeats 8000000 in
set_option maxRecDepth 100000 in
theorem awake12_calls (w : World) : Calls Tryz.prog 37 #[] w fun e w' => e = .returned (.bool true) ∧ Ext w w' := by
  have HD1 : Hid (errR12 [2, 0, 1] = 0) := errR12_of (by decide) (by decide)
  have HD2 : Hid (errR12 [0, 0] = 3) := errR12_not (by decide) (by decide)
  have HB1 : Hid (drawsB (⟨#[48, 48, 48]⟩ : ByteArray).data.toList 3 0 = (some [0, 0], 3)) := by
    have h1 : DrawIs [48, 48, 48] 3 0 0 true 2 := drawIs_hit (by decide +kernel) (by decide +kernel) (by decide) (by decide +kernel)
    have h2 : DrawIs [48, 48, 48] 2 2 0 true 3 := drawIs_hit (by decide +kernel) (by decide +kernel) (by decide) (by decide +kernel)
    show drawsB [48, 48, 48] 3 0 = _
    rw [drawsB_yes h1, drawsB_yes h2]; rfl
  have HB2 : Hid (drawsB (⟨#[49, 49]⟩ : ByteArray).data.toList 3 0 = (none, 2)) := by
    have h1 : DrawIs [49, 49] 3 0 0 false 2 := drawIs_miss (by decide +kernel) (by decide +kernel) (by decide +kernel) (by rw [show 0 + wid 3 = 2 by decide +kernel]; exact drawIs_short (by decide +kernel))
    show drawsB [49, 49] 3 0 = _
    rw [drawsB_no h1]
  go_enter Tryz.func37, Tryz.ntmps37
  go_wp2_with fail
  obtain ⟨v1, hv1⟩ : ∃ W, W = (w.alloc (.cells #[.int .i64 2, .int .i64 0, .int .i64 1] 3)) := ⟨_, rfl⟩
  have y1 : Ext w v1 := by rw [hv1]; exact ((Ext.refl _).alloc _)
  have r0 : Hid (OwnZ 3 w.heap.size v1 (.slice (some ⟨w.heap.size, 0, none⟩) 3 3) [2, 0, 1]) := by rw [hv1]; exact OwnZ.ext (litz_n0 [2, 0, 1] _ rfl 3 rfl (by decide) (Nat.le_refl _)) (Ext.refl _)
  have e1_ : Ext w v1 := y1
  rw [← hv1]
  clear hv1
  refine (pdraws_z r0.out.ints HD1.out).mono ?_
  rintro e w2 ⟨zr1, rfl, zo1, x2⟩
  have e2_ : Ext w w2 := Ext.trans e1_ x2
  obtain ⟨zp1, zc1, rfl⟩ := zo1.slice
  go_wp2_with fail
  obtain ⟨v3, hv3⟩ : ∃ W, W = (w2.alloc (.cells #[.int .i64 0, .int .i64 0] 3)) := ⟨_, rfl⟩
  have y3 : Ext w2 v3 := by rw [hv3]; exact ((Ext.refl _).alloc _)
  have r1 : Hid (OwnZ 3 w.heap.size v3 (.slice (some ⟨w2.heap.size, 0, none⟩) 2 2) [0, 0]) := by rw [hv3]; exact OwnZ.ext (litz_n0 [0, 0] _ rfl 2 rfl (by decide) e2_.size) (Ext.refl _)
  have e3_ : Ext w v3 := Ext.trans e2_ y3
  rw [← hv3]
  clear hv3
  refine (pdraws_no r1.out.ints 3 HD2.out (by decide)).mono ?_
  rintro e w4 ⟨rfl, x4⟩
  have e4_ : Ext w w4 := Ext.trans e3_ x4
  go_wp2_with fail
  refine (cnew_ok ⟨#[48, 48, 48]⟩ _ (by decide) (by decide +kernel)).mono ?_
  rintro e w5 ⟨cs3, rfl, cl3, cc3_, x5⟩
  have e5_ : Ext w w5 := Ext.trans e4_ x5
  have b2_0 : Hid (At (cs3) 0 (.string ⟨#[48, 48, 48]⟩) w5) := cc3_.c0
  have b2_1 : Hid (At (cs3) 1 (.int .i64 ((0 : Nat) : Int)) w5) := cc3_.c1
  have b2_2 : Hid (At (cs3) 2 (.bool false) w5) := cc3_.c2
  have k2 := Lib.hid cc3_.bx
  have l2 := Lib.hid cl3
  have u2 := Lib.hid cc3_.bx.lt
  clear cl3 cc3_
  go_wp2_with fail
  refine (pdraw_z (show Cur ⟨#[48, 48, 48]⟩ (cs3) (0) false _ from ⟨b2_0.out, b2_1.out, b2_2.out, k2.out⟩) (by decide +kernel) (Nat.zero_le _) 3 (by decide) (by decide) HB1.out).mono ?_
  rintro e w6 ⟨zr4, rfl, zo4, mv6, cc6⟩
  have y6 : Gr w5 w6 := ((show Cur ⟨#[48, 48, 48]⟩ (cs3) (0) false _ from ⟨b2_0.out, b2_1.out, b2_2.out, k2.out⟩)).mvgr mv6 cc6
  have t6 : Hid (∀ t o u, t ≠ (cs3) → At t o u w5 → At t o u w6) := fun t o u h k => mv6.at h k
  have e6_ : Ext w w6 := mv6.ext e5_ (Nat.le_trans e4_.size l2.out)
  have b2_0 : Hid (At (cs3) 0 (.string ⟨#[48, 48, 48]⟩) w6) := cc6.c0
  have b2_1 : Hid (At (cs3) 1 (.int .i64 ((3 : Nat) : Int)) w6) := cc6.c1
  have b2_2 : Hid (At (cs3) 2 (.bool false) w6) := cc6.c2
  have k2 : Hid (Bx 3 (cs3) w6) := cc6.bx
  clear mv6 cc6
  obtain ⟨zp4, zc4, rfl⟩ := zo4.slice
  go_wp2_with fail
  refine (cnew_ok ⟨#[49, 49]⟩ _ (by decide) (by decide +kernel)).mono ?_
  rintro e w7 ⟨cs5, rfl, cl5, cc5_, x7⟩
  have e7_ : Ext w w7 := Ext.trans e6_ x7
  have b3_0 : Hid (At (cs5) 0 (.string ⟨#[49, 49]⟩) w7) := cc5_.c0
  have b3_1 : Hid (At (cs5) 1 (.int .i64 ((0 : Nat) : Int)) w7) := cc5_.c1
  have b3_2 : Hid (At (cs5) 2 (.bool false) w7) := cc5_.c2
  have k3 := Lib.hid cc5_.bx
  have l3 := Lib.hid cl5
  have u3 := Lib.hid cc5_.bx.lt
  clear cl5 cc5_
  go_wp2_with fail
  refine (pdraw_none (show Cur ⟨#[49, 49]⟩ (cs5) (0) false _ from ⟨b3_0.out, b3_1.out, b3_2.out, k3.out⟩) (by decide +kernel) (Nat.zero_le _) 3 (by decide) (by decide) HB2.out).mono ?_
  rintro e w8 ⟨rfl, mv8, cc8⟩
  have y8 : Gr w7 w8 := ((show Cur ⟨#[49, 49]⟩ (cs5) (0) false _ from ⟨b3_0.out, b3_1.out, b3_2.out, k3.out⟩)).mvgr mv8 cc8
  have t8 : Hid (∀ t o u, t ≠ (cs5) → At t o u w7 → At t o u w8) := fun t o u h k => mv8.at h k
  have e8_ : Ext w w8 := mv8.ext e7_ (Nat.le_trans e6_.size l3.out)
  have b3_0 : Hid (At (cs5) 0 (.string ⟨#[49, 49]⟩) w8) := cc8.c0
  have b3_1 : Hid (At (cs5) 1 (.int .i64 ((2 : Nat) : Int)) w8) := cc8.c1
  have b3_2 : Hid (At (cs5) 2 (.bool true) w8) := cc8.c2
  have k3 : Hid (Bx 3 (cs5) w8) := cc8.bx
  clear mv8 cc8
  go_wp2_with fail
  refine (pcost_is _ 3 (by decide)).mono ?_
  rintro e w9 ⟨sb7, sv7, su7, sm7, sd7, rfl, e7, o7, x9⟩
  have e9_ : Ext w w9 := Ext.trans e8_ x9
  obtain ⟨sp7, sl7, sc7, tp7, tl7, tc7, rfl, rfl⟩ := e7.slice
  go_wp2_with fail
  obtain ⟨v10, hv10⟩ : ∃ W, W = (w9.alloc (.cells #[.bool sb7, .slice sp7 sl7 sc7, .slice tp7 tl7 tc7] 37)) := ⟨_, rfl⟩
  have y10 : Ext w9 v10 := by rw [hv10]; exact ((Ext.refl _).alloc _)
  have b4_0 : Hid (At (w9.heap.size) 0 (.bool sb7) v10) := by rw [hv10]; exact At.ext (At.n0 (by rfl)) (Ext.refl _)
  have b4_1 : Hid (At (w9.heap.size) 1 (.slice sp7 sl7 sc7) v10) := by rw [hv10]; exact At.ext (At.n0 (by rfl)) (Ext.refl _)
  have b4_2 : Hid (At (w9.heap.size) 2 (.slice tp7 tl7 tc7) v10) := by rw [hv10]; exact At.ext (At.n0 (by rfl)) (Ext.refl _)
  have k4 : Hid (Bx 3 (w9.heap.size) v10) := by rw [hv10]; exact Bx.gr (Bx.n0 3 ⟨rfl, by decide⟩ (by decide) noI_s3) (Ext.gr (Ext.refl _))
  have u4 : Hid (w9.heap.size < v10.heap.size) := b4_0.out.2
  have e10_ : Ext w v10 := Ext.trans e9_ y10
  rw [← hv10]
  clear hv10
  refine (pcost_is _ 1 (by decide)).mono ?_
  rintro e w11 ⟨sb8, sv8, su8, sm8, sd8, rfl, e8, o8, x11⟩
  have e11_ : Ext w w11 := Ext.trans e10_ x11
  obtain ⟨sp8, sl8, sc8, tp8, tl8, tc8, rfl, rfl⟩ := e8.slice
  go_wp2_with fail
  obtain ⟨v12, hv12⟩ : ∃ W, W = (((w11.alloc (.cells #[.bool sb8, .slice sp8 sl8 sc8, .slice tp8 tl8 tc8] 37)).alloc (.cells #[.int .i64 0, .int .i64 0] 3)).alloc (.cells #[.int .i64 1, .int .i64 2, .int .i64 0] 3)) := ⟨_, rfl⟩
  have y12 : Ext w11 v12 := by rw [hv12]; exact ((((Ext.refl _).alloc _).alloc _).alloc _)
  have b5_0 : Hid (At (w11.heap.size) 0 (.bool sb8) v12) := by rw [hv12]; exact At.ext (At.n0 (by rfl)) (((Ext.refl _).alloc _).alloc _)
  have b5_1 : Hid (At (w11.heap.size) 1 (.slice sp8 sl8 sc8) v12) := by rw [hv12]; exact At.ext (At.n0 (by rfl)) (((Ext.refl _).alloc _).alloc _)
  have b5_2 : Hid (At (w11.heap.size) 2 (.slice tp8 tl8 tc8) v12) := by rw [hv12]; exact At.ext (At.n0 (by rfl)) (((Ext.refl _).alloc _).alloc _)
  have k5 : Hid (Bx 3 (w11.heap.size) v12) := by rw [hv12]; exact Bx.gr (Bx.n0 3 ⟨rfl, by decide⟩ (by decide) noI_s3) (Ext.gr (((Ext.refl _).alloc _).alloc _))
  have u5 : Hid (w11.heap.size < v12.heap.size) := b5_0.out.2
  have r6 : Hid (OwnZ 3 w.heap.size v12 (.slice (some ⟨w11.heap.size + 1, 0, none⟩) 2 2) [0, 0]) := by rw [hv12]; exact OwnZ.ext (litz_n1 [0, 0] _ rfl 2 rfl (by decide) e11_.size) ((Ext.refl _).alloc _)
  have r7 : Hid (OwnZ 3 w.heap.size v12 (.slice (some ⟨w11.heap.size + 1 + 1, 0, none⟩) 3 3) [1, 2, 0]) := by rw [hv12]; exact OwnZ.ext (litz_n2 [1, 2, 0] _ rfl 3 rfl (by decide) e11_.size) (Ext.refl _)
  have e12_ : Ext w v12 := Ext.trans e11_ y12
  rw [← hv12]
  clear hv12
  refine (comes_calls r6.out.ints r7.out.ints (by decide) (by decide)).mono ?_
  rintro e w13 ⟨rfl, x13⟩
  have e13_ : Ext w w13 := Ext.trans e12_ x13
  go_wp2_with fail
  obtain ⟨v14, hv14⟩ : ∃ W, W = ((w13.alloc (.cells #[.int .i64 2, .int .i64 1] 3)).alloc (.cells #[.int .i64 0, .int .i64 1, .int .i64 2] 3)) := ⟨_, rfl⟩
  have y14 : Ext w13 v14 := by rw [hv14]; exact (((Ext.refl _).alloc _).alloc _)
  have r8 : Hid (OwnZ 3 w.heap.size v14 (.slice (some ⟨w13.heap.size, 0, none⟩) 2 2) [2, 1]) := by rw [hv14]; exact OwnZ.ext (litz_n0 [2, 1] _ rfl 2 rfl (by decide) e13_.size) ((Ext.refl _).alloc _)
  have r9 : Hid (OwnZ 3 w.heap.size v14 (.slice (some ⟨w13.heap.size + 1, 0, none⟩) 3 3) [0, 1, 2]) := by rw [hv14]; exact OwnZ.ext (litz_n1 [0, 1, 2] _ rfl 3 rfl (by decide) e13_.size) (Ext.refl _)
  have e14_ : Ext w v14 := Ext.trans e13_ y14
  rw [← hv14]
  clear hv14
  refine (comes_calls r8.out.ints r9.out.ints (by decide) (by decide)).mono ?_
  rintro e w15 ⟨rfl, x15⟩
  have e15_ : Ext w w15 := Ext.trans e14_ x15
  go_wp2_with fail
  obtain ⟨v16, hv16⟩ : ∃ W, W = (w15.alloc (.cells #[.int .i64 0] 3)) := ⟨_, rfl⟩
  have y16 : Ext w15 v16 := by rw [hv16]; exact ((Ext.refl _).alloc _)
  have r10 : Hid (OwnZ 3 w.heap.size v16 (.slice (some ⟨w15.heap.size, 0, none⟩) 1 1) [0]) := by rw [hv16]; exact OwnZ.ext (litz_n0 [0] _ rfl 1 rfl (by decide) e15_.size) (Ext.refl _)
  have e16_ : Ext w v16 := Ext.trans e15_ y16
  rw [← hv16]
  clear hv16
  refine (comes_calls (Ints.nil _) r10.out.ints (by decide) (by decide)).mono ?_
  rintro e w17 ⟨rfl, x17⟩
  have e17_ : Ext w w17 := Ext.trans e16_ x17
  go_wp2_with fail
  obtain ⟨v18, hv18⟩ : ∃ W, W = (w17.alloc (.cells #[.int .i64 1, .int .i64 0] 3)) := ⟨_, rfl⟩
  have y18 : Ext w17 v18 := by rw [hv18]; exact ((Ext.refl _).alloc _)
  have r11 : Hid (OwnZ 3 w.heap.size v18 (.slice (some ⟨w17.heap.size, 0, none⟩) 2 2) [1, 0]) := by rw [hv18]; exact OwnZ.ext (litz_n0 [1, 0] _ rfl 2 rfl (by decide) e17_.size) (Ext.refl _)
  have e18_ : Ext w v18 := Ext.trans e17_ y18
  rw [← hv18]
  clear hv18
  refine (same12_calls (zo1.gr (y3.gr.trans (x4.gr.trans (x5.gr.trans (y6.trans (x7.gr.trans (y8.trans (x9.gr.trans (y10.gr.trans (x11.gr.trans (y12.gr.trans (x13.gr.trans (y14.gr.trans (x15.gr.trans (y16.gr.trans (x17.gr.trans y18.gr)))))))))))))))).ints r11.out.ints true (by decide)).mono ?_
  rintro e w19 ⟨rfl, x19⟩
  have e19_ : Ext w w19 := Ext.trans e18_ x19
  go_wp2_with fail
  obtain ⟨v20, hv20⟩ : ∃ W, W = (w19.alloc (.cells #[.int .i64 1, .int .i64 2, .int .i64 0] 3)) := ⟨_, rfl⟩
  have y20 : Ext w19 v20 := by rw [hv20]; exact ((Ext.refl _).alloc _)
  have r12 : Hid (OwnZ 3 w.heap.size v20 (.slice (some ⟨w19.heap.size, 0, none⟩) 3 3) [1, 2, 0]) := by rw [hv20]; exact OwnZ.ext (litz_n0 [1, 2, 0] _ rfl 3 rfl (by decide) e19_.size) (Ext.refl _)
  have e20_ : Ext w v20 := Ext.trans e19_ y20
  rw [← hv20]
  clear hv20
  refine (same12_calls (zo4.gr (x7.gr.trans (y8.trans (x9.gr.trans (y10.gr.trans (x11.gr.trans (y12.gr.trans (x13.gr.trans (y14.gr.trans (x15.gr.trans (y16.gr.trans (x17.gr.trans (y18.gr.trans (x19.gr.trans y20.gr)))))))))))))).ints r12.out.ints true (by decide)).mono ?_
  rintro e w21 ⟨rfl, x21⟩
  have e21_ : Ext w w21 := Ext.trans e20_ x21
  go_wp2_with fail
  refine (cat_calls (show Cur ⟨#[48, 48, 48]⟩ (cs3) (3) false _ from ⟨((t8.out _ _ _ (by (try dsimp only); have h1 := u2.out; have h2 := y6.size; have h3 := l3.out; omega) (b2_0.out.ext x7)).ext (x9.trans (y10.trans (x11.trans (y12.trans (x13.trans (y14.trans (x15.trans (y16.trans (x17.trans (y18.trans (x19.trans (y20.trans x21))))))))))))), ((t8.out _ _ _ (by (try dsimp only); have h1 := u2.out; have h2 := y6.size; have h3 := l3.out; omega) (b2_1.out.ext x7)).ext (x9.trans (y10.trans (x11.trans (y12.trans (x13.trans (y14.trans (x15.trans (y16.trans (x17.trans (y18.trans (x19.trans (y20.trans x21))))))))))))), ((t8.out _ _ _ (by (try dsimp only); have h1 := u2.out; have h2 := y6.size; have h3 := l3.out; omega) (b2_2.out.ext x7)).ext (x9.trans (y10.trans (x11.trans (y12.trans (x13.trans (y14.trans (x15.trans (y16.trans (x17.trans (y18.trans (x19.trans (y20.trans x21))))))))))))), (k2.out.gr (x7.gr.trans (y8.trans (x9.gr.trans (y10.gr.trans (x11.gr.trans (y12.gr.trans (x13.gr.trans (y14.gr.trans (x15.gr.trans (y16.gr.trans (x17.gr.trans (y18.gr.trans (x19.gr.trans (y20.gr.trans x21.gr)))))))))))))))⟩)).mono ?_
  rintro e w22 ⟨rfl, x22⟩
  have e22_ : Ext w w22 := Ext.trans e21_ x22
  go_wp2_with fail
  refine (cover_calls (show Cur ⟨#[49, 49]⟩ (cs5) (2) true _ from ⟨(b3_0.out.ext (x9.trans (y10.trans (x11.trans (y12.trans (x13.trans (y14.trans (x15.trans (y16.trans (x17.trans (y18.trans (x19.trans (y20.trans (x21.trans x22)))))))))))))), (b3_1.out.ext (x9.trans (y10.trans (x11.trans (y12.trans (x13.trans (y14.trans (x15.trans (y16.trans (x17.trans (y18.trans (x19.trans (y20.trans (x21.trans x22)))))))))))))), (b3_2.out.ext (x9.trans (y10.trans (x11.trans (y12.trans (x13.trans (y14.trans (x15.trans (y16.trans (x17.trans (y18.trans (x19.trans (y20.trans (x21.trans x22)))))))))))))), (k3.out.gr (x9.gr.trans (y10.gr.trans (x11.gr.trans (y12.gr.trans (x13.gr.trans (y14.gr.trans (x15.gr.trans (y16.gr.trans (x17.gr.trans (y18.gr.trans (x19.gr.trans (y20.gr.trans (x21.gr.trans x22.gr))))))))))))))⟩)).mono ?_
  rintro e w23 ⟨rfl, x23⟩
  have e23_ : Ext w w23 := Ext.trans e22_ x23
  have g4_0 := (b4_0.out.ext (x11.trans (y12.trans (x13.trans (y14.trans (x15.trans (y16.trans (x17.trans (y18.trans (x19.trans (y20.trans (x21.trans (x22.trans x23))))))))))))).1
  have g4_1 := (b4_1.out.ext (x11.trans (y12.trans (x13.trans (y14.trans (x15.trans (y16.trans (x17.trans (y18.trans (x19.trans (y20.trans (x21.trans (x22.trans x23))))))))))))).1
  have g4_2 := (b4_2.out.ext (x11.trans (y12.trans (x13.trans (y14.trans (x15.trans (y16.trans (x17.trans (y18.trans (x19.trans (y20.trans (x21.trans (x22.trans x23))))))))))))).1
  have f4 : w9.heap.size < w23.heap.size := (b4_0.out.ext (x11.trans (y12.trans (x13.trans (y14.trans (x15.trans (y16.trans (x17.trans (y18.trans (x19.trans (y20.trans (x21.trans (x22.trans x23))))))))))))).2
  go_wp2_with fail
  refine (rshow_is ((e7.ext (y10.trans (x11.trans (y12.trans (x13.trans (y14.trans (x15.trans (y16.trans (x17.trans (y18.trans (x19.trans (y20.trans (x21.trans (x22.trans x23)))))))))))))).inR (k := (3 * 3 + 1)) (pcostQ_len (by rw [Bs_def]; decide))) (by decide) ⟨#[49, 49, 47, 51]⟩ (showR_of (by decide +kernel) (by decide +kernel))).mono ?_
  rintro e w24 ⟨rfl, x24⟩
  have e24_ : Ext w w24 := Ext.trans e23_ x24
  clear g4_0 g4_1 g4_2 f4
  have g5_0 := (b5_0.out.ext (x13.trans (y14.trans (x15.trans (y16.trans (x17.trans (y18.trans (x19.trans (y20.trans (x21.trans (x22.trans (x23.trans x24)))))))))))).1
  have g5_1 := (b5_1.out.ext (x13.trans (y14.trans (x15.trans (y16.trans (x17.trans (y18.trans (x19.trans (y20.trans (x21.trans (x22.trans (x23.trans x24)))))))))))).1
  have g5_2 := (b5_2.out.ext (x13.trans (y14.trans (x15.trans (y16.trans (x17.trans (y18.trans (x19.trans (y20.trans (x21.trans (x22.trans (x23.trans x24)))))))))))).1
  have f5 : w11.heap.size < w24.heap.size := (b5_0.out.ext (x13.trans (y14.trans (x15.trans (y16.trans (x17.trans (y18.trans (x19.trans (y20.trans (x21.trans (x22.trans (x23.trans x24)))))))))))).2
  go_wp2_with fail
  refine (rshow_is ((e8.ext (y12.trans (x13.trans (y14.trans (x15.trans (y16.trans (x17.trans (y18.trans (x19.trans (y20.trans (x21.trans (x22.trans (x23.trans x24))))))))))))).inR (k := (3 * 1 + 1)) (pcostQ_len (by rw [Bs_def]; decide))) (by decide) ⟨#[48]⟩ (showR_of (by decide +kernel) (by decide +kernel))).mono ?_
  rintro e w25 ⟨rfl, x25⟩
  have e25_ : Ext w w25 := Ext.trans e24_ x25
  clear g5_0 g5_1 g5_2 f5
  go_wp2_with fail
  go_ret
  exact ⟨rfl, e25_⟩

end Go.Proofs.YtkfioaoooodmnaaGreatDoor
