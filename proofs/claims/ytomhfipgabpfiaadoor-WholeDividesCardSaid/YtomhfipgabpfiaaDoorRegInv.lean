/- A law for regions that draw their order and hold calls beside allocations: what each operation leaves is said once, whatever order was drawn. -/
import Derived.Test.YtomhfipgabpfiaaDoorBase
import Derived.OrdersHeld
import Derived.Deep.RegionHeld3
namespace Go.Proofs.YtomhfipgabpfiaaDoor
open Go Go.RowKit

/-- what a slot holds -/
def sl (a : Act) (k : Nat) : Value := a.tmps.getD k undef
/-- what an operation's slot holds -/
def at_ (ops : Array Oper) (a : Act) (i : Nat) : Value := match (ops[i]?).bind (·.dst) with | some d => sl a d | none => undef

theorem sl_same {a : Act} {k : Nat} {v : Value} (h : k < a.tmps.size) : sl (a.put (some k) v) k = v := by
  simp [sl, Act.put, Array.getD, h]
theorem sl_other {a : Act} {j k : Nat} {v : Value} (h : j ≠ k) : sl (a.put (some j) v) k = sl a k := by
  simp only [sl, Act.put, Array.getD_eq_getD_getElem?, Array.getElem?_setIfInBounds_ne h]
theorem put_none {a : Act} {v : Value} : a.put none v = a := rfl

/-- the state a is as a0, but for the slots D -/
structure Agree (D : List Nat) (a0 a : Act) : Prop where
  size : a.tmps.size = a0.tmps.size
  defers : a.defers = a0.defers
  slots : ∀ k, k ∉ D → sl a k = sl a0 k
theorem Agree.refl (D : List Nat) (a : Act) : Agree D a a := ⟨rfl, rfl, fun _ _ => rfl⟩
theorem Agree.put {D : List Nat} {a0 a : Act} (h : Agree D a0 a) {d : Option Nat} {v : Value} (hd : ∀ k, d = some k → k ∈ D) : Agree D a0 (a.put d v) := by
  cases d with
  | none => exact h
  | some k =>
    refine ⟨by simp [Act.put, h.size], h.defers, fun j hj => ?_⟩
    rw [sl_other (fun e => hj (by rw [← e]; exact hd k rfl))]
    exact h.slots j hj

/-- the state, written out -/
def lay (D : List Nat) (a0 : Act) (X : Nat → Value) : Act := { a0 with tmps := D.foldl (fun t d => t.setIfInBounds d (X d)) a0.tmps }
theorem foldl_size (X : Nat → Value) : ∀ (D : List Nat) (t : Array Value), (D.foldl (fun t d => t.setIfInBounds d (X d)) t).size = t.size
  | [], _ => rfl
  | d :: D, t => by rw [List.foldl_cons, foldl_size X D]; simp
theorem foldl_get (X : Nat → Value) : ∀ (D : List Nat) (t : Array Value) (k : Nat), k < t.size →
    (D.foldl (fun t d => t.setIfInBounds d (X d)) t).getD k undef = if k ∈ D then X k else t.getD k undef
  | [], t, k, _ => by simp
  | d :: D, t, k, hk => by
    rw [List.foldl_cons, foldl_get X D _ k (by simpa using hk)]
    by_cases h : k ∈ D
    · simp [h]
    · by_cases e : k = d
      · subst e; simp [h, Array.getD, hk]
      · simp only [h, if_false, List.mem_cons, e, or_self]
        simp only [Array.getD_eq_getD_getElem?, Array.getElem?_setIfInBounds_ne (Ne.symm e)]
theorem tmps_lay {t u : Array Value} {D : List Nat} {X : Nat → Value} (hs : t.size = u.size) (hX : ∀ k, t.getD k undef = X k) (h : ∀ k, k ∉ D → t.getD k undef = u.getD k undef) :
    t = D.foldl (fun t d => t.setIfInBounds d (X d)) u := by
  have hz := foldl_size X D u
  have hg := foldl_get X D u
  obtain ⟨r, hr⟩ : ∃ r, r = D.foldl (fun t d => t.setIfInBounds d (X d)) u := ⟨_, rfl⟩
  rw [← hr] at hz hg ⊢
  refine Array.ext (by rw [hz, hs]) fun k h1 h2 => ?_
  have e2 := hg k (by rw [← hs]; exact h1)
  have g1 : t.getD k undef = t[k] := by simp [Array.getD, h1]
  have g2 : r.getD k undef = r[k] := by simp [Array.getD, h2]
  rw [← g1, ← g2, e2]
  by_cases hk : k ∈ D
  · rw [if_pos hk, hX]
  · rw [if_neg hk]
    exact h k hk
theorem Agree.lay {D : List Nat} {a0 a : Act} (h : Agree D a0 a) : a = lay D a0 (sl a) := by
  obtain ⟨t, ds⟩ := a
  have e := tmps_lay (t := t) (u := a0.tmps) (D := D) (X := sl ⟨t, ds⟩) h.size (fun _ => rfl) h.slots
  have hd : ds = a0.defers := h.defers
  unfold Proofs.YtomhfipgabpfiaaDoor.lay
  rw [← e, ← hd]

section
variable {P : Program} {ops : Array Oper} {Q : Exit → Act → World → Prop}

/-- the edges that bind -/
def binds (e : Edge) : Bool := Region.binds .any e
/-- is operation j listed for sure, where t may come up, and none of the pure ones may? -/
def cov (ops : Array Oper) (pure : Nat → Bool) (t : Nat) : Nat → Nat → Bool
  | 0, _ => false
  | f + 1, j => ((ops[t]?).map (·.after.any fun e => binds e && e.on == j)).getD false || (pure j && ((ops[j]?).map (·.after.all fun e => !binds e || (decide (e.on < ops.size) && cov ops pure t f e.on))).getD false)
/-- the tail comes behind all else -/
def tailOk (ops : Array Oper) (pure tail : Nat → Bool) : Bool :=
  (List.range ops.size).all fun t => !tail t || (List.range ops.size).all fun j => tail j || cov ops pure t ops.size j
/-- whoever is neither ahead of i nor behind it stands apart from it -/
def freeB (ops : Array Oper) (i : Nat) : Bool :=
  match ops[i]? with
  | none => false
  | some oi => (List.range ops.size).all fun j => j == i || oi.after.any (fun e => binds e && e.on == j) || match ops[j]? with
      | some oj => oj.after.any (fun e => binds e && e.on == i) || oi.apart ops oj
      | none => true
def pureOk (ops : Array Oper) (pure tail : Nat → Bool) : Bool :=
  Region.noSelect ops && ((List.range ops.size).all fun i => ((ops[i]?).map (·.after.all fun e => !binds e || decide (e.on < i))).getD false) && (List.range ops.size).any tail && (List.range ops.size).all fun i => !pure i || (!tail i && freeB ops i)
/-- the slots of D are all that is written ahead of the tail -/
def dIn (ops : Array Oper) (tail : Nat → Bool) (D : List Nat) : Bool :=
  (List.range ops.size).all fun i => tail i || match (ops[i]?).bind (·.dst) with
    | none => true
    | some d => D.contains d
/-- each slot is written by one operation alone -/
def dstOk (ops : Array Oper) (tail : Nat → Bool) (n : Nat) : Bool :=
  (List.range ops.size).all fun i => tail i || match (ops[i]?).bind (·.dst) with
    | none => false
    | some d => decide (d < n) && (List.range ops.size).all fun j => j == i || tail j || !((ops[j]?).bind (·.dst) == some d)

/-- the block that a pointer points into -/
def blkOf : Value → Nat
  | .pointer (some p) => p.block
  | _ => 0

/-- What is known in the midst of the region. -/
structure Mid (ops : Array Oper) (D : List Nat) (tail fr : Nat → Bool) (Post : Nat → Value → World → Prop) (S : World → Prop) (a0 : Act) (L : Array Bool) (a : Act) (w : World) : Prop where
  size : L.size = ops.size
  tl : ∀ t, tail t = true → L.getD t false = false
  ag : Agree D a0 a
  post : ∀ i, L.getD i false = true → Post i (at_ ops a i) w
  s : S w
  fresh : ∀ i j, i ≠ j → fr i = true → fr j = true → L.getD i false = true → L.getD j false = true → blkOf (at_ ops a i) ≠ blkOf (at_ ops a j)

def unl (n : Nat) (L : Array Bool) : Nat := (List.range n).countP fun i => !L.getD i true
theorem countP_step {p q : Nat → Bool} {i : Nat} (hi : p i = true) (hq : q i = false) (h : ∀ j, q j = true → p j = true) : ∀ l : List Nat, i ∈ l → l.countP q + 1 ≤ l.countP p := by
  intro l
  induction l with
  | nil => intro h; cases h
  | cons a l ih =>
    intro hm
    have hle : l.countP q ≤ l.countP p := List.countP_mono_left fun j _ => h j
    rw [List.countP_cons, List.countP_cons]
    by_cases e : a = i
    · subst e; rw [hi, hq]; simp; omega
    · have hm' : i ∈ l := by rcases List.mem_cons.1 hm with e' | e'; exact absurd e'.symm e; exact e'
      have := ih hm'
      have h1 := h a
      cases hqa : q a
      · simp; omega
      · rw [h1 hqa]; simp; omega
theorem unl_step {n i : Nat} {L : Array Bool} (hn : i < n) (hL : i < L.size) (h : L.getD i true = false) : unl n (L.setIfInBounds i true) + 1 ≤ unl n L := by
  refine countP_step (i := i) (by rw [h]; rfl) (by simp [Array.getD, hL]) (fun j hj => ?_) _ (List.mem_range.2 hn)
  by_cases e : i = j
  · subst e; simp [Array.getD, hL] at hj
  · rwa [getD_set_ne true e] at hj

theorem ready_spec {L : Array Bool} {i : Nat} (h : i ∈ Region.ready .any ops L) : i < ops.size ∧ L.getD i true = false ∧ ∃ o, ops[i]? = some o ∧ ∀ e ∈ o.after, binds e = true → L.getD e.on false = true := by
  obtain ⟨h1, o, ho, h2⟩ := mem_ready.1 h
  exact ⟨(Array.getElem?_eq_some_iff.1 ho).1, h1, o, ho, h2⟩

theorem freeB_spec {L : Array Bool} {i : Nat} {oi : Oper} (hi : ops[i]? = some oi) (h : freeB ops i = true) (hr : ∀ e ∈ oi.after, binds e = true → L.getD e.on false = true) (j : Nat) (oj : Oper)
    (hj : ops[j]? = some oj) (hne : j ≠ i) (hun : L.getD j true = false) (hno : ∀ e ∈ oj.after, Region.binds .any e = true → e.on ≠ i) : oi.apart ops oj = true := by
  simp only [freeB, hi, List.all_eq_true, List.mem_range] at h
  have h1 := h j (Array.getElem?_eq_some_iff.1 hj).1
  simp only [hj, Bool.or_eq_true, beq_iff_eq, hne, false_or] at h1
  rcases h1 with h1 | h1 | h1
  · obtain ⟨e, he, hb⟩ := Array.any_eq_true'.1 h1
    simp only [Bool.and_eq_true, beq_iff_eq] at hb
    have h2 := hr e he hb.1
    rw [hb.2] at h2
    rcases Nat.lt_or_ge j L.size with g | g
    · simp [Array.getD, g] at h2 hun; rw [hun] at h2; cases h2
    · simp [Array.getD, Nat.not_lt.2 g] at h2
  · obtain ⟨e, he, hb⟩ := Array.any_eq_true'.1 h1
    simp only [Bool.and_eq_true, beq_iff_eq] at hb
    exact absurd hb.2 (hno e he hb.1)
  · exact h1

theorem cov_spec {pure : Nat → Bool} {L : Array Bool} (hL : L.size = ops.size) (hno : ∀ i ∈ Region.ready .any ops L, pure i = false) {t : Nat} (ht : t ∈ Region.ready .any ops L) :
    ∀ (f j : Nat), j < ops.size → cov ops pure t f j = true → L.getD j false = true := by
  intro f
  induction f with
  | zero => intro j _ h; cases h
  | succ f ih =>
    intro j hj h
    obtain ⟨-, -, o, ho, hp⟩ := ready_spec ht
    simp only [cov, Bool.or_eq_true] at h
    rcases h with h | h
    · rw [ho] at h
      simp only [Option.map_some, Option.getD_some] at h
      obtain ⟨e, he, hb⟩ := Array.any_eq_true'.1 h
      simp only [Bool.and_eq_true, beq_iff_eq] at hb
      rw [← hb.2]
      exact hp e he hb.1
    · simp only [Bool.and_eq_true] at h
      obtain ⟨hpj, h⟩ := h
      cases hg : L.getD j false with
      | true => rfl
      | false =>
        have hj' : j < L.size := by rw [hL]; exact hj
        obtain ⟨oj, hoj⟩ : ∃ oj, ops[j]? = some oj := ⟨_, Array.getElem?_eq_getElem hj⟩
        rw [hoj] at h
        simp only [Option.map_some, Option.getD_some] at h
        have hall := Array.all_eq_true_iff_forall_mem.1 h
        have hr : j ∈ Region.ready .any ops L := by
          refine mem_ready.2 ⟨by simp [Array.getD, hj'] at hg ⊢; exact hg, oj, hoj, fun e he hb => ?_⟩
          have h1 := hall e he
          have hb' : binds e = true := hb
          rw [hb'] at h1
          simp only [Bool.not_true, Bool.false_or, Bool.and_eq_true, decide_eq_true_eq] at h1
          exact ih e.on h1.1 h1.2
        rw [hno j hr] at hpj
        cases hpj

theorem dst_mem {D : List Nat} {tail : Nat → Bool} (hD : dIn ops tail D = true) {i : Nat} {o : Oper} (ho : ops[i]? = some o) (ht : tail i = false) : ∀ k, o.dst = some k → k ∈ D := fun k hk => by
  have := List.all_eq_true.1 hD i (List.mem_range.2 (Array.getElem?_eq_some_iff.1 ho).1)
  rw [ht, Bool.false_or, ho, Option.bind_some, hk] at this
  simpa using this

/-- the state that the tail begins in -/
def lastL (n : Nat) (tail : Nat → Bool) : Array Bool := ((List.range n).map fun i => !tail i).toArray

theorem Mid.step {D : List Nat} {tail fr : Nat → Bool} {Post : Nat → Value → World → Prop} {S : World → Prop} {a0 a : Act} {L : Array Bool} {w w' : World} {i : Nat} {o : Oper} {v : Value}
    (hDi : dIn ops tail D = true) (hd : dstOk ops tail a0.tmps.size = true) (hmono : ∀ i v w w', Post i v w → Ext w w' → Post i v w') (hS : ∀ w w', S w → Ext w w' → S w') (hfr : ∀ i v w, fr i = true → Post i v w → blkOf v < w.heap.size)
    (h : Mid ops D tail fr Post S a0 L a w) (ho : ops[i]? = some o) (hi : L.getD i true = false) (ht : tail i = false) (hp : Post i v w') (hx : Ext w w') (hf : fr i = true → blkOf v = w.heap.size) :
    Mid ops D tail fr Post S a0 (L.setIfInBounds i true) (a.put o.dst v) w' := by
  have hin : i < ops.size := (Array.getElem?_eq_some_iff.1 ho).1
  have hiL : i < L.size := by rw [h.size]; exact hin
  have hdi := List.all_eq_true.1 hd i (List.mem_range.2 hin)
  rw [ht, Bool.false_or, ho] at hdi
  obtain ⟨d, hod⟩ : ∃ d, o.dst = some d := by
    cases e : o.dst with
    | none => simp [e] at hdi
    | some d => exact ⟨d, rfl⟩
  simp only [Option.bind_some, hod, Bool.and_eq_true, decide_eq_true_eq] at hdi
  obtain ⟨hdn, hdu⟩ := hdi
  have hself : at_ ops (a.put o.dst v) i = v := by
    unfold at_
    rw [ho, Option.bind_some, hod]
    exact sl_same (by rw [h.ag.size]; exact hdn)
  have hoth : ∀ j, j ≠ i → L.getD j false = true → at_ ops (a.put o.dst v) j = at_ ops a j := by
    intro j hj hL
    have hjn : j < ops.size := by
      rcases Nat.lt_or_ge j L.size with g | g
      · rw [← h.size]; exact g
      · simp [Array.getD, Nat.not_lt.2 g] at hL
    have h1 := List.all_eq_true.1 hdu j (List.mem_range.2 hjn)
    have htj : tail j = false := by
      cases e : tail j with
      | false => rfl
      | true => rw [h.tl j e] at hL; cases hL
    simp only [beq_iff_eq, hj, htj, Bool.or_false, Bool.or_eq_true, false_or, Bool.not_eq_true', beq_eq_false_iff_ne, ne_eq] at h1
    unfold at_
    split
    · rename_i k hk
      rw [hod]
      refine sl_other fun e => ?_
      subst e
      simp [hk] at h1
    · rfl
  have hold : ∀ j, j ≠ i → (L.setIfInBounds i true).getD j false = true → L.getD j false = true := fun j hj hL => by rwa [getD_set_ne false (Ne.symm hj)] at hL
  refine ⟨by rw [Array.size_setIfInBounds]; exact h.size, fun t htt => ?_, h.ag.put (dst_mem hDi ho ht), fun j hL => ?_, hS _ _ h.s hx, fun j k hjk fj fk hLj hLk => ?_⟩
  · rw [getD_set_ne false (fun e => by rw [e, htt] at ht; cases ht)]; exact h.tl t htt
  · by_cases e : j = i
    · subst e; rw [hself]; exact hp
    · rw [hoth j e (hold j e hL)]
      exact hmono _ _ _ _ (h.post j (hold j e hL)) hx
  · by_cases e1 : j = i
    · subst e1
      have e2 : k ≠ j := Ne.symm hjk
      rw [hself, hoth k e2 (hold k e2 hLk), hf fj]
      exact Nat.ne_of_gt (hfr k _ w fk (h.post k (hold k e2 hLk)))
    · by_cases e2 : k = i
      · subst e2
        rw [hself, hoth j e1 (hold j e1 hLj), hf fk]
        exact Nat.ne_of_lt (hfr j _ w fj (h.post j (hold j e1 hLj)))
      · rw [hoth j e1 (hold j e1 hLj), hoth k e2 (hold k e2 hLk)]
        exact h.fresh j k hjk fj fk (hold j e1 hLj) (hold k e2 hLk)

/-- THE LAW: what each operation leaves is said once; the tail (the stores) goes on from there. -/
theorem wp_region_inv {id : Nat} {a0 : Act} {w0 : World} (D : List Nat) (pure tail fr : Nat → Bool) (Post : Nat → Value → World → Prop) (S : World → Prop)
    (hm : P.follows .mixedOrders = true) (hpo : pureOk ops pure tail = true) (hto : tailOk ops pure tail = true) (hDi : dIn ops tail D = true) (hd : dstOk ops tail a0.tmps.size = true)
    (hQ : ∀ c a (d : Option Tmp) v w, Q (.panic c) (a.put d v) w → Q (.panic c) a w)
    (hmono : ∀ i v w w', Post i v w → Ext w w' → Post i v w') (hS : ∀ w w', S w → Ext w w' → S w') (hfr : ∀ i v w, fr i = true → Post i v w → blkOf v < w.heap.size) (h0 : S w0.drew)
    (hpure : ∀ i o a w, pure i = true → ops[i]? = some o → Agree D a0 a → S w → Ext w0 w → (∀ e ∈ o.after, binds e = true → Post e.on (at_ ops a e.on) w) → ∃ v, YieldsIf P ops S o v a ∧ Post i v w ∧ fr i = false)
    (himp : ∀ i o a w, pure i = false → tail i = false → ops[i]? = some o → Agree D a0 a → S w → Ext w0 w → (∀ e ∈ o.after, binds e = true → Post e.on (at_ ops a e.on) w) →
      wpOp P ops Q i (fun a' w' => ∃ v, a' = a.put o.dst v ∧ Post i v w' ∧ Ext w w' ∧ (fr i = true → blkOf v = w.heap.size)) a w)
    (htail : ∀ a w fuel, unl ops.size (lastL ops.size tail) ≤ fuel → Mid ops D tail fr Post S a0 (lastL ops.size tail) a w → Ext w0 w → wpAnyH P .any ops Q S fuel (lastL ops.size tail) a w) :
    (Code.region id ops true).wp P Q a0 w0 := by
  refine wp_region_held_drew hm h0 fun _ => ?_
  have key : ∀ (fuel : Nat) (L : Array Bool) (a : Act) (w : World), unl ops.size L ≤ fuel → Mid ops D tail fr Post S a0 L a w → Ext w0 w → wpAnyH P .any ops Q S fuel L a w := by
    simp only [pureOk, Bool.and_eq_true] at hpo
    obtain ⟨⟨⟨hsel, hback⟩, hne⟩, hpo⟩ := hpo
    intro fuel
    induction fuel with
    | zero =>
      intro L a w hf hM hx
      -- all is listed: but the tail is not
      exfalso
      obtain ⟨t, htr, htt⟩ := List.any_eq_true.1 hne
      have htn := List.mem_range.1 htr
      have := unl_step htn (by rw [hM.size]; exact htn) (L := L) (by
        have := hM.tl t htt
        have h' : t < L.size := by rw [hM.size]; exact htn
        simp [Array.getD, h'] at this ⊢; exact this)
      omega
    | succ fuel ih =>
      intro L a w hf hM hx
      by_cases hp : ∃ i ∈ Region.ready .any ops L, pure i = true
      · obtain ⟨i, hir, hpi⟩ := hp
        obtain ⟨hin, hiL, o, ho, hpre⟩ := ready_spec hir
        have hpi2 := List.all_eq_true.1 hpo i (List.mem_range.2 hin)
        simp only [hpi, Bool.not_true, Bool.false_or, Bool.and_eq_true, Bool.not_eq_true'] at hpi2
        obtain ⟨v, hy, hpv, hfi⟩ := hpure i o a w hpi ho hM.ag hM.s hx (fun e he hb => hM.post e.on (hpre e he hb))
        have hM' := hM.step hDi hd hmono hS hfr ho hiL hpi2.1 hpv (Ext.refl _) (fun e => by rw [hfi] at e; cases e)
        refine wpAnyH_first ho (Region.noSelect_spec hsel) (fun c a w => hQ c a _ v w) fuel L a w (freeB_spec ho hpi2.2 hpre) hir hy hM.s (ih _ _ _ ?_ hM' hx)
        have := unl_step hin (by rw [hM.size]; exact hin) hiL
        omega
      · have hno : ∀ i ∈ Region.ready .any ops L, pure i = false := fun i hi => by
          cases e : pure i with
          | false => rfl
          | true => exact absurd ⟨i, hi, e⟩ hp
        by_cases ht : ∃ t ∈ Region.ready .any ops L, tail t = true
        · obtain ⟨t, htr, htt⟩ := ht
          have hall : ∀ j, j < ops.size → tail j = false → L.getD j false = true := fun j hj hjt => by
            have h1 := List.all_eq_true.1 hto t (List.mem_range.2 (ready_spec htr).1)
            rw [htt, Bool.not_true, Bool.false_or] at h1
            have h2 := List.all_eq_true.1 h1 j (List.mem_range.2 hj)
            rw [hjt, Bool.false_or] at h2
            exact cov_spec hM.size hno htr _ j hj h2
          have hL : L = lastL ops.size tail := by
            refine Array.ext (by simp [lastL, hM.size]) fun k h1 h2 => ?_
            have hk : k < ops.size := by rw [← hM.size]; exact h1
            have e1 : L.getD k false = L[k] := by simp [Array.getD, h1]
            have e2 : (lastL ops.size tail)[k] = !tail k := by simp [lastL]
            rw [e2, ← e1]
            cases e : tail k with
            | true => rw [hM.tl k e]; rfl
            | false => rw [hall k hk e]; rfl
          subst hL
          exact htail a w _ hf hM hx
        · have hnt : ∀ i ∈ Region.ready .any ops L, tail i = false := fun i hi => by
            cases e : tail i with
            | false => rfl
            | true => exact absurd ⟨i, hi, e⟩ ht
          refine ⟨fun h0 => ?_, fun i hir => ?_⟩
          · -- the first that is not listed may come up
            exfalso
            have hl : ∀ j, j < ops.size → L.getD j false = true := by
              intro j
              induction j using Nat.strongRecOn with
              | _ j ihj =>
                intro hj
                cases hg : L.getD j false with
                | true => rfl
                | false =>
                  have hj' : j < L.size := by rw [hM.size]; exact hj
                  obtain ⟨oj, hoj⟩ : ∃ oj, ops[j]? = some oj := ⟨_, Array.getElem?_eq_getElem hj⟩
                  have hb := List.all_eq_true.1 hback j (List.mem_range.2 hj)
                  rw [hoj] at hb
                  simp only [Option.map_some, Option.getD_some] at hb
                  have hall := Array.all_eq_true_iff_forall_mem.1 hb
                  have : j ∈ Region.ready .any ops L := by
                    refine mem_ready.2 ⟨by simp [Array.getD, hj'] at hg ⊢; exact hg, oj, hoj, fun e he hbe => ?_⟩
                    have h1 := hall e he
                    have hb' : binds e = true := hbe
                    rw [hb'] at h1
                    simp only [Bool.not_true, Bool.false_or, decide_eq_true_eq] at h1
                    exact ihj e.on h1 (by omega)
                  rw [h0] at this
                  cases this
            obtain ⟨t, htr, htt⟩ := List.any_eq_true.1 hne
            have := hl t (List.mem_range.1 htr)
            rw [hM.tl t htt] at this
            cases this
          · obtain ⟨hin, hiL, o, ho, hpre⟩ := ready_spec hir
            refine wpOp_mono ?_ (himp i o a w (hno i hir) (hnt i hir) ho hM.ag hM.s hx (fun e he hb => hM.post e.on (hpre e he hb)))
            rintro a' w' ⟨v, rfl, hpv, hxx, hfi⟩
            have hM' := hM.step hDi hd hmono hS hfr ho hiL (hnt i hir) hpv hxx hfi
            refine ⟨hM'.s, ih _ _ _ ?_ hM' (hx.trans hxx)⟩
            have := unl_step hin (by rw [hM.size]; exact hin) hiL
            omega
  refine key _ _ _ _ ?_ ⟨by simp, fun t ht => by simp [Array.getD], Agree.refl _ _, fun i h => by simp [Array.getD] at h, h0, fun i j _ _ _ h => by simp [Array.getD] at h⟩ (Ext.refl _).drew
  unfold unl
  exact Nat.le_trans (List.countP_le_length) (by simp)
end
end Go.Proofs.YtomhfipgabpfiaaDoor
