/- An operation append of numbers, for regions that draw their order (RegApp). -/
import Derived.Test.YtefeglkbikcjeaaDoorRegApp
import Derived.Laws.AppendOwnNone
namespace Go.Proofs.YtefeglkbikcjeaaDoor
open Go Go.RowKit

/-- an append leaves the row where it was, or in a new block -/
theorem append_blk {w : World} (t ty e : TypeId) (i : TypeInfo) (ht : Tryd.prog.underlying t = some (.slice e)) (hi : Tryd.prog.info? e = some i) (hz : i.zero = some (.int .i64 0)) (hs1 : i.size = 1) (hby : i.bytes = 8)
    (base : Nat) (v : Value) (n : Nat) (xs : List Value) (hown : w.ownsRow base e 1 v n xs) (a : Addr) (m c : Nat) (news : List Value) (hl : news.length = m * 1) (hnews : ∀ j u, news[j]? = some u → w.cell? (a.add j) = some u) (h1 : ∀ u ∈ news, u.oneCell' = true)
    (h63 : n + m ≤ 100000) {v' : Value} {w' : World} (hr : (Builtin.append_ #[t, t] ty #[v, .slice (some a) m c]).run Tryd.prog w = .ok v' w') (h4 : v' = .slice none 0 0 ↔ v = .slice none 0 0 ∧ m = 0) :
    ∀ b, v'.ownBlock = some b → v.ownBlock = some b ∨ w.heap.size ≤ b := by
  rw [← hs1] at hl hown
  rcases hown.2 with ⟨rfl, rfl⟩ | ⟨g, cap, cur, rfl, hbg, hg, hnc, hcm, hcs, htake⟩
  · by_cases hm : m = 0
    · rw [h4.2 ⟨rfl, hm⟩]
      intro b h; cases h
    · have hr2 := run_append_nil (P := Tryd.prog) w t ty e i _ ht hi hz a m c news hl hnews (by omega) (by omega) (by rw [hby]; omega)
      rw [hr2] at hr
      injection hr with e1 _
      subst e1
      intro b h
      have e : w.heap.size = b := Option.some.inj h
      exact .inr (by omega)
  · by_cases hroom : n + m ≤ cap
    · have hr2 := run_append_room (P := Tryd.prog) w t ty e i ht hi g n cap cur hg a m c news hl hnews h1 hroom (by rw [hl, hcs, ← Nat.add_mul]; exact Nat.mul_le_mul_right _ hroom)
      rw [hr2] at hr
      injection hr with e1 _
      subst e1
      exact fun b h => .inl h
    · have hr2 := run_append_grow (P := Tryd.prog) w t ty e i _ ht hi hz ⟨g, 0, none⟩ n cap xs hown.1 (hown.cells (g := g) rfl) a m c news hl hnews (by omega) (by omega) (growslice_fits (by omega) (by rw [hby]; omega))
      rw [hr2] at hr
      injection hr with e1 _
      subst e1
      intro b h
      have e : w.heap.size = b := Option.some.inj h
      exact .inr (by omega)
theorem wp_append_ints {w : World} {o : Oper} {a : Act} {K : Act → World → Prop} {Q : Exit → Act → World → Prop} (s x : Operand) (t e : TypeId)
    (ht : Tryd.prog.underlying t = some (.slice e)) (hinfo : (Tryd.prog.info? e).map (fun i => (i.zero, i.size, i.bytes)) = some (some (.int .i64 0), 1, 8)) (ho : o.op = .call { callee := .builtin .append, args := #[s, x], argTypes := #[t, t] })
    (base : Nat) (v : Value) (n : Nat) (C : List Value) (hs : a.eval s = v) (hown : w.ownsRow base e 1 v n C) (hbase : base ≤ w.heap.size)
    (u : Value) (A : List Int) (hx : a.eval x = u) (hA : Ints w u A) (hlen : n + A.length ≤ 100000)
    (h : ∀ v' w', w'.ownsRow base e 1 v' (n + A.length) (C ++ A.map zv) → w.grownBy w' v.ownBlock → (∀ b, v'.ownBlock = some b → v.ownBlock = some b ∨ w.heap.size ≤ b) → K (a.put o.dst v') w') : Oper.wp Tryd.prog o a w K Q := by
  obtain ⟨i, hi, hz, hsize, hby⟩ := info_parts hinfo
  obtain ⟨hl, ad, cap, rfl, hm, hc, hn, hp⟩ := hA
  cases ad with
  | none =>
    obtain ⟨h0, rfl⟩ := hn rfl
    obtain rfl : A = [] := List.eq_nil_of_length_eq_zero h0
    have hrun := run_append_owned_none (P := Tryd.prog) (w := w) base t o.type e i 1 ht hi v n C hown
    have hx' : a.eval x = .slice none 0 0 := hx
    unfold Oper.wp
    simp [execOp, ho, resolve, invoke, builtin, hs, hx', hrun, Result.andThen]
    exact h v w (by simpa using hown) (World.grownBy.refl _ _) (fun b hb => .inl hb)
  | some p =>
    have hnews : ∀ j u, (A.map zv)[j]? = some u → w.cell? (p.add j) = some u := by
      intro j y hj
      obtain ⟨hj', rfl⟩ := List.getElem?_eq_some_iff.1 hj
      obtain ⟨q1, q2, q3⟩ := hp p rfl (by
        rcases Nat.eq_zero_or_pos A.length with g | g
        · rw [g, Nat.zero_mul] at hl; omega
        · exact g)
      obtain ⟨b, of, sp⟩ := p
      subst q1
      rw [Addr.add_lit]
      exact q3 j hj'
    obtain ⟨v', w', hr, h2, h3, h4⟩ := run_append_own (P := Tryd.prog) w base t o.type e i (.int .i64 0) 1 8 ht hi hz hsize hby rfl (by decide) v n C hown p A.length cap (A.map zv) hl hnews (zv_oneCell A) (by unfold maxLen; omega) (by omega) hbase
    have h5 := append_blk t o.type e i ht hi hz hsize hby base v n C hown p A.length cap (A.map zv) hl hnews (zv_oneCell A) hlen hr h4
    unfold Oper.wp execOp
    simp only [ho, resolve, invoke, builtin, Sem.run_bind, Sem.run_pure, Result.andThen_ok, List.map_toArray, List.map_cons, List.map_nil, hs, hx, hr]
    exact h v' w' h2 h3 h5
end Go.Proofs.YtefeglkbikcjeaaDoor
