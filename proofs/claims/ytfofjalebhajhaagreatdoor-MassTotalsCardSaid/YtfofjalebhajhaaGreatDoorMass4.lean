/- clear at a slice of shares. -/
import Derived.Test.YtfofjalebhajhaaGreatDoorMass3
import Derived.Lib.SliceRun
namespace Go.Proofs.YtfofjalebhajhaaGreatDoor
open Go Go.RowKit
theorem info_share:(Tryz.prog.info? 47).map (fun i=>(i.zero,i.size,i.bytes))=some (some (.agg #[.int .u8 0,.int .i64 0,.slice none 0 0,.bool false,.slice none 0 0,.slice none 0 0]),6,96):=by kernel_rfl
theorem zero_share (w:World):(zeroValue 47).run Tryz.prog w = .ok (.agg #[.int .u8 0,.int .i64 0,.slice none 0 0,.bool false,.slice none 0 0,.slice none 0 0]) w:=by
 obtain⟨i,hi,hz,-,-⟩:=info_parts info_share;simp [zeroValue,typeInfo,hi,hz]
def zeros:List Value:=[.int .u8 0,.int .i64 0,.slice none 0 0,.bool false,.slice none 0 0,.slice none 0 0]
theorem zeroCells_one (n:Nat):∀ v∈(Builtin.zeroCells zeros.toArray n).toList,v.oneCell'=true:=by
 intro v hv;simp only[Builtin.zeroCells,Array.toList_map,List.mem_map]at hv;obtain⟨i,-,rfl⟩:=hv;have h6:i % zeros.toArray.size<6:=Nat.mod_lt _ (by decide)
 generalize i % zeros.toArray.size=r at *
 match r,h6 with
 | 0,_=>rfl
 | 1,_=>rfl
 | 2,_=>rfl
 | 3,_=>rfl
 | 4,_=>rfl
 | 5,_=>rfl
theorem setCells_ind {M:World→Prop}{g o:Nat}(hs:∀ w j u,o≤j→M w→M (w.setCell ⟨g,j,none⟩ u)):∀ (vs:List Value) (k:Nat) (w:World),o≤k→M w→M (w.setCells g k vs)
 | [],_,_,_,h=>h
 | v :: r,k,w,hk,h=>setCells_ind hs r (k+1) _ (by omega) (hs w k v hk h)
theorem clear_shares {w:World}{g cap:Nat}{R:List Sh}(h:RowS g cap R w){k:Nat}(hk:k<R.length){t ty:TypeId}(ht:Tryz.prog.underlying t=some (.slice 47)) (c:Nat) :
  ∃ w',(Builtin.clear_ #[t] ty #[.slice (some ⟨g,k*6,none⟩) (R.length - k) c]).run Tryz.prog w = .ok (.tuple #[]) w'∧(∀ w0,Below g w0 w→Below g w0 w') ∧ ∀ i e,i<k→R[i]? = some e→ElO w' e ∧ ∀ j u,e.1[j]? = some u→At g (i*6+j) u w':=by
 obtain⟨L,hL0⟩:∃ L,(Builtin.zeroCells zeros.toArray (R.length - k)).toList=L:=⟨_,rfl⟩
 have hL:L.length=(R.length - k)*6:=by
  rw[←hL0];simp [Builtin.zeroCells,zeros]
 have h1:∀ v∈L,v.oneCell'=true:=by rw[←hL0];exact zeroCells_one _
 have hfl:=flatS_len h.lens;refine⟨w.setCells g (k*6) L,?_,?_,?_⟩
 ·have hst:=run_storeCells_cells (P:=Tryz.prog) g (k*6) L 0 w (fun j hj=>?_) (fun j hj=>h.free _) h1
  ·simp only[Nat.add_zero]at hst
   obtain⟨m,hm⟩:∃ m,R.length - k=m+1:=⟨R.length - k - 1,by omega⟩
   rw[hm]at hL0 ⊢;have hz:(Value.agg #[.int .u8 0,.int .i64 0,.slice none 0 0,.bool false,.slice none 0 0,.slice none 0 0]).cells=zeros.toArray:=rfl;simp [Builtin.clear_,run_underlying ht,zero_share,hz,hL0,hst]
  ·rw[World.ownsRow.cellAt h.row (k*6+0+j) (by omega),List.getElem?_eq_getElem (by omega)];rfl
 ·intro w0 hb;exact setCells_ind (M:=fun w'=>Below g w0 w') (o:=k*6) (fun w j u _ hb=>hb.setCell (Nat.le_refl g) u) L _ _ (Nat.le_refl _) hb
 ·intro i e hi he;have h2:=setCells_ind (M:=fun w'=>TyS g w'∧ElO w' e) (g:=g) (o:=k*6) (fun w j u _ hb=>⟨hb.1.setCell j u,hb.2.setS hb.1 j u⟩) L _ w (Nat.le_refl _) ⟨h.ty,h.its e (List.mem_of_getElem? he)⟩;refine⟨h2.2,fun j u hj=>?_⟩
  have hj6:j<6:=by have:=(List.getElem?_eq_some_iff.1 hj).1;rw[(h.its e (List.mem_of_getElem? he)).len]at this;exact this
  have h3:=h.cell he hj;refine⟨?_,?_⟩
  ·rw[World.cell?_setCells_out g L (k*6) w ⟨g,i*6+j,none⟩ (fun _ _ => .inl (by show i*6+j<k*6;omega))];exact h3.1
  ·obtain⟨cur,hc⟩:=h2.1;exact (Array.getElem?_eq_some_iff.1 hc).1
end Go.Proofs.YtfofjalebhajhaaGreatDoor
