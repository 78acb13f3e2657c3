/- Rows of shares as they are made: append; slices of shares as they are read. -/
import Derived.Test.YtfofjalebhajhaaGreatDoorMass5
import Derived.Test.YtfofjalebhajhaaGreatDoorMassPlain
import Derived.Test.YtfofjalebhajhaaGreatDoorRegTail
import Derived.Test.YtfofjalebhajhaaGreatDoorShare9
namespace Go.Proofs.YtfofjalebhajhaaGreatDoor
open Go Go.RowKit
structure AllS (B:Nat) (v:Value) (R:List Sh) (w:World):Prop where
 row:w.ownsRow B 47 6 v R.length (flatS R)
 its:∀ e∈R,ElO w e
theorem AllS.nil (B:Nat) (w:World):AllS B (.slice none 0 0) [] w:=⟨World.ownsRow_nil ..,fun e h=>by cases h⟩
theorem AllS.ext {B:Nat}{v:Value}{R:List Sh}{w w':World}(h:AllS B v R w) (x:Ext w w'):AllS B v R w':=⟨ownsRow_ext' h.row x,fun e he=>(h.its e he).ext x⟩
theorem AllS.rowS {B:Nat}{v:Value}{R:List Sh}{w:World}(h:AllS B v R w):(R = []∧v = .slice none 0 0) ∨ ∃ g cap,v = .slice (some ⟨g,0,none⟩) R.length cap∧B≤g∧RowS g cap R w:=by
 rcases h.row.2 with⟨e,h0⟩ | ⟨g,cap,cur,e,hg,rest⟩
 ·exact .inl ⟨List.eq_nil_of_length_eq_zero h0,e⟩
 ·refine .inr ⟨g,cap,e,hg,⟨h.row.1,.inr ⟨g,cap,cur,rfl,Nat.le_refl _,rest⟩⟩,h.its⟩
theorem RowS.all {g cap:Nat}{R:List Sh}{w:World}(h:RowS g cap R w){B:Nat}(hB:B≤g):AllS B (.slice (some ⟨g,0,none⟩) R.length cap) R w:=⟨ownsRow_mono h.row hB,h.its⟩
theorem ownsRow_growS {B:Nat}{e:TypeId}{s:Nat}{w w':World}{v:Value}{n:Nat}{xs:List Value}{u:Option Nat}(h:w.ownsRow B e s v n xs) (he:e ≠ 47) (hg:w.grownBy w' u) (hu:∀ g,u=some g→TyS g w):w'.ownsRow B e s v n xs:=by
 obtain⟨h1,h2⟩:=h;refine⟨h1,?_⟩
 rcases h2 with h2 | ⟨g',cap,cur,ev,hb,hh,rest⟩
 ·exact .inl h2
 ·refine .inr ⟨g',cap,cur,ev,hb,?_,rest⟩;rw[hg.block g' (Array.getElem?_eq_some_iff.1 hh).1 (fun e2=>?_)]
  ·exact hh
  ·obtain⟨c0,hc⟩:=hu g' e2.symm;rw[hh]at hc
   injection hc with hc
   injection hc with _ hc
   exact he hc
theorem OwV.growS {B:Nat}{w w':World}{v:Value}{t:VT}{u:Option Nat}(h:OwV B w v t) (hg:w.grownBy w' u) (hu:∀ g,u=some g→TyS g w):OwV B w' v t:=by
 induction h with
 | mk k n l p c xs hk hn hs hl ih=>exact .mk k n l p c xs hk hn (ownsRow_growS hs (by decide) hg hu) fun i y hy=>ih i y hy
theorem OwnL.growS {B:Nat}{w w':World}{v:Value}{A:List Nat}{u:Option Nat}(h:OwnL B w v A) (hg:w.grownBy w' u) (hu:∀ g,u=some g→TyS g w):OwnL B w' v A:=by
 refine⟨?_,h.2⟩
 rcases h.1 with h1 | ⟨a,e1,e2,e3,h4⟩
 ·exact .inl (ownsRow_growS h1 (by decide) hg hu)
 ·exact .inr ⟨a,e1,e2,e3,fun p hp=>⟨(h4 p hp).1,Nat.lt_of_lt_of_le (h4 p hp).2 hg.size⟩⟩
theorem ElO.growS {w w':World}{e:Sh}{u:Option Nat}(h:ElO w e) (hg:w.grownBy w' u) (hu:∀ g,u=some g→TyS g w):ElO w' e:=by
 obtain⟨k,n,p,a,b,s,p1,n1,c1,p2,n2,c2,h1,h2,h3,h4,h5⟩:=h;exact⟨k,n,p,a,b,s,p1,n1,c1,p2,n2,c2,h1,h2.growS hg hu,h3,h4.growS hg hu,h5.growS hg hu⟩
theorem AllS.ty {B:Nat}{v:Value}{R:List Sh}{w:World}(h:AllS B v R w):∀ g,v.ownBlock=some g→TyS g w:=by
 intro g hg
 rcases h.rowS with⟨-,rfl⟩ | ⟨g',cap,rfl,-,hr⟩
 ·cases hg
 ·have e:g'=g:=by injection hg
  subst e;exact hr.ty
theorem AllS.grow {B:Nat}{v v':Value}{R:List Sh}{e:Sh}{w w':World}(h:AllS B v R w) (h3:w'.ownsRow B 47 6 v' (R.length+1) (flatS R ++ e.1)) (hg:w.grownBy w' v.ownBlock) (he:ElO w e):AllS B v' (R ++ [e]) w':=by
 refine⟨?_,fun x hx=>?_⟩
 ·rw[List.length_append,show flatS (R ++ [e])=flatS R ++ e.1 by simp [flatS]];exact h3
 ·rcases List.mem_append.1 hx with hx | hx
  ·exact (h.its x hx).growS hg h.ty
  ·simp at hx;subst hx;exact he.growS hg h.ty
theorem ElO.one {w:World}{e:Sh}(h:ElO w e):∀ u∈e.1,u.oneCell'=true:=by
 obtain⟨k,n,p,a,b,s,p1,n1,c1,p2,n2,c2,h1,-⟩:=h;rw[h1];intro u hu;simp only[List.mem_cons,List.not_mem_nil,or_false]at hu
 rcases hu with rfl | rfl | rfl | rfl | rfl | rfl <;> rfl
theorem append_run {w:World}(t ty:TypeId) (ht:Tryz.prog.underlying t=some (.slice 47)){B b:Nat}{v:Value}{R:List Sh}{e:Sh}(hA:AllS B v R w) (he:ElO w e) (hb:∀ j u,e.1[j]? = some u→At b j u w) (hlen:R.length≤100000) (hB:B≤w.heap.size) :
  ∃ v' w',(Builtin.append_ #[t,t] ty #[v,.slice (some ⟨b,0,none⟩) 1 1]).run Tryz.prog w = .ok v' w'∧AllS B v' (R ++ [e]) w' ∧ ∀ w0,Below B w0 w→Below B w0 w':=by
 obtain⟨i,hi,hz,hsize,hby⟩:=info_parts info_share
 obtain⟨v',w',hr,h2,h3,h4⟩:=run_append_own (P:=Tryz.prog) w B t ty 47 i _ 6 96 ht hi hz hsize hby rfl (by decide) v R.length (flatS R) hA.row ⟨b,0,none⟩ 1 1 e.1 he.len
  (fun j u hj=>by have:=(hb j u hj).1;simpa [Addr.add_lit] using this) he.one (by unfold maxLen;omega) (by omega) hB
 refine⟨v',w',hr,hA.grow h2 h3 he,fun w0 hw=>hw.grown h3 hB fun k hk=>?_⟩
 rcases hA.rowS with⟨-,rfl⟩ | ⟨g',cap,rfl,hg,-⟩
 ·cases hk
 ·have e:g'=k:=by injection hk
  omega
abbrev Ra:=VT × Bool × List Nat × List Nat
noncomputable def qRa (a:Ra):Rat:=mkRat (iv a.2.1 a.2.2.1) (val a.2.2.2)
noncomputable def ptRa (a:Ra):Pt:=(a.1,qRa a)
noncomputable def raPt (p:Pt):Ra:=(p.1,decide (p.2.num<0),dig p.2.num.natAbs,dig p.2.den)
def RaS (w:World) (cs:List Value) (a:Ra):Prop:=∃ (k:Nat) (n:Int) (p:Option Addr) (x y:Nat) (p1:Option Addr) (n1 c1:Nat) (p2:Option Addr) (n2 c2:Nat),
 cs = [.int .u8 (k:Int),.int .i64 n,.slice p x y,.bool a.2.1,.slice p1 n1 c1,.slice p2 n2 c2]∧IsV w (.agg #[.int .u8 (k:Int),.int .i64 n,.slice p x y]) a.1∧Limbs w (.slice p1 n1 c1) a.2.2.1∧Limbs w (.slice p2 n2 c2) a.2.2.2
theorem RaS.ext {w w':World}{cs:List Value}{a:Ra}(h:RaS w cs a) (x:Ext w w'):RaS w' cs a:=by
 obtain⟨k,n,p,y,z,p1,n1,c1,p2,n2,c2,h1,h2,h3,h4⟩:=h;exact⟨k,n,p,y,z,p1,n1,c1,p2,n2,c2,h1,h2.ext x,h3.ext x,h4.ext x⟩
theorem RaS.inR {w:World}{k:Value}{n:Value}{p:Value}{s:Bool}{v u:Value}{a:Ra}(h:RaS w [k,n,p,.bool s,v,u] a){K:Nat}(h1:a.2.2.1.length≤K) (h2:a.2.2.2.length≤K) (hK:1≤K):InR w s v u K (qRa a):=by
 obtain⟨k',n',p',y,z,p1,n1,c1,p2,n2,c2,e,-,h3,h4⟩:=h;simp only[List.cons.injEq,Value.bool.injEq,and_true]at e;obtain⟨-,-,-,rfl,rfl,rfl⟩:=e;exact⟨_,_,h3,h4,rfl,h1,h2,hK⟩
theorem ElO.raS {w:World}{e:Sh}(h:ElO w e):RaS w e.1 (raPt e.2):=by
 obtain⟨k,n,p,a,b,s,p1,n1,c1,p2,n2,c2,h1,h2,h3,h4,h5⟩:=h;exact⟨k,n,p,a,b,p1,n1,c1,p2,n2,c2,by rw[h1,←h3];rfl,h2.isV,h4.limbs,h5.limbs⟩
theorem qRa_pt (p:Pt):qRa (raPt p)=p.2:=by
 have h:∀ w:World,InR w (decide (p.2.num<0)) (.slice none 0 0) (.slice none 0 0) 1 0→True:=fun _ _=>trivial
 clear h;unfold qRa raPt;simp only[];rw[val_dig]
 have e:iv (decide (p.2.num<0)) (dig p.2.num.natAbs)=p.2.num:=by
  unfold iv;rw[val_dig]
  by_cases h:p.2.num<0
  ·simp [h];omega
  ·simp [h];omega
 rw[e];exact Rat.mkRat_self p.2
theorem ptRa_pt (p:Pt):ptRa (raPt p)=p:=by unfold ptRa;rw[qRa_pt];rfl
def SlS (w:World) (v:Value) (Ls:List Ra):Prop :=
 ∃ p c,v = .slice p Ls.length c∧Ls.length≤c∧c≤maxLen∧(p=none→Ls = []∧c=0) ∧ ∀ i a,Ls[i]? = some a → ∃ bl off cs,p=some ⟨bl,off,none⟩∧RaS w cs a ∧ ∀ j u,cs[j]? = some u→At bl (off+i*6+j) u w
theorem SlS.ext {w w':World}{v:Value}{Ls:List Ra}(h:SlS w v Ls) (x:Ext w w'):SlS w' v Ls:=by
 obtain⟨p,c,h1,h2,h3,h4,h5⟩:=h;refine⟨p,c,h1,h2,h3,h4,fun i a hi=>?_⟩;obtain⟨bl,off,cs,e,r,q⟩:=h5 i a hi;exact⟨bl,off,cs,e,r.ext x,fun j u hj=>(q j u hj).ext x⟩
theorem SlS.nil (w:World):SlS w (.slice none 0 0) []:=⟨none,0,rfl,Nat.le_refl _,Nat.zero_le _,fun _=>⟨rfl,rfl⟩,fun i a h=>by simp at h⟩
theorem RowV.slS {g cap:Nat}{G:List Sh}{w:World}(h:RowV g G w) (h1:G.length≤cap) (h2:cap≤9223372036854775807):SlS w (.slice (some ⟨g,0,none⟩) G.length cap) (G.map fun e=>raPt e.2):=by
 refine⟨_,cap,by rw[List.length_map],by rw[List.length_map];exact h1,by unfold maxLen;omega,fun e=>(by cases e),fun i a hi=>?_⟩;rw[List.getElem?_map]at hi
 cases he:G[i]? with
 | none=>rw[he]at hi;cases hi
 | some e =>
  rw[he]at hi
  injection hi with hi
  subst hi;obtain⟨q1,q2⟩:=h i e he;exact⟨g,0,e.1,rfl,q1.raS,fun j u hj=>by rw[Nat.zero_add];exact q2 j u hj⟩
def SlM (w:World) (v:Value) (M:List Pt):Prop:=SlS w v (M.map raPt)
theorem SlM.ext {w w':World}{v:Value}{M:List Pt}(h:SlM w v M) (x:Ext w w'):SlM w' v M:=SlS.ext h x
theorem pts_map (M:List Pt):(M.map raPt).map ptRa=M:=by
 rw[List.map_map]
 conv=>rhs;rw[←List.map_id M]
 exact List.map_congr_left fun p _=>ptRa_pt p
end Go.Proofs.YtfofjalebhajhaaGreatDoor
