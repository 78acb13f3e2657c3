/- Rows of shares in memory of the call's own. -/
import Derived.Test.YtfofjalebhajhaaGreatDoorVal4
namespace Go.Proofs.YtfofjalebhajhaaGreatDoor
open Go Go.RowKit
abbrev Sh:=List Value × VT × Rat
def ElO (w:World) (e:Sh):Prop:=∃ (k:Nat) (n:Int) (p:Option Addr) (a b:Nat) (s:Bool) (p1:Option Addr) (n1 c1:Nat) (p2:Option Addr) (n2 c2:Nat),
 e.1 = [.int .u8 (k:Int),.int .i64 n,.slice p a b,.bool s,.slice p1 n1 c1,.slice p2 n2 c2]∧OwV 0 w (.agg #[.int .u8 (k:Int),.int .i64 n,.slice p a b]) e.2.1 ∧
 decide (e.2.2.num<0)=s∧OwnL 0 w (.slice p1 n1 c1) (dig e.2.2.num.natAbs)∧OwnL 0 w (.slice p2 n2 c2) (dig e.2.2.den)
theorem ElO.ext {w w':World}{e:Sh}(h:ElO w e) (x:Ext w w'):ElO w' e:=by
 obtain⟨k,n,p,a,b,s,p1,n1,c1,p2,n2,c2,h1,h2,h3,h4,h5⟩:=h;exact⟨k,n,p,a,b,s,p1,n1,c1,p2,n2,c2,h1,h2.ext x,h3,h4.ext x,h5.ext x⟩
theorem ElO.len {w:World}{e:Sh}(h:ElO w e):e.1.length=6:=by
 obtain⟨k,n,p,a,b,s,p1,n1,c1,p2,n2,c2,h1,-⟩:=h;rw[h1];rfl
def TyS (g:Nat) (w:World):Prop:=∃ cur,w.heap[g]? = some (.cells cur 47 (0,0))
theorem ownsRow_setS {B:Nat}{e:TypeId}{s:Nat}{w:World}{v:Value}{n:Nat}{xs:List Value}(h:w.ownsRow B e s v n xs) (he:e ≠ 47){g:Nat}(hg:TyS g w) (o:Nat) (u:Value):(w.setCell ⟨g,o,none⟩ u).ownsRow B e s v n xs:=by
 obtain⟨h1,h2⟩:=h;refine⟨h1,?_⟩
 rcases h2 with h2 | ⟨g',cap,cur,ev,hb,hh,rest⟩
 ·exact .inl h2
 ·refine .inr ⟨g',cap,cur,ev,hb,?_,rest⟩;obtain⟨c0,hc⟩:=hg
  have hne:g'≠g:=by
   intro e2;subst e2;rw[hh]at hc
   injection hc with hc
   injection hc with _ hc
   exact he hc
  rw[Below.heap_setCell _ _ _ _ hne];exact hh
theorem OwV.setS {B:Nat}{w:World}{v:Value}{t:VT}(h:OwV B w v t){g:Nat}(hg:TyS g w) (o:Nat) (u:Value):OwV B (w.setCell ⟨g,o,none⟩ u) v t:=by
 induction h with
 | mk k n l p c xs hk hn hs hl ih=>exact .mk k n l p c xs hk hn (ownsRow_setS hs (by decide) hg o u) fun i y hy=>ih i y hy
theorem OwnL.setS {B:Nat}{w:World}{v:Value}{A:List Nat}(h:OwnL B w v A){g:Nat}(hg:TyS g w) (o:Nat) (u:Value):OwnL B (w.setCell ⟨g,o,none⟩ u) v A:=by
 refine⟨?_,h.2⟩
 rcases h.1 with h1 | ⟨a,e1,e2,e3,h4⟩
 ·exact .inl (ownsRow_setS h1 (by decide) hg o u)
 ·exact .inr ⟨a,e1,e2,e3,fun p hp=>⟨(h4 p hp).1,by simpa [World.setCell] using (h4 p hp).2⟩⟩
theorem ElO.setS {w:World}{e:Sh}(h:ElO w e){g:Nat}(hg:TyS g w) (o:Nat) (u:Value):ElO (w.setCell ⟨g,o,none⟩ u) e:=by
 obtain⟨k,n,p,a,b,s,p1,n1,c1,p2,n2,c2,h1,h2,h3,h4,h5⟩:=h;exact⟨k,n,p,a,b,s,p1,n1,c1,p2,n2,c2,h1,h2.setS hg o u,h3,h4.setS hg o u,h5.setS hg o u⟩
theorem TyS.setCell {g:Nat}{w:World}(h:TyS g w) (o:Nat) (u:Value):TyS g (w.setCell ⟨g,o,none⟩ u):=by
 obtain⟨cur,h⟩:=h;exact⟨cur.setIfInBounds o u,by simp [World.setCell,Array.getElem?_modify,h]⟩
theorem TyS.ext {g:Nat}{w w':World}(h:TyS g w) (x:Ext w w'):TyS g w':=by
 obtain⟨cur,h⟩:=h;exact⟨cur,by rw[x.block g (Array.getElem?_eq_some_iff.1 h).1];exact h⟩
def flatS (R:List Sh):List Value:=R.flatMap (·.1)
structure RowS (g cap:Nat) (R:List Sh) (w:World):Prop where
 row:w.ownsRow g 47 6 (.slice (some ⟨g,0,none⟩) R.length cap) R.length (flatS R)
 its:∀ e∈R,ElO w e
theorem flatS_get:∀ {R:List Sh}(_:∀ e∈R,e.1.length=6){i:Nat}{e:Sh}(_:R[i]? = some e){j:Nat}(_:j<6),(flatS R)[i*6+j]? = e.1[j]?
 | [],_,i,e,h,_,_=>by simp at h
 | a :: R,hl,0,e,h,j,hj=>by
  simp only[List.getElem?_cons_zero,Option.some.injEq]at h;subst h;have:=hl a (List.mem_cons_self ..);unfold flatS;rw[List.flatMap_cons,List.getElem?_append_left (by omega)];simp
 | a :: R,hl,i+1,e,h,j,hj=>by
  have:=hl a (List.mem_cons_self ..);unfold flatS;rw[List.flatMap_cons,List.getElem?_append_right (by omega),this,show (i+1)*6+j - 6=i*6+j by omega];exact flatS_get (fun e he=>hl e (List.mem_cons_of_mem _ he)) (by simpa using h) hj
theorem flatS_len:∀ {R:List Sh}(_:∀ e∈R,e.1.length=6),(flatS R).length=R.length*6
 | [],_=>rfl
 | a :: R,hl=>by
  have:=hl a (List.mem_cons_self ..);have h2:=flatS_len (R:=R) (fun e he=>hl e (List.mem_cons_of_mem _ he));unfold flatS at h2 ⊢;rw[List.flatMap_cons,List.length_append,h2,this,List.length_cons];omega
theorem flatS_set:∀ {R:List Sh}(_:∀ e∈R,e.1.length=6){i:Nat}(_:i<R.length){x0 x1 x2 x3 x4 x5:Value}{t:VT}{q:Rat},
  flatS (R.set i ([x0,x1,x2,x3,x4,x5],t,q))=(((((((flatS R).set (i*6) x0).set (i*6+1) x1).set (i*6+2) x2).set (i*6+3) x3).set (i*6+4) x4).set (i*6+5) x5)
 | [],_,i,h,_,_,_,_,_,_,_,_=>by simp at h
 | a :: R,hl,0,_,x0,x1,x2,x3,x4,x5,t,q=>by
  have ha:=hl a (List.mem_cons_self ..);obtain⟨xa,ta,qa⟩:=a
  match xa,ha with
  | [a0,a1,a2,a3,a4,a5],_=>simp [flatS]
 | a :: R,hl,i+1,h,x0,x1,x2,x3,x4,x5,t,q=>by
  have ha:=hl a (List.mem_cons_self ..);have ih:=flatS_set (fun e he=>hl e (List.mem_cons_of_mem _ he)) (i:=i) (by simpa using h) (x0:=x0) (x1:=x1) (x2:=x2) (x3:=x3) (x4:=x4) (x5:=x5) (t:=t) (q:=q);unfold flatS at ih ⊢;rw[List.set_cons_succ,List.flatMap_cons,List.flatMap_cons,ih]
  have e:∀ m,(i+1)*6+m=a.1.length+(i*6+m):=fun m=>by rw[ha];omega
  have e0:(i+1)*6=a.1.length+i*6:=by rw[ha];omega
  rw[e 1,e 2,e 3,e 4,e 5,e0];simp only[List.set_append_right,Nat.le_add_right,Nat.add_sub_cancel_left]
theorem RowS.lens {g cap:Nat}{R:List Sh}{w:World}(h:RowS g cap R w):∀ e∈R,e.1.length=6:=fun e he=>(h.its e he).len
theorem RowS.ext {g cap:Nat}{R:List Sh}{w w':World}(h:RowS g cap R w) (x:Ext w w'):RowS g cap R w':=⟨ownsRow_ext' h.row x,fun e he=>(h.its e he).ext x⟩
theorem RowS.lt {g cap:Nat}{R:List Sh}{w:World}(h:RowS g cap R w):g<w.heap.size:=(h.row.lt g rfl).2
theorem RowS.ty {g cap:Nat}{R:List Sh}{w:World}(h:RowS g cap R w):TyS g w:=by
 rcases h.row.2 with⟨e,-⟩ | ⟨g',cap',cur,e,-,hh,-⟩
 ·cases e
 ·injection e with e _ _
  injection e with e
  injection e with e
  subst e;exact⟨cur,hh⟩
theorem RowS.cell {g cap:Nat}{R:List Sh}{w:World}(h:RowS g cap R w){i:Nat}{e:Sh}(he:R[i]? = some e){j:Nat}{u:Value}(hj:e.1[j]? = some u):At g (i*6+j) u w:=by
 have hm:=List.mem_of_getElem? he
 have hj6:j<6:=by have:=(List.getElem?_eq_some_iff.1 hj).1;rw[h.lens e hm]at this;exact this
 have hi:=(List.getElem?_eq_some_iff.1 he).1;refine⟨?_,h.lt⟩;rw[World.ownsRow.cellAt h.row (i*6+j) (by omega),flatS_get h.lens he hj6,hj]
theorem RowS.free {g cap:Nat}{R:List Sh}{w:World}(h:RowS g cap R w) (j:Nat):w.frozen? ⟨g,j,none⟩=false:=World.ownsRow.frozenAt h.row j
theorem RowS.set {g cap:Nat}{R:List Sh}{w:World}(h:RowS g cap R w){i:Nat}(hi:i<R.length){x0 x1 x2 x3 x4 x5:Value}{t:VT}{q:Rat}(he:ElO w ([x0,x1,x2,x3,x4,x5],t,q)) :
  RowS g cap (R.set i ([x0,x1,x2,x3,x4,x5],t,q)) ((((((w.setCell ⟨g,i*6,none⟩ x0).setCell ⟨g,i*6+1,none⟩ x1).setCell ⟨g,i*6+2,none⟩ x2).setCell ⟨g,i*6+3,none⟩ x3).setCell ⟨g,i*6+4,none⟩ x4).setCell ⟨g,i*6+5,none⟩ x5):=by
 have t0:=h.ty;have t1:=t0.setCell (i*6) x0;have t2:=t1.setCell (i*6+1) x1;have t3:=t2.setCell (i*6+2) x2;have t4:=t3.setCell (i*6+3) x3;have t5:=t4.setCell (i*6+4) x4
 have all:∀ e,ElO w e→ElO ((((((w.setCell ⟨g,i*6,none⟩ x0).setCell ⟨g,i*6+1,none⟩ x1).setCell ⟨g,i*6+2,none⟩ x2).setCell ⟨g,i*6+3,none⟩ x3).setCell ⟨g,i*6+4,none⟩ x4).setCell ⟨g,i*6+5,none⟩ x5) e:=fun e k =>
  (((((k.setS t0 _ _).setS t1 _ _).setS t2 _ _).setS t3 _ _).setS t4 _ _).setS t5 _ _
 refine⟨?_,fun e hm=>?_⟩
 ·rw[List.length_set,flatS_set h.lens hi];exact (World.ownsRow.stored (World.ownsRow.stored (World.ownsRow.stored (World.ownsRow.stored (World.ownsRow.stored (World.ownsRow.stored h.row _ x0).1 _ x1).1 _ x2).1 _ x3).1 _ x4).1 _ x5).1
 ·rcases List.mem_or_eq_of_mem_set hm with hm | hm
  ·exact all e (h.its e hm)
  ·rw[hm];exact all _ he
theorem ElO.shape {w:World}{e:Sh}(h:ElO w e):∃ (k:Nat) (n:Int) (p:Option Addr) (a b:Nat) (s:Bool) (p1:Option Addr) (n1 c1:Nat) (p2:Option Addr) (n2 c2:Nat),
  e=([.int .u8 (k:Int),.int .i64 n,.slice p a b,.bool s,.slice p1 n1 c1,.slice p2 n2 c2],e.2.1,e.2.2):=by
 obtain⟨k,n,p,a,b,s,p1,n1,c1,p2,n2,c2,h1,-⟩:=h;exact⟨k,n,p,a,b,s,p1,n1,c1,p2,n2,c2,by rw[←h1]⟩
theorem ElO.val {w:World}{k:Nat}{n:Int}{p:Option Addr}{a b:Nat}{s:Bool}{p1:Option Addr}{n1 c1:Nat}{p2:Option Addr}{n2 c2:Nat}{t:VT}{q:Rat}
  (h:ElO w ([.int .u8 (k:Int),.int .i64 n,.slice p a b,.bool s,.slice p1 n1 c1,.slice p2 n2 c2],t,q)) :
  IsV w (.agg #[.int .u8 (k:Int),.int .i64 n,.slice p a b]) t∧IsR w s (.slice p1 n1 c1) (.slice p2 n2 c2) q.num.natAbs q.den q:=by
 obtain⟨k',n',p',a',b',s',p1',n1',c1',p2',n2',c2',h1,h2,h3,h4,h5⟩:=h;simp only[List.cons.injEq,Value.int.injEq,Value.slice.injEq,Value.bool.injEq,true_and,and_true]at h1;obtain⟨e1,e2,⟨e3,e4,e5⟩,e6,⟨e7,e8,e9⟩,e10,e11,e12⟩:=h1
 have e1:k=k':=by omega
 subst e1 e2 e3 e4 e5 e6 e7 e8 e9 e10 e11 e12;exact⟨h2.isV,h3,rfl,rfl,h4.limbs,h5.limbs⟩
end Go.Proofs.YtfofjalebhajhaaGreatDoor
