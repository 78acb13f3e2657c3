/- What gather's walk needs: slices of things, functions that make shares, an append of a share, a fraction stored into a row of shares. -/
import Derived.Test.YtfofjalebhajhaaGreatDoorMass6
namespace Go.Proofs.YtfofjalebhajhaaGreatDoor
open Go Go.RowKit
theorem PreX.sv {ops:Array Oper}{D T:List Nat}{sp:Nat→Sx}{a0 a:Act}{w0 w:World}{o:Oper}(h:PreX ops D T sp a0 w0 o a w) (j:Nat) (hj:(bindsOf o).contains j=true) (hs:T.contains j=false){k:Nat}{v:Value}(hk:(ops[j]?).bind (·.dst)=some k) (hv:sp j=Sx.val v):a.tmps[k]?.getD undef=v:=by
 have h1:=h.get j hj hs;rw[hv]at h1;have h2:at_ ops a j=v:=h1;unfold at_ at h2;rw[hk]at h2;exact slot_is' h2
theorem PreX.v {ops:Array Oper}{D T:List Nat}{sp:Nat→Sx}{a0 a:Act}{w0 w:World}{o:Oper}(h:PreX ops D T sp a0 w0 o a w) (j:Nat){k:Nat}{v:Value}(hj:(bindsOf o).contains j=true:=by decide +kernel) (hs:T.contains j=false:=by exact rfl) (hk:(ops[j]?).bind (·.dst)=some k:=by exact rfl) (hv:sp j=Sx.val v:=by exact rfl):a.tmps[k]?.getD undef=v:=h.sv j hj hs hk hv
def SlC (s:Nat) (Shp:List Value→Prop) (w:World) (v:Value) (C:List (List Value)):Prop :=
 ∃ p c,v = .slice p C.length c∧C.length≤c∧c≤maxLen∧(p=none→C = []) ∧ ∀ i cs,C[i]? = some cs→Shp cs ∧ ∃ bl off,p=some ⟨bl,off,none⟩ ∧ ∀ j u,cs[j]? = some u→At bl (off+i*s+j) u w
theorem SlC.ext {s:Nat}{Shp:List Value→Prop}{w w':World}{v:Value}{C:List (List Value)}(h:SlC s Shp w v C) (x:Ext w w'):SlC s Shp w' v C:=by
 obtain⟨p,c,h1,h2,h3,h4,h5⟩:=h;refine⟨p,c,h1,h2,h3,h4,fun i cs hi=>?_⟩;obtain⟨q,bl,off,e,r⟩:=h5 i cs hi;exact⟨q,bl,off,e,fun j u hj=>(r j u hj).ext x⟩
def ShpV (cs:List Value):Prop:=∃ (k:Nat) (n:Int) (p:Option Addr) (x y:Nat),cs = [.int .u8 (k:Int),.int .i64 n,.slice p x y]
def ShpS (cs:List Value):Prop:=∃ (k:Nat) (n:Int) (p:Option Addr) (x y:Nat) (s:Bool) (p1:Option Addr) (n1 c1:Nat) (p2:Option Addr) (n2 c2:Nat),cs = [.int .u8 (k:Int),.int .i64 n,.slice p x y,.bool s,.slice p1 n1 c1,.slice p2 n2 c2]
def ShpP (cs:List Value):Prop:=∃ (k:Nat) (n:Int) (p:Option Addr) (x y:Nat) (s:Bool) (p1:Option Addr) (n1 c1:Nat) (p2:Option Addr) (n2 c2:Nat) (k':Nat) (n':Int) (p':Option Addr) (x' y':Nat) (s':Bool) (p1':Option Addr) (n1' c1':Nat) (p2':Option Addr) (n2' c2':Nat),
 cs = [.int .u8 (k:Int),.int .i64 n,.slice p x y,.bool s,.slice p1 n1 c1,.slice p2 n2 c2,.int .u8 (k':Int),.int .i64 n',.slice p' x' y',.bool s',.slice p1' n1' c1',.slice p2' n2' c2']
def MkRet (mk:Option Pt) (K:Nat) (w:World) (z:Ending) (w':World):Prop :=
 ∃ (k:Nat) (n:Int) (p:Option Addr) (x y:Nat) (s:Bool) (p1:Option Addr) (n1 c1:Nat) (p2:Option Addr) (n2 c2:Nat),
  z = .returned (.tuple #[.agg #[.int .u8 (k:Int),.int .i64 n,.slice p x y,.bool s,.slice p1 n1 c1,.slice p2 n2 c2],.bool mk.isSome])∧Ext w w' ∧
  ∀ pt,mk=some pt→IsV w' (.agg #[.int .u8 (k:Int),.int .i64 n,.slice p x y]) pt.1∧InR w' s (.slice p1 n1 c1) (.slice p2 n2 c2) K pt.2
structure MakeFn (F:Nat) (caps:Array Value) (w:World) (C:List (List Value)) (mk:Nat→Option Pt) (K:Nat):Prop where
 enter:∀ args w,(callFunc F args).run Tryz.prog w = .ok (.enter F args) w
 call:∀ i cs w',C[i]? = some cs→Ext w w'→Calls Tryz.prog F (#[.agg cs.toArray] ++ caps) w' (MkRet (mk i) K w')
def madeL (mk:Nat→Option Pt) (i:Nat):List Pt:=(List.range i).filterMap mk
theorem madeL_succ (mk:Nat→Option Pt) (i:Nat):madeL mk (i+1)=madeL mk i ++ (mk i).toList:=by
 unfold madeL;rw[List.range_succ,List.filterMap_append]
 congr 1
theorem madeL_len (mk:Nat→Option Pt) (i:Nat):(madeL mk i).length≤i:=by
 unfold madeL;exact Nat.le_trans (List.length_filterMap_le _ _) (by simp)
theorem madeL_mem {mk:Nat→Option Pt}{i j:Nat}{p:Pt}(h:mk i=some p) (hi:i<j):p∈madeL mk j:=List.mem_filterMap.2 ⟨i,List.mem_range.2 hi,h⟩
def Sx.ownV (t:VT):Sx:=⟨fun v w => ∃ (k:Nat) (n:Int) (p:Option Addr) (a b:Nat),v = .agg #[.int .u8 (k:Int),.int .i64 n,.slice p a b]∧OwV 0 w v t,fun v w w' ⟨k,n,p,a,b,h1,h2⟩ x=>⟨k,n,p,a,b,h1,h2.ext x⟩⟩
def Sx.ownR (q:Rat):Sx:=⟨fun v w => ∃ (s:Bool) (p1:Option Addr) (n1 c1:Nat) (p2:Option Addr) (n2 c2:Nat),v = .agg #[.bool s,.slice p1 n1 c1,.slice p2 n2 c2]∧decide (q.num<0)=s∧OwnL 0 w (.slice p1 n1 c1) (dig q.num.natAbs)∧OwnL 0 w (.slice p2 n2 c2) (dig q.den),
 fun v w w' ⟨s,p1,n1,c1,p2,n2,c2,h1,h2,h3,h4⟩ x=>⟨s,p1,n1,c1,p2,n2,c2,h1,h2,h3.ext x,h4.ext x⟩⟩
theorem Sl3.ext' {K:Nat}{w w':World}{v:Value}{qs:List Rat}(h:Sl3 (FraT K) w v qs) (x:Ext w w'):Sl3 (FraT K) w' v qs:=by
 obtain⟨p,c,h1,h2,h3,h4⟩:=h;refine⟨p,c,h1,h2,h3,fun i hi=>?_⟩;obtain⟨bl,off,e,hl,q⟩:=h4 i hi;refine⟨bl,off,e,Nat.lt_of_lt_of_le hl x.size,fun j a hj=>?_⟩;obtain⟨b,y,z,q1,q2,q3,q4⟩:=q j a hj;exact⟨b,y,z,(At.ext ⟨q1,hl⟩ x).1,(At.ext ⟨q2,hl⟩ x).1,(At.ext ⟨q3,hl⟩ x).1,InR.ext q4 x⟩
theorem sumR_one (q:Rat):sumR [q]=q:=by unfold sumR;simp [Rat.zero_add]
def Sx.sl1 (K:Nat) (q:Rat):Sx:=⟨fun v w => ∃ s,v = .slice (some ⟨s,0,none⟩) 1 1∧Sl3 (FraT K) w v [q],fun v w w' ⟨s,h1,h2⟩ x=>⟨s,h1,h2.ext' x⟩⟩
def Sx.shr (t:VT) (q:Rat):Sx:=⟨fun v w => ∃ e:Sh,v = .agg e.1.toArray∧ElO w e∧e.2=(t,q),fun v w w' ⟨e,h1,h2,h3⟩ x=>⟨e,h1,h2.ext x,h3⟩⟩
def Sx.row1 (t:VT) (q:Rat):Sx:=⟨fun v w => ∃ s,v = .slice (some ⟨s,0,none⟩) 1 1 ∧ ∃ e:Sh,ElO w e∧e.2=(t,q) ∧ ∀ j u,e.1[j]? = some u→At s j u w,fun v w w' ⟨s,h1,e,h2,h3,h4⟩ x=>⟨s,h1,e,h2.ext x,h3,fun j u hj=>(h4 j u hj).ext x⟩⟩
theorem wp_append_share {w:World}{o:Oper}{a:Act}{K:Act→World→Prop}{Q:Exit→Act→World→Prop}(s x:Operand) (t:TypeId) (ht:Tryz.prog.underlying t=some (.slice 47))
  (ho:o.op = .call { callee:=.builtin .append,args:=#[s,x],argTypes:=#[t,t] }){B b:Nat}{v:Value}{R:List Sh}{e:Sh}(hs:a.eval s=v) (hx:a.eval x = .slice (some ⟨b,0,none⟩) 1 1)
  (hA:AllS B v R w) (he:ElO w e) (hb:∀ j u,e.1[j]? = some u→At b j u w) (hlen:R.length≤100000) (hB:B≤w.heap.size)
  (h:∀ v' w',AllS B v' (R ++ [e]) w'→Below B w w'→K (a.put o.dst v') w'):Oper.wp Tryz.prog o a w K Q:=by
 obtain⟨v',w',hr,h1,h2⟩:=append_run t o.type ht hA he hb hlen hB;unfold Oper.wp execOp;simp only[ho,resolve,invoke,builtin,Sem.run_bind,Sem.run_pure,Result.andThen_ok,List.map_toArray,List.map_cons,List.map_nil,hs,hx,hr];exact h v' w' h1 (h2 w (Below.refl _ _))
theorem AllS.slice {B:Nat}{v:Value}{R:List Sh}{w:World}(h:AllS B v R w):∃ p c,v = .slice p R.length c:=by
 rcases h.rowS with⟨rfl,rfl⟩ | ⟨g,cap,rfl,-,-⟩
 ·exact⟨_,_,rfl⟩
 ·exact⟨_,_,rfl⟩
theorem sl_one {w:World}{b:Nat}{cs:List Value}(h:∀ j u,cs[j]? = some u→At b j u w) (h0:0<cs.length):Sl cs.length w (.slice (some ⟨b,0,none⟩) 1 1) 1 cs:=by
 refine⟨by omega,_,1,rfl,Nat.le_refl _,by simp [maxLen],fun e=>(by cases e),fun p hp _=>?_⟩
 injection hp with hp
 subst hp;refine⟨rfl,(h 0 _ (List.getElem?_eq_getElem h0)).2,fun j hj=>?_⟩;rw[Nat.zero_add];exact (h j _ (List.getElem?_eq_getElem hj)).1
theorem append_share {w:World}{ops:Array Oper}{rest:List Oper}{o:Oper}{a:Act}{Q:Exit→Act→World→Prop}(hgd:o.guard=none) (s x:Operand) (t:TypeId) (ht:Tryz.prog.underlying t=some (.slice 47))
  (ho:o.op = .call { callee:=.builtin .append,args:=#[s,x],argTypes:=#[t,t] }){B b:Nat}{v u:Value}{R:List Sh}{e:Sh}(hs:a.eval s=v) (hx:a.eval x=u) (hu:u = .slice (some ⟨b,0,none⟩) 1 1)
  (hA:AllS B v R w) (he:ElO w e) (hb:∀ j u,e.1[j]? = some u→At b j u w) (hlen:R.length≤100000) (hB:B≤w.heap.size)
  (h:∀ v' w',AllS B v' (R ++ [e]) w'→Below B w w'→wpList Tryz.prog ops Q rest (a.put o.dst v') w'):wpList Tryz.prog ops Q (o :: rest) a w:=by
 subst hu;have h6:=sl_one hb (by rw[he.len];decide);rw[he.len]at h6
 refine wpList_append_sl hgd s x t ho B 47 _ 6 96 ht info_share rfl (by decide) v R.length (flatS R) hs hA.row _ 1 e.1 hx h6 he.one (by unfold maxLen;omega) (by omega) hB fun v' w' h3 hg=>?_
 refine h v' w' (hA.grow h3 hg he) ((Below.refl _ _).grown hg hB fun k hk=>?_)
 rcases hA.rowS with⟨-,rfl⟩ | ⟨g',cap,rfl,hg',-⟩
 ·cases hk
 ·have e:g'=k:=by injection hk
  omega
theorem append_share1 {w W:World}{ops:Array Oper}{rest:List Oper}{o:Oper}{a:Act}{Q:Exit→Act→World→Prop}(hgd:o.guard=none) (s x:Operand) (t:TypeId) (ht:Tryz.prog.underlying t=some (.slice 47))
  (ho:o.op = .call { callee:=.builtin .append,args:=#[s,x],argTypes:=#[t,t] }){B b:Nat}{v u:Value}{R:List Sh}{e:Sh}{C:Array Value}{ty:TypeId}(hs:a.eval s=v) (hx:a.eval x=u) (hu:u = .slice (some ⟨b,0,none⟩) 1 1) (hw:w=W.alloc (.cells C ty)) (hb:b=W.heap.size) (hC:e.1=C.toList)
  (hA:AllS B v R W) (he:ElO W e) (hlen:R.length≤100000) (hB:B≤W.heap.size)
  (h:∀ v' w',AllS B v' (R ++ [e]) w'→Below B W w'→wpList Tryz.prog ops Q rest (a.put o.dst v') w'):wpList Tryz.prog ops Q (o :: rest) a w:=by
 subst hw hb;have X:Ext W (W.alloc (.cells C ty)):=eR.alloc _
 refine append_share hgd s x t ht ho hs hx hu (hA.ext X) (he.ext X) (fun j u hj=>?_) hlen (Nat.le_trans hB X.size) fun v' w' h1 h2=>h v' w' h1 ((X.mono hB).trans h2)
 rw[hC]at hj;exact at_new (by simpa using hj)
theorem set_same {α:Type}{l:List α}{i:Nat}{x:α}(h:l[i]? = some x):l.set i x=l:=by
 obtain⟨hi,he⟩:=List.getElem?_eq_some_iff.1 h;rw[←he];exact List.set_getElem_self hi
theorem RowS.setP {g cap:Nat}{R:List Sh}{w:World}(h:RowS g cap R w){i:Nat}{x0 x1 x2 y3 y4 y5 x3 x4 x5:Value}{t t':VT}{q q':Rat}(hi:R[i]? = some ([x0,x1,x2,y3,y4,y5],t,q)) (he:ElO w ([x0,x1,x2,x3,x4,x5],t',q')) :
  RowS g cap (R.set i ([x0,x1,x2,x3,x4,x5],t',q')) (((w.setCell ⟨g,i*6+3,none⟩ x3).setCell ⟨g,i*6+4,none⟩ x4).setCell ⟨g,i*6+5,none⟩ x5):=by
 have hil:=(List.getElem?_eq_some_iff.1 hi).1;have t0:=h.ty;have t1:=t0.setCell (i*6+3) x3;have t2:=t1.setCell (i*6+4) x4
 have all:∀ e,ElO w e→ElO (((w.setCell ⟨g,i*6+3,none⟩ x3).setCell ⟨g,i*6+4,none⟩ x4).setCell ⟨g,i*6+5,none⟩ x5) e:=fun e k=>((k.setS t0 _ _).setS t1 _ _).setS t2 _ _
 refine⟨?_,fun e hm=>?_⟩
 ·have c0:=flatS_get h.lens hi (j:=0) (by decide);have c1:=flatS_get h.lens hi (j:=1) (by decide);have c2:=flatS_get h.lens hi (j:=2) (by decide);simp only[Nat.add_zero,List.getElem?_cons_zero,List.getElem?_cons_succ]at c0 c1 c2;rw[List.length_set,flatS_set h.lens hil,set_same c0,set_same c1,set_same c2];exact (World.ownsRow.stored (World.ownsRow.stored (World.ownsRow.stored h.row _ x3).1 _ x4).1 _ x5).1
 ·rcases List.mem_or_eq_of_mem_set hm with hm | hm
  ·exact all e (h.its e hm)
  ·rw[hm];exact all _ he
theorem slC_len {s:Nat}{Shp:List Value→Prop}{w:World}{v:Value}{C:List (List Value)}(h:SlC s Shp w v C):∃ p c,v = .slice p C.length c:=by
 obtain⟨p,c,h1,-⟩:=h;exact⟨p,c,h1⟩
theorem ElO.newP {w:World}{k:Nat}{n:Int}{p:Option Addr}{a b:Nat}{s:Bool}{r:Option Addr}{c d:Nat}{u:Option Addr}{e f:Nat}{t:VT}{q:Rat}(h:ElO w ([.int .u8 (k:Int),.int .i64 n,.slice p a b,.bool s,.slice r c d,.slice u e f],t,q))
  {s':Bool}{r':Option Addr}{c' d':Nat}{u':Option Addr}{e' f':Nat}{q':Rat}(h1:decide (q'.num<0)=s') (h2:OwnL 0 w (.slice r' c' d') (dig q'.num.natAbs)) (h3:OwnL 0 w (.slice u' e' f') (dig q'.den)) :
  ElO w ([.int .u8 (k:Int),.int .i64 n,.slice p a b,.bool s',.slice r' c' d',.slice u' e' f'],t,q'):=by
 obtain⟨k1,n1,p1,a1,b1,s1,r1,c1,d1,u1,e1,f1,g1,g2,-,-,-⟩:=h;simp only[List.cons.injEq,Value.int.injEq,Value.slice.injEq,Value.bool.injEq,true_and,and_true]at g1;obtain⟨e1,e2,⟨e3,e4,e5⟩,-⟩:=g1
 have e1:k=k1:=by omega
 subst e1 e2 e3 e4 e5;exact⟨_,_,_,_,_,_,_,_,_,_,_,_,rfl,g2,h1,h2,h3⟩
theorem ElO.fra {w:World}{x:Sh}{k:Nat}{n:Int}{p:Option Addr}{a b:Nat}{s:Bool}{r:Option Addr}{c d:Nat}{u:Option Addr}{e f:Nat}(h:ElO w x) (hx:x=([.int .u8 (k:Int),.int .i64 n,.slice p a b,.bool s,.slice r c d,.slice u e f],x.2.1,x.2.2)){K:Nat}(hk:LenR K x.2.2) :
  InR w s (.slice r c d) (.slice u e f) K x.2.2:=by
 obtain⟨cs,t,q⟩:=x;obtain⟨rfl,-⟩:=Prod.mk.inj hx;exact h.val.2.inR hk
theorem rowV_slM {g cap:Nat}{O:List Sh}{w:World}(h:RowV g (O.filter keep) w) (h1:O.length≤cap∧cap≤9223372036854775807):SlM w (.slice (some ⟨g,0,none⟩) (O.filter keep).length cap) ((O.filter keep).map (·.2)):=by
 have:=h.slS (Nat.le_trans (List.length_filter_le _ _) h1.1) h1.2;unfold SlM;rw[List.map_map];exact this
theorem index_nil {F:Nat}(w:World) :
  Calls Tryz.prog 107 #[.slice none 0 0,.func (.func F) #[] #[]] w fun z w'=>z = .returned (.int .i64 (-1))∧w'=w:=by
 go_enter Tryz.func107,Tryz.ntmps107
 go_wp2_with fail
 go_loopw [8] (fun v8 wr=>v8 = .int .i64 0∧wr=w) (fun _ _=>0)
 case atStart=>exact⟨rfl,rfl⟩
 case round =>
  obtain⟨rfl,rfl⟩:=hrel;go_wp2_with fail;go_ret;exact⟨rfl,rfl⟩
theorem delete_nil {F:Nat}(w:World) :
  Calls Tryz.prog 81 #[.slice none 0 0,.func (.func F) #[] #[]] w fun z w'=>z = .returned (.slice none 0 0)∧w'=w:=by
 have HI:=Hd (index_nil (F:=F) w)
 go_enter Tryz.func81,Tryz.ntmps81
 go_wp2_with fail;refine HI.out.mono ?_;rintro z w1 ⟨rfl,rfl⟩;go_wp2_with fail;go_ret;exact⟨rfl,rfl⟩
theorem gath_of {M:List Pt}{S O:List Sh}(hp:S.map (·.2) |>.Perm M) (hs:SortedS S) (hsame:M.length≤20→SrtP M→S.map (·.2)=M) (ho:O.map (·.2)=mergeP (S.map (·.2))):Gath M ((O.filter keep).map (·.2)):=by
 refine⟨S.map (·.2),hp,?_,hsame,?_⟩
 ·unfold SrtP;rw[List.pairwise_map];exact hs
 ·rw[←ho,List.filter_map]
  congr 1
  refine List.filter_congr fun e _=>?_
  unfold keep low
  simp
theorem gath_none:Gath [] []:=⟨[],List.Perm.refl _,List.Pairwise.nil,fun _ _=>rfl,rfl⟩
theorem sorted_pts {R:List Sh}(h:SrtP (R.map (·.2))):SortedS R:=by
 unfold SrtP at h;rw[List.pairwise_map]at h;exact h
end Go.Proofs.YtfofjalebhajhaaGreatDoor
