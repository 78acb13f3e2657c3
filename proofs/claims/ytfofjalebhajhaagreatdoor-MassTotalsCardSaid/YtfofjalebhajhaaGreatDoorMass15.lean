/- mass.Scale, mass.Join. -/
import Derived.Test.YtfofjalebhajhaaGreatDoorMass14
namespace Go.Proofs.YtfofjalebhajhaaGreatDoor
open Go Go.RowKit
set_option maxHeartbeats 1000000 in
set_option maxRecDepth 100000 in
theorem scale_calls {w:World}{v:Value}{Ls:List Ra}(h:SlS w v Ls){D X k K K':Nat}{b:Bool}{p1:Option Addr}{n1 c1:Nat}{p2:Option Addr}{n2 c2:Nat}{q:Rat}(hr:InR w b (.slice p1 n1 c1) (.slice p2 n2 c2) K' q) (hK:K≤500) (hK':K'≤500) (hK1:1≤K) (hlim:∀ a∈Ls,a.2.2.1.length≤K∧a.2.2.2.length≤K) (hlen:Ls.length≤100000) (hz:∀ a∈Ls,szV a.1≤1000000)
  (hdn:∀ a∈Ls,Dn D X (qRa a*q)) (hD0:D≠0) (hD:D<Bs^k) (hX:Ls.length*X<Bs^k) (hk1:1≤k) (hk:k≤10000) :
  Calls Tryz.prog 37 #[v,.agg #[.bool b,.slice p1 n1 c1,.slice p2 n2 c2]] w (GathRet w (Ls.map fun a=>(a.1,qRa a*q))):=by
 obtain⟨C,hC,hl,hrr⟩:=SlS.cells h;obtain⟨p,c,hv⟩:=slC_len hC;subst hv
 obtain⟨W,hW⟩:∃ W,W=w.alloc (.cells #[.bool b,.slice p1 n1 c1,.slice p2 n2 c2] 36):=⟨_,rfl⟩
 have XW:Hid (Ext w W):=by rw[hW];exact eR.alloc _
 obtain⟨s,hs⟩:∃ s,w.heap.size=s:=⟨_,rfl⟩
 have B0:Hid (At s 0 (.bool b) W):=by rw[hW,←hs];exact at_new rfl
 have B1:Hid (At s 1 (.slice p1 n1 c1) W):=by rw[hW,←hs];exact at_new rfl
 have B2:Hid (At s 2 (.slice p2 n2 c2) W):=by rw[hW,←hs];exact at_new rfl
 obtain⟨M,hM⟩:∃ M,(Ls.map fun a=>((a.1,qRa a*q):Pt))=M:=⟨_,rfl⟩
 rw[hM]
 have hML:M.length=Ls.length:=by rw[←hM,List.length_map]
 have hmk:madeL (fun i=>M[i]?) C.length=M:=by rw[hl,←hML];exact madeL_get M
 have hf:MakeFn 76 #[.pointer (some ⟨s,0,none⟩)] W C (fun i=>M[i]?) (K+K'):=by
  refine⟨fun args w => Tryz.call76 args w,fun i cs w' hi hx=>?_⟩
  have hil:i<Ls.length:=by rw[←hl];exact (List.getElem?_eq_some_iff.1 hi).1
  have hra:=hrr i cs _ hi (List.getElem?_eq_getElem hil);obtain⟨k,n,p,x,y,p1',n1',c1',p2',n2',c2',rfl,hv,ha,hb⟩:=hra;have hlm:=hlim _ (List.getElem_mem hil)
  have e:M[i]? = some ((Ls[i]).1,qRa Ls[i]*q):=by rw[←hM,List.getElem?_map,List.getElem?_eq_getElem hil];rfl
  show Calls _ _ _ _ (MkRet M[i]? (K+K') w')
  rw[e];have x':=XW.out.trans hx;exact scale1_calls (hv.ext x') ⟨_,_,ha.ext x',hb.ext x',rfl,hlm.1,hlm.2,hK1⟩ hK (hr.ext x') hK' (B0.out.ext hx) (B1.out.ext hx) (B2.out.ext hx)
 have HG:Hid (Calls Tryz.prog 59 #[.slice p C.length c,.func (.func 76) #[] #[.pointer (some ⟨s,0,none⟩)]] W (GathRet W M)):=by
  have:=gatherS_calls (D:=D) (X:=X) (k:=k) (hC.ext XW.out) hf (by omega) (by omega) (fun a ha=>by
    rw[hmk,←hM]at ha;obtain⟨t,ht,rfl⟩:=List.mem_map.1 ha
    exact hz t ht) (fun a ha=>by
    rw[hmk,←hM]at ha;obtain⟨t,ht,rfl⟩:=List.mem_map.1 ha
    exact hdn t ht) hD0 hD (by rw[hl];exact hX) hk1 hk
  rw[hmk]at this;exact this
 obtain⟨cl,hcl⟩:∃ m,C.length=m:=⟨_,rfl⟩
 rw[hcl]at HG ⊢;have HW:=Hd hW;have HB:=Hd hs;clear hC hl hrr hf hmk hM hML hlen hz hcl B0 B1 B2 hW hs hlim hdn hD0 hD hX hk1 hk hr hK hK' hK1 h
 go_enter Tryz.func37,Tryz.ntmps37
 go_wp2_with fail;rw[HB.out,←HW.out];refine HG.out.mono ?_;rintro z w1 ⟨v',out,rfl,h1,h2,h3⟩;have H1:=Hd h1;have H2:=Hd h2;have H3:=Hd (XW.out.trans h3);clear h1 h2 h3 HG HW XW;go_wp2_with fail;go_ret;exact⟨_,_,rfl,H1.out,H2.out,H3.out⟩
def TyB (t:TypeId) (g:Nat) (w:World):Prop:=∃ cur,w.heap[g]? = some (.cells cur t (0,0))
structure NP (w w':World):Prop where
 size:w.heap.size≤w'.heap.size
 blk:∀ g,g<w.heap.size → ¬ TyB 92 g w→w'.heap[g]? = w.heap[g]?
theorem NP.refl (w:World):NP w w:=⟨Nat.le_refl _,fun _ _ _=>rfl⟩
theorem Ext.np {w w':World}(h:Ext w w'):NP w w':=⟨h.size,fun g hg _=>h.block g hg⟩
theorem NP.trans {a b c:World}(h:NP a b) (k:NP b c):NP a c:=by
 refine⟨Nat.le_trans h.size k.size,fun g hg hn=>?_⟩;have e:=h.blk g hg hn;rw[k.blk g (Nat.lt_of_lt_of_le hg h.size) (fun ⟨cur,hc⟩=>hn ⟨cur,by rw[←e];exact hc⟩),e]
theorem At.np {s o:Nat}{u:Value}{a b:World}(h:At s o u a) (k:NP a b) (hn:¬ TyB 92 s a):At s o u b:=by
 refine⟨?_,Nat.lt_of_lt_of_le h.2 k.size⟩;rw[←h.1];exact World.cell?_of_block (w:=a) (k.blk s h.2 hn)
theorem ty_new {w:World}{C:Array Value}{t:TypeId}(h:t ≠ 92):¬ TyB 92 w.heap.size (w.alloc (.cells C t)):=by
 rintro⟨cur,hc⟩;rw[heap_alloc_new]at hc
 injection hc with hc
 injection hc with _ hc
 exact h hc
structure AllP (B:Nat) (v:Value) (C:List (List Value)) (w:World):Prop where
 row:w.ownsRow B 92 12 v C.length C.flatten
 len:∀ e∈C,e.length=12
theorem AllP.nil (B:Nat) (w:World):AllP B (.slice none 0 0) [] w:=⟨World.ownsRow_nil ..,fun e h=>by cases h⟩
theorem AllP.ext {B:Nat}{v:Value}{C:List (List Value)}{w w':World}(h:AllP B v C w) (x:Ext w w'):AllP B v C w':=⟨ownsRow_ext' h.row x,h.len⟩
theorem AllP.slice {B:Nat}{v:Value}{C:List (List Value)}{w:World}(h:AllP B v C w):∃ p c,v = .slice p C.length c:=by
 rcases h.row.2 with⟨e,h0⟩ | ⟨g,cap,cur,e,-⟩
 ·exact⟨none,0,by rw[e,h0]⟩
 ·exact⟨_,_,e⟩
theorem info_pair:(Tryz.prog.info? 92).map (fun i=>(i.zero,i.size,i.bytes))=some (some (.agg #[.int .u8 0,.int .i64 0,.slice none 0 0,.bool false,.slice none 0 0,.slice none 0 0,.int .u8 0,.int .i64 0,.slice none 0 0,.bool false,.slice none 0 0,.slice none 0 0]),12,192):=by kernel_rfl
theorem append_pair {w W:World}{ops:Array Oper}{rest:List Oper}{o:Oper}{a:Act}{Q:Exit→Act→World→Prop}(hgd:o.guard=none) (s x:Operand) (t:TypeId) (ht:Tryz.prog.underlying t=some (.slice 92))
  (ho:o.op = .call { callee:=.builtin .append,args:=#[s,x],argTypes:=#[t,t] }){B b:Nat}{v u:Value}{R:List (List Value)}{e:List Value}{C:Array Value}{ty:TypeId}(hs:a.eval s=v) (hx:a.eval x=u) (hu:u = .slice (some ⟨b,0,none⟩) 1 1) (hw:w=W.alloc (.cells C ty)) (hb:b=W.heap.size) (hC:e=C.toList)
  (hA:AllP B v R W) (he:e.length=12) (h1:∀ u∈e,u.oneCell'=true) (hlen:R.length≤100000) (hB:B≤W.heap.size)
  (h:∀ v' w',AllP B v' (R ++ [e]) w'→Below B W w'→NP W w'→wpList Tryz.prog ops Q rest (a.put o.dst v') w'):wpList Tryz.prog ops Q (o :: rest) a w:=by
 subst hw hb hu;have X:Ext W (W.alloc (.cells C ty)):=eR.alloc _;have hA':=hA.ext X;have h12:=sl_one (w:=W.alloc (.cells C ty)) (b:=W.heap.size) (cs:=e) (fun j u hj=>at_new (by rw[hC]at hj;simpa using hj)) (by rw[he];decide);rw[he]at h12
 refine wpList_append_sl hgd s x t ho B 92 _ 12 192 ht info_pair rfl (by decide) v R.length R.flatten hs hA'.row _ 1 e hx h12 h1 (by unfold maxLen;omega) (by omega) (Nat.le_trans hB X.size) fun v' w' h3 hg=>?_
 refine h v' w' ⟨?_,fun y hy=>?_⟩ ((X.mono hB).trans ((Below.refl _ _).grown hg (Nat.le_trans hB X.size) fun k hk=>?_)) (X.np.trans ⟨hg.size,fun g hgl hn=>hg.block g hgl fun e2=>?_⟩)
 ·rw[List.length_append,List.length_singleton,List.flatten_append]
  simpa using h3
 ·rcases List.mem_append.1 hy with hy | hy
  ·exact hA.len y hy
  ·simp at hy;subst hy;exact he
 ·rcases hA.row.2 with⟨e,-⟩ | ⟨g',cap,cur,e,hg',-⟩
  ·rw[e]at hk;cases hk
  ·rw[e]at hk
   have e:g'=k:=by injection hk
   omega
 ·rcases hA'.row.2 with⟨e,-⟩ | ⟨g',cap,cur,e,-,hh,-⟩
  ·rw[e]at e2;cases e2
  ·rw[e]at e2
   have e3:g=g':=by injection e2
   subst e3;exact hn ⟨cur,hh⟩
end Go.Proofs.YtfofjalebhajhaaGreatDoor
