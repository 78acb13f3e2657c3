/- mass.Of, mass.Even, mass.Scale. -/
import Derived.Test.YtfofjalebhajhaaGreatDoorMass13
namespace Go.Proofs.YtfofjalebhajhaaGreatDoor
open Go Go.RowKit
def GathRet (w:World) (M:List Pt) (z:Ending) (w':World):Prop:=∃ v' out,z = .returned v'∧Gath M out∧SlM w' v' out∧Ext w w'
theorem madeL_get (L:List Pt):madeL (fun i=>L[i]?) L.length=L:=by
 have h:∀ n,n≤L.length→madeL (fun i=>L[i]?) n=L.take n:=by
  intro n
  induction n with
  | zero=>intro _;rfl
  | succ n ih =>
   intro hn;rw[madeL_succ,ih (by omega),List.take_add_one]
 rw[h _ (Nat.le_refl _),List.take_length]
theorem list_of {α:Type}{P:Nat → α → Prop}:∀ n,(∀ i,i<n → ∃ x,P i x) → ∃ L:List α,L.length=n ∧ ∀ i x,L[i]? = some x→P i x
 | 0,_=>⟨[],rfl,fun i x h=>by simp at h⟩
 | n+1,h=>by
  obtain⟨L,h1,h2⟩:=list_of n fun i hi=>h i (by omega)
  obtain⟨x,hx⟩:=h n (by omega);refine⟨L ++ [x],by simp [h1],fun i y hy=>?_⟩
  by_cases hi:i<L.length
  ·rw[List.getElem?_append_left hi]at hy;exact h2 i y hy
  ·rw[List.getElem?_append_right (by omega)]at hy
   cases hd:i - L.length with
   | zero =>
    rw[hd]at hy
    simp at hy
    subst hy
    have:i=n:=by omega
    rw[this];exact hx
   | succ j=>rw[hd]at hy;simp at hy
theorem RaS.shp {w:World}{cs:List Value}{a:Ra}(h:RaS w cs a):ShpS cs:=by
 obtain⟨k,n,p,x,y,p1,n1,c1,p2,n2,c2,h1,-⟩:=h;exact⟨k,n,p,x,y,_,p1,n1,c1,p2,n2,c2,h1⟩
theorem SlS.cells {w:World}{v:Value}{Ls:List Ra}(h:SlS w v Ls):∃ C:List (List Value),SlC 6 ShpS w v C∧C.length=Ls.length ∧ ∀ (i:Nat) (cs:List Value) (a:Ra),C[i]? = some cs→Ls[i]? = some a→RaS w cs a:=by
 obtain⟨p,c,h1,h2,h3,h4,h5⟩:=h
 obtain⟨C,c1,c2⟩:=list_of (P:=fun i cs => ∀ a,Ls[i]? = some a → ∃ bl off,p=some ⟨bl,off,none⟩∧RaS w cs a ∧ ∀ j u,cs[j]? = some u→At bl (off+i*6+j) u w) Ls.length (fun i hi=>by
  obtain⟨bl,off,cs,e,r,q⟩:=h5 i _ (List.getElem?_eq_getElem hi);refine⟨cs,fun a ha=>?_⟩;rw[List.getElem?_eq_getElem hi]at ha;obtain rfl:=Option.some.inj ha
  exact⟨bl,off,e,r,q⟩)
 refine⟨C,⟨p,c,by rw[c1];exact h1,by rw[c1];exact h2,h3,fun e=>?_,fun i cs hi=>?_⟩,c1,fun i cs a hi ha=>?_⟩
 ·have:=(h4 e).1;rw[this]at c1;exact List.eq_nil_of_length_eq_zero c1
 ·have hl:i<Ls.length:=by rw[←c1];exact (List.getElem?_eq_some_iff.1 hi).1
  obtain⟨bl,off,e,r,q⟩:=c2 i cs hi _ (List.getElem?_eq_getElem hl);exact⟨r.shp,bl,off,e,q⟩
 ·obtain⟨bl,off,e,r,q⟩:=c2 i cs hi a ha;exact r
def SlV (w:World) (v:Value) (Ts:List VT):Prop:=∃ C:List (List Value),SlC 3 ShpV w v C∧C.length=Ts.length ∧ ∀ (i:Nat) (cs:List Value) (t:VT),C[i]? = some cs→Ts[i]? = some t→IsV w (.agg cs.toArray) t
theorem SlV.ext {w w':World}{v:Value}{Ts:List VT}(h:SlV w v Ts) (x:Ext w w'):SlV w' v Ts:=by
 obtain⟨C,h1,h2,h3⟩:=h;exact⟨C,h1.ext x,h2,fun i cs t a b=>(h3 i cs t a b).ext x⟩
theorem flat_get {s:Nat}:∀ {C:List (List Value)}(_:∀ e∈C,e.length=s){i:Nat}{e:List Value}(_:C[i]? = some e){j:Nat}(_:j<s),C.flatten[i*s+j]? = e[j]?
 | [],_,i,e,h,_,_=>by simp at h
 | a :: C,hl,0,e,h,j,hj=>by
  simp only[List.getElem?_cons_zero,Option.some.injEq]at h;subst h;have:=hl a (List.mem_cons_self ..);rw[List.flatten_cons,List.getElem?_append_left (by omega)];simp
 | a :: C,hl,i+1,e,h,j,hj=>by
  have:=hl a (List.mem_cons_self ..)
  have e1:(i+1)*s=i*s+s:=by rw[Nat.add_mul,Nat.one_mul]
  rw[List.flatten_cons,List.getElem?_append_right (by omega),this,show (i+1)*s+j - s=i*s+j by omega];exact flat_get (fun e he=>hl e (List.mem_cons_of_mem _ he)) (by simpa using h) hj
theorem slC_lit {s:Nat}{Shp:List Value→Prop}{w:World}{A:Array Value}{t:TypeId}{C:List (List Value)}(hA:A.toList=C.flatten) (hs:∀ e∈C,e.length=s∧Shp e) (n:Nat) (hn:C.length=n) (h1:n≤1000) :
  SlC s Shp (w.alloc (.cells A t)) (.slice (some ⟨w.heap.size,0,none⟩) n n) C:=by
 subst hn;refine⟨_,_,rfl,Nat.le_refl _,by unfold maxLen;omega,fun e=>(by cases e),fun i cs hi=>⟨(hs cs (List.mem_of_getElem? hi)).2,_,0,rfl,fun j u hj=>?_⟩⟩;have hl:=(hs cs (List.mem_of_getElem? hi)).1;have hjl:=(List.getElem?_eq_some_iff.1 hj).1;refine at_new ?_;rw[Nat.zero_add,←Array.getElem?_toList,hA,flat_get (fun e he=>(hs e he).1) hi (by omega),hj]
theorem slV_lit {w:World}{A:Array Value}{t:TypeId}{C:List (List Value)}{Ts:List VT}(hA:A.toList=C.flatten) (hs:∀ e∈C,e.length=3∧ShpV e) (n:Nat) (hn:C.length=n) (h1:n≤1000) (h2:C.length=Ts.length) (h3:∀ (i:Nat) (cs:List Value) (t:VT),C[i]? = some cs→Ts[i]? = some t→IsV w (.agg cs.toArray) t) :
  SlV (w.alloc (.cells A t)) (.slice (some ⟨w.heap.size,0,none⟩) n n) Ts:=⟨C,slC_lit hA hs n hn h1,h2,fun i cs t a b=>(h3 i cs t a b).ext (eR.alloc _)⟩
theorem slS_lit {w:World}{A:Array Value}{t:TypeId}{R:List Sh}(hA:A.toList=flatS R) (hs:∀ e∈R,ElO w e) (n:Nat) (hn:R.length=n) (h1:n≤1000) :
  SlM (w.alloc (.cells A t)) (.slice (some ⟨w.heap.size,0,none⟩) n n) (R.map (·.2)):=by
 subst hn;refine⟨_,R.length,by rw[List.length_map,List.length_map],by rw[List.length_map,List.length_map];exact Nat.le_refl _,by unfold maxLen;omega,fun e=>(by cases e),fun i a hi=>?_⟩;rw[List.map_map,List.getElem?_map]at hi
 cases he:R[i]? with
 | none=>rw[he]at hi;cases hi
 | some e =>
  rw[he]at hi;obtain rfl:=Option.some.inj hi;have hm:=List.mem_of_getElem? he;refine⟨_,0,e.1,rfl,(hs e hm).raS.ext (eR.alloc _),fun j u hj=>at_new ?_⟩;have hl:=(hs e hm).len;have hjl:=(List.getElem?_eq_some_iff.1 hj).1;rw[Nat.zero_add,←Array.getElem?_toList,hA,flatS_get (fun e he=>(hs e he).len) he (by omega),hj]
set_option maxHeartbeats 1000000 in
set_option maxRecDepth 100000 in
theorem of_calls24 {w:World}{v:Value}{Ls:List Ra}(h:SlS w v Ls){D X k K:Nat}(hK:K≤1000) (hK1:1≤K) (hlim:∀ a∈Ls,a.2.2.1.length≤K∧a.2.2.2.length≤K) (hlen:Ls.length≤100000) (hz:∀ a∈Ls,szV a.1≤1000000)
  (hdn:∀ a∈Ls.map ptRa,Dn D X a.2) (hD0:D≠0) (hD:D<Bs^k) (hX:Ls.length*X<Bs^k) (hk1:1≤k) (hk:k≤10000) :
  Calls Tryz.prog 18 #[v] w (GathRet w (Ls.map ptRa)):=by
 obtain⟨C,hC,hl,hr⟩:=h.cells
 have hmk:madeL (fun i=>(Ls.map ptRa)[i]?) C.length=Ls.map ptRa:=by
  rw[hl];have:=madeL_get (Ls.map ptRa)
  rwa [List.length_map]at this
 have hf:MakeFn 60 #[] w C (fun i=>(Ls.map ptRa)[i]?) K:=by
  refine⟨fun args w => Tryz.call60 args w,fun i cs w' hi hx=>?_⟩
  have hil:i<Ls.length:=by rw[←hl];exact (List.getElem?_eq_some_iff.1 hi).1
  have hra:=hr i cs _ hi (List.getElem?_eq_getElem hil);obtain⟨k,n,p,x,y,p1,n1,c1,p2,n2,c2,rfl,hv,ha,hb⟩:=hra;have hlm:=hlim _ (List.getElem_mem hil);refine (itself_calls (w:=w')).mono ?_;rintro z w2 ⟨rfl,x2⟩;refine⟨k,n,p,x,y,(Ls[i]).2.1,p1,n1,c1,p2,n2,c2,?_,x2,fun pt hpt=>?_⟩
  ·rw[List.getElem?_map,List.getElem?_eq_getElem hil];rfl
  ·rw[List.getElem?_map,List.getElem?_eq_getElem hil]at hpt;obtain rfl:=Option.some.inj hpt;exact⟨(hv.ext hx).ext x2,_,_,(ha.ext hx).ext x2,(hb.ext hx).ext x2,rfl,hlm.1,hlm.2,hK1⟩
 have HG:Hid (∀ W,W=w→Calls Tryz.prog 59 #[v,.func (.func 60) #[] #[]] W (GathRet w (Ls.map ptRa))):=fun W hW=>by
  subst hW
  have:=gatherS_calls (D:=D) (X:=X) (k:=k) hC hf hK (by rw[hl];exact hlen) (fun a ha=>by
   rw[hmk]at ha;obtain⟨b,hb,rfl⟩:=List.mem_map.1 ha
   exact hz b hb) (fun a ha=>hdn a (by rw[hmk]at ha;exact ha)) hD0 hD (by rw[hl];exact hX) hk1 hk
  rw[hmk]at this;exact this
 clear hC hl hr hmk hf hlim hz hdn hD0 hD hX hk1 hk hlen hK hK1 h
 go_enter Tryz.func18,Tryz.ntmps18
 go_wp2_with fail;refine (HG.out _ rfl).mono ?_;rintro z w1 ⟨v',out,rfl,h1,h2,h3⟩;have H1:=Hd h1;have H2:=Hd h2;have H3:=Hd h3;clear h1 h2 h3 HG;go_wp2_with fail;go_ret;exact⟨_,_,rfl,H1.out,H2.out,H3.out⟩
theorem one_dn {n:Nat}(h:n≠0):Dn n 1 (Rat.divInt 1 (n:Int)):=by
 refine⟨1,?_,Nat.le_refl _⟩
 have hd:(n:Rat)≠0:=by intro h2;exact h (Rat.natCast_eq_zero_iff.1 h2)
 rw[Rat.divInt_ofNat,Rat.mkRat_eq_div]
 grind
set_option maxHeartbeats 1000000 in
set_option maxRecDepth 100000 in
theorem even_calls {w:World}{v:Value}{Ts:List VT}(h:SlV w v Ts) (hlen:Ts.length≤60000) (hz:∀ t∈Ts,szV t≤1000000) :
  Calls Tryz.prog 9 #[v] w (GathRet w (Ts.map fun t=>(t,Rat.divInt 1 (Ts.length:Int)))):=by
 obtain⟨C,hC,hl,hr⟩:=h;obtain⟨p,c,hv⟩:=slC_len hC;subst hv
 obtain⟨W,hW⟩:∃ W,W=w.alloc (.cells #[.slice p C.length c] 22):=⟨_,rfl⟩
 have XW:Hid (Ext w W):=by rw[hW];exact eR.alloc _
 obtain⟨b,hb⟩:∃ s,w.heap.size=s:=⟨_,rfl⟩
 have B0:Hid (At b 0 (.slice p C.length c) W):=by rw[hW,←hb];exact at_new rfl
 obtain⟨n,hn⟩:∃ n,Ts.length=n:=⟨_,rfl⟩
 rw[hn]at hlen ⊢
 obtain⟨M,hM⟩:∃ M,(Ts.map fun t=>((t,Rat.divInt 1 (n:Int)):Pt))=M:=⟨_,rfl⟩
 rw[hM]
 have hML:M.length=n:=by rw[←hM,List.length_map];exact hn
 have hmk:madeL (fun i=>M[i]?) C.length=M:=by
  rw[hl,hn,←hML];exact madeL_get M
 have hf:MakeFn 45 #[.pointer (some ⟨b,0,none⟩)] W C (fun i=>M[i]?) 1:=by
  refine⟨fun args w => Tryz.call45 args w,fun i cs w' hi hx=>?_⟩
  have hil:i<Ts.length:=by rw[←hl];exact (List.getElem?_eq_some_iff.1 hi).1
  have hra:=hr i cs _ hi (List.getElem?_eq_getElem hil)
  have hshp:ShpV cs:=by
   obtain⟨p',c',-,-,-,-,h5⟩:=hC;exact (h5 i cs hi).1
  obtain⟨k,nn,q,x,y,rfl⟩:=hshp;have:=even1_calls (w:=w') (hra.ext (XW.out.trans hx)) (B0.out.ext hx) (m:=C.length) (c:=c) (by omega) (by omega) (r:=Rat.divInt 1 (n:Int)) (by rw[hl,hn])
  have e:M[i]? = some (Ts[i],Rat.divInt 1 (n:Int)):=by rw[←hM,List.getElem?_map,List.getElem?_eq_getElem hil];rfl
  show Calls _ _ _ _ (MkRet M[i]? 1 w')
  rw[e];exact this
 have HG:Hid (Calls Tryz.prog 44 #[.slice p C.length c,.func (.func 45) #[] #[.pointer (some ⟨b,0,none⟩)]] W (GathRet W M)):=by
  by_cases h0:n=0
  ·have hCe:M = []:=List.eq_nil_of_length_eq_zero (by rw[hML,h0]);have:=gatherV_calls (D:=1) (X:=1) (k:=1) (hC.ext XW.out) hf (by decide) (by omega) (fun a ha=>by rw[hmk,hCe]at ha;cases ha) (fun a ha=>by rw[hmk,hCe]at ha;cases ha) (by decide) (one_lt_pow (by decide)) (by rw[hl,hn,h0];exact Nat.pow_pos Bs_pos) (by decide) (by decide);rw[hmk]at this;exact this
  ·have:=gatherV_calls (D:=n) (X:=1) (k:=1) (hC.ext XW.out) hf (by decide) (by omega) (fun a ha=>by
    rw[hmk,←hM]at ha;obtain⟨t,ht,rfl⟩:=List.mem_map.1 ha
    exact hz t ht) (fun a ha=>by
    rw[hmk,←hM]at ha;obtain⟨t,ht,rfl⟩:=List.mem_map.1 ha
    exact one_dn h0) h0 (by rw[Nat.pow_one];exact small_Bs (by omega)) (by rw[hl,hn,Nat.mul_one,Nat.pow_one];exact small_Bs (by omega)) (by decide) (by decide)
   rw[hmk]at this;exact this
 obtain⟨cl,hcl⟩:∃ m,C.length=m:=⟨_,rfl⟩
 rw[hcl]at HG hW ⊢;have HW:=Hd hW;have HB:=Hd hb;clear hC hl hr hf hmk hM hML hn hlen hz hcl B0 hW hb
 go_enter Tryz.func9,Tryz.ntmps9
 go_wp2_with fail;rw[HB.out,←HW.out];refine HG.out.mono ?_;rintro z w1 ⟨v',out,rfl,h1,h2,h3⟩;have H1:=Hd h1;have H2:=Hd h2;have H3:=Hd (XW.out.trans h3);clear h1 h2 h3 HG HW XW;go_wp2_with fail;go_ret;exact⟨_,_,rfl,H1.out,H2.out,H3.out⟩
end Go.Proofs.YtfofjalebhajhaaGreatDoor
