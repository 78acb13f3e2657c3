/- mass.Join. -/
import Derived.Test.YtfofjalebhajhaaGreatDoorMass15
namespace Go.Proofs.YtfofjalebhajhaaGreatDoor
open Go Go.RowKit
theorem eqIn_func {w:World}(d:Nat){t:TypeId}{ps rs:Array TypeId}{v:Bool}(h:Tryz.prog.underlying t=some (.func ps rs v)) (f:Fn) (a b:Array Value):(Op.equalIn (d+1) t (.func f a b) .nilFunc).run Tryz.prog w = .ok false w:=by
 simp [Op.equalIn,run_underlying h]
theorem eqIn_nil {w:World}(d:Nat){t:TypeId}{ps rs:Array TypeId}{v:Bool}(h:Tryz.prog.underlying t=some (.func ps rs v)):(Op.equalIn (d+1) t .nilFunc .nilFunc).run Tryz.prog w = .ok true w:=by
 simp [Op.equalIn,run_underlying h]
theorem func_nil {w:World}{t:TypeId}{ps rs:Array TypeId}{v:Bool}(h:Tryz.prog.underlying t=some (.func ps rs v)) (f:Fn) (a b:Array Value):(binOp .eql t (.func f a b) .nilFunc).run Tryz.prog w = .ok (.bool false) w:=by
 have e:(Op.equal t (.func f a b) .nilFunc).run Tryz.prog w = .ok false w:=eqIn_func 9999 h f a b;simp [binOp,e]
theorem nil_nil {w:World}{t:TypeId}{ps rs:Array TypeId}{v:Bool}(h:Tryz.prog.underlying t=some (.func ps rs v)):(binOp .eql t .nilFunc .nilFunc).run Tryz.prog w = .ok (.bool true) w:=by
 have e:(Op.equal t .nilFunc .nilFunc).run Tryz.prog w = .ok true w:=eqIn_nil 9999 h;simp [binOp,e]
def pairsL (A B:List Ra):List (Ra × Ra):=A.flatMap fun a=>B.map fun b=>(a,b)
theorem pairsL_succ {A B:List Ra}{i:Nat}{a:Ra}(h:A[i]? = some a):pairsL (A.take (i+1)) B=pairsL (A.take i) B ++ B.map fun b=>(a,b):=by
 unfold pairsL;rw[List.take_add_one,h,List.flatMap_append];simp
theorem pairsL_len (A B:List Ra):(pairsL A B).length=A.length*B.length:=by
 unfold pairsL
 induction A with
 | nil=>simp
 | cons a A ih=>rw[List.flatMap_cons,List.length_append,ih,List.length_map,List.length_cons,Nat.add_mul,Nat.one_mul,Nat.add_comm]
theorem pairsL_mem {A B:List Ra}{p:Ra × Ra}(h:p∈pairsL A B):p.1∈A∧p.2∈B:=by
 unfold pairsL at h;obtain⟨a,ha,h2⟩:=List.mem_flatMap.1 h;obtain⟨b,hb,rfl⟩:=List.mem_map.1 h2;exact⟨ha,hb⟩
def RaP (w:World) (cs:List Value) (p:Ra × Ra):Prop:=∃ ca cb,cs=ca ++ cb∧RaS w ca p.1∧RaS w cb p.2
def Al (w:World) (Cs:List (List Value)) (Ps:List (Ra × Ra)):Prop:=Cs.length=Ps.length ∧ ∀ (i:Nat) (cs:List Value) (p:Ra × Ra),Cs[i]? = some cs→Ps[i]? = some p→RaP w cs p
theorem Al.snoc {w:World}{Cs:List (List Value)}{Ps:List (Ra × Ra)}(h:Al w Cs Ps){cs:List Value}{p:Ra × Ra}(hp:RaP w cs p):Al w (Cs ++ [cs]) (Ps ++ [p]):=by
 refine⟨by simp [h.1],fun i c q hc hq=>?_⟩
 by_cases hi:i<Cs.length
 ·rw[List.getElem?_append_left hi]at hc;rw[List.getElem?_append_left (by rw[←h.1];exact hi)]at hq;exact h.2 i c q hc hq
 ·rw[List.getElem?_append_right (by omega)]at hc;rw[List.getElem?_append_right (by rw[←h.1];omega),←h.1]at hq
  cases hd:i - Cs.length with
  | zero =>
   rw[hd]at hc hq
   simp at hc hq
   rw[←hc,←hq];exact hp
  | succ j=>rw[hd]at hc;simp at hc
theorem AllP.slC {B:Nat}{v:Value}{C:List (List Value)}{w w0:World}{Ps:List (Ra × Ra)}(h:AllP B v C w) (ha:Al w0 C Ps) (hl:C.length≤100000):SlC 12 ShpP w v C:=by
 have hsh:∀ i cs,C[i]? = some cs→ShpP cs:=fun i cs hi=>by
  have hil:=(List.getElem?_eq_some_iff.1 hi).1;obtain⟨ca,cb,rfl,h1,h2⟩:=ha.2 i cs _ hi (List.getElem?_eq_getElem (by rw[←ha.1];exact hil));obtain⟨k,n,p,x,y,s,p1,n1,c1,p2,n2,c2,e1⟩:=h1.shp;obtain⟨k',n',p',x',y',s',p1',n1',c1',p2',n2',c2',e2⟩:=h2.shp;subst e1 e2;exact⟨k,n,p,x,y,s,p1,n1,c1,p2,n2,c2,k',n',p',x',y',s',p1',n1',c1',p2',n2',c2',rfl⟩
 have hrow:=h.row
 rcases h.row.2 with⟨e,h0⟩ | ⟨g,cap,cur,e,-,-,h1,h2,-⟩
 ·have hc:C = []:=List.eq_nil_of_length_eq_zero h0;subst hc;exact⟨none,0,by rw[e];rfl,Nat.le_refl _,Nat.zero_le _,fun _=>rfl,fun i cs hi=>by simp at hi⟩
 ·rw[e]at hrow;refine⟨_,cap,e,h1,h2,fun e2=>(by cases e2),fun i cs hi=>⟨hsh i cs hi,g,0,rfl,fun j u hj=>?_⟩⟩;have hcl:=h.len cs (List.mem_of_getElem? hi);have hjl:=(List.getElem?_eq_some_iff.1 hj).1;have hil:=(List.getElem?_eq_some_iff.1 hi).1;refine⟨?_,(hrow.lt g rfl).2⟩;rw[Nat.zero_add,World.ownsRow.cellAt hrow (i*12+j) (by omega),flat_get h.len hi (by omega),hj]
set_option maxHeartbeats 4000000 in
set_option maxRecDepth 100000 in
theorem join_calls {w:World}{v u:Value}{Ls Ls':List Ra}(h:SlS w v Ls) (h':SlS w u Ls'){G:Nat}{f:VT→VT→VT}(hG:HowFn G f){D X k K:Nat}(hK:K≤500) (hK1:1≤K) (hlim:∀ a∈Ls,a.2.2.1.length≤K∧a.2.2.2.length≤K) (hlim':∀ a∈Ls',a.2.2.1.length≤K∧a.2.2.2.length≤K)
  (hlen:Ls.length*Ls'.length≤60000) (hl1:Ls.length≤60000) (hl2:Ls'.length≤60000) (hz:∀ a∈Ls,szV a.1≤100000) (hz':∀ a∈Ls',szV a.1≤100000) (hzf:∀ p∈pairsL Ls Ls',szV (f p.1.1 p.2.1)≤1000000)
  (hdn:∀ p∈pairsL Ls Ls',Dn D X (qRa p.1*qRa p.2)) (hD0:D≠0) (hD:D<Bs^k) (hX:Ls.length*Ls'.length*X<Bs^k) (hk1:1≤k) (hk:k≤10000) :
  Calls Tryz.prog 26 #[v,u,.func (.func G) #[] #[]] w (GathRet w ((pairsL Ls Ls').map fun p=>(f p.1.1 p.2.1,qRa p.1*qRa p.2))):=by
 have HGA:Hid (∀ W Cs va b,Ext w W→AllP w.heap.size va Cs W→Al w Cs (pairsL Ls Ls')→At b 0 (.func (.func G) #[] #[]) W →
   Calls Tryz.prog 65 #[va,.func (.func 66) #[] #[.pointer (some ⟨b,0,none⟩)]] W (GathRet W ((pairsL Ls Ls').map fun p=>(f p.1.1 p.2.1,qRa p.1*qRa p.2)))):=by
  intro W Cs va b hW hA hal hb
  obtain⟨M,hM⟩:∃ M,((pairsL Ls Ls').map fun p=>((f p.1.1 p.2.1,qRa p.1*qRa p.2):Pt))=M:=⟨_,rfl⟩
  rw[hM]
  have hcl:Cs.length=Ls.length*Ls'.length:=by rw[hal.1,pairsL_len]
  have hML:M.length=Cs.length:=by rw[←hM,List.length_map,hal.1]
  have hmk:madeL (fun i=>M[i]?) Cs.length=M:=by rw[←hML];exact madeL_get M
  have hf:MakeFn 66 #[.pointer (some ⟨b,0,none⟩)] W Cs (fun i=>M[i]?) (K+K):=by
   refine⟨fun args w => Tryz.call66 args w,fun i cs w' hi hx=>?_⟩
   have hil:i<(pairsL Ls Ls').length:=by rw[←hal.1];exact (List.getElem?_eq_some_iff.1 hi).1
   obtain⟨p,hp⟩:∃ p,(pairsL Ls Ls')[i]? = some p:=⟨_,List.getElem?_eq_getElem hil⟩
   have hmem:=pairsL_mem (List.mem_of_getElem? hp);obtain⟨ca,cb,rfl,ha,hbb⟩:=hal.2 i cs p hi hp;obtain⟨k1,n1,p1,x1,y1,q1,c1,d1,r1,e1,f1,rfl,hv1,ha1,hb1⟩:=ha;obtain⟨k2,n2,p2,x2,y2,q2,c2,d2,r2,e2,f2,rfl,hv2,ha2,hb2⟩:=hbb;have hl1:=hlim _ hmem.1;have hl2:=hlim' _ hmem.2
   have e:M[i]? = some (f p.1.1 p.2.1,qRa p.1*qRa p.2):=by rw[←hM,List.getElem?_map,hp];rfl
   show Calls _ _ _ _ (MkRet M[i]? (K+K) w')
   rw[e];have x':=hW.trans hx;exact join1_calls hG (hv1.ext x') (hv2.ext x') ⟨_,_,ha1.ext x',hb1.ext x',rfl,hl1.1,hl1.2,hK1⟩ ⟨_,_,ha2.ext x',hb2.ext x',rfl,hl2.1,hl2.2,hK1⟩ hK (hz _ hmem.1) (hz' _ hmem.2) (hb.ext hx)
  have:=gatherP_calls (D:=D) (X:=X) (k:=k) (hA.slC hal (by omega)) hf (by omega) (by omega) (fun a ha=>by
    rw[hmk,←hM]at ha;obtain⟨t,ht,rfl⟩:=List.mem_map.1 ha
    exact hzf t ht) (fun a ha=>by
    rw[hmk,←hM]at ha;obtain⟨t,ht,rfl⟩:=List.mem_map.1 ha
    exact hdn t ht) hD0 hD (by rw[hcl];exact hX) hk1 hk
  rw[hmk]at this;exact this
 have HAL0:=Hd h;obtain⟨p0,c0,rfl,g1,g2,g3,g4⟩:=h;obtain⟨p1,c1,rfl,g1',g2',g3',g4'⟩:=h';have H4:=Hd g4;have H4':=Hd g4'
 obtain⟨m,hm⟩:∃ m,Ls.length=m:=⟨_,rfl⟩
 obtain⟨m',hm'⟩:∃ m,Ls'.length=m:=⟨_,rfl⟩
 have HM:=Hd hm;have HM':=Hd hm';rw[hm]at hl1;rw[hm']at hl2;rw[hm,hm']at hlen;rw[hm,hm'];have HLE:=Hd hlen;have HL1:=Hd hl1;have HL2:=Hd hl2;clear g1 g2 g3 g4 g1' g2' g3' g4' hm hm' hlim hlim' hlen hl1 hl2 hz hz' hzf hdn hD0 hD hX hk1 hk hK hK1 hG HAL0
 have hfn:∀ w,Sem.run Tryz.prog (binOp BinOp.eql 63 (.func (.func G) #[] #[]) .nilFunc) w = .ok (.bool false) w:=fun w=>func_nil Tryz.underlying63 _ _ _
 have M5:Hid ((m:Int)≤60000):=by show _≤_;have:=HL1.out;omega
 have M5':Hid ((m':Int)≤60000):=by show _≤_;have:=HL2.out;omega
 go_enter Tryz.func26,Tryz.ntmps26
 go_wp2_with fail
 obtain⟨b5,hb5⟩:∃ s,w.heap.size=s:=⟨_,rfl⟩
 obtain⟨W5,hW5⟩:∃ X,X=w.alloc (.cells #[.func (.func G) #[] #[]] 63):=⟨_,rfl⟩
 have X5:Hid (Ext w W5):=by rw[hW5];exact eR.alloc _
 have B5:Hid (At b5 0 (.func (.func G) #[] #[]) W5):=by rw[hW5,←hb5];exact at_new rfl
 have T5:Hid (¬ TyB 92 b5 W5):=by rw[hW5,←hb5];exact ty_new (by decide)
 rw[hb5,←hW5];clear hW5 hfn
 go_loopw [7,16] (fun v7 v16 wr => ∃ i:Nat,v16 = .int .i64 (i:Int)∧i≤m∧Ext w wr∧NP W5 wr ∧ ∃ Cs pa ca,v7 = .slice pa Cs.length ca∧AllP w.heap.size (.slice pa Cs.length ca) Cs wr∧Al w Cs (pairsL (Ls.take i) Ls')) (fun _ v16 _=>m - (intOf v16).toNat)
 case atStart=>exact⟨0,rfl,Nat.zero_le _,X5.out,NP.refl _,[],none,0,rfl,AllP.nil _ _,rfl,fun i cs p h=>by simp at h⟩
 case round =>
  rename World=>wr
  obtain⟨i,rfl,hi,hx,hnp,Cs,pa,ca,rfl,hA,hal⟩:=hrel;have XE:=Hd hx;have NE:=Hd hnp;have HA:=Hd hA;have HAL:=Hd hal;clear hx hnp hA hal
  by_cases hlt:i<m
  ·have hli:(i:Int)<(m:Int):=by omega
   have hl1:(i:Int)+1≤(m:Int):=by omega
   have m5:=M5.out
   have hwi:IntKind.i64.wrap ((i:Int)+1)=((i+1:Nat):Int):=by rw[IntWalk.i64_in _ (by omega)];omega
   obtain⟨aA,haA⟩:∃ y,Ls[i]? = some y:=⟨_,List.getElem?_eq_getElem (by rw[HM.out];exact hlt)⟩
   have HAA:=Hd haA;obtain⟨blA,offA,csA,hpA,hraA,hatA⟩:=H4.out (i) aA haA;have HRA:=Hd hraA;obtain⟨kA,nA,pA,xA,yA,qA,cA,dA,rA,eA,fA,rfl,hviA,hlaA,hldA⟩:=hraA;have HVA:=Hd (hviA.ext XE.out);have HLA:=Hd (hlaA.ext XE.out);have HDA:=Hd (hldA.ext XE.out)
   obtain⟨sA,hsgA⟩:∃ s,aA.2.1=s:=⟨_,rfl⟩
   rw[hsgA]at hatA;have HSGA:=Hd hsgA;have DA0:Hid (At blA (offA+i*6) (.int .u8 (kA:Int)) _):=(hatA 0 (.int .u8 (kA:Int)) rfl).ext XE.out;have DA1:Hid (At blA (offA+i*6+1) (.int .i64 nA) _):=(hatA 1 (.int .i64 nA) rfl).ext XE.out;have DA2:Hid (At blA (offA+i*6+2) (.slice pA xA yA) _):=(hatA 2 (.slice pA xA yA) rfl).ext XE.out;have DA3:Hid (At blA (offA+i*6+3) (.bool sA) _):=(hatA 3 (.bool sA) rfl).ext XE.out;have DA4:Hid (At blA (offA+i*6+4) (.slice qA cA dA) _):=(hatA 4 (.slice qA cA dA) rfl).ext XE.out;have DA5:Hid (At blA (offA+i*6+5) (.slice rA eA fA) _):=(hatA 5 (.slice rA eA fA) rfl).ext XE.out;clear haA hatA hviA hlaA hldA hsgA;have h0:=DA0.out.1;have h1:=DA1.out.1;have h2:=DA2.out.1;have h3:=DA3.out.1;have h4:=DA4.out.1;have h5:=DA5.out.1;subst hpA;have fb:=DA5.out.2;have LT:=Hd hlt;clear hi m5 hlt;go_wp2_with fail
   obtain⟨b9,hb9⟩:∃ s,wr.heap.size=s:=⟨_,rfl⟩
   obtain⟨W9,hW9⟩:∃ X,X=wr.alloc (.cells #[.int .u8 (kA:Int),.int .i64 nA,.slice pA xA yA,.bool sA,.slice qA cA dA,.slice rA eA fA] 47):=⟨_,rfl⟩
   have X9:Hid (Ext wr W9):=by rw[hW9];exact eR.alloc _
   have T9:Hid (¬ TyB 92 b9 W9):=by rw[hW9,←hb9];exact ty_new (by decide)
   have B90:Hid (At b9 0 (.int .u8 (kA:Int)) W9):=by rw[hW9,←hb9];exact at_new rfl
   have B91:Hid (At b9 1 (.int .i64 nA) W9):=by rw[hW9,←hb9];exact at_new rfl
   have B92:Hid (At b9 2 (.slice pA xA yA) W9):=by rw[hW9,←hb9];exact at_new rfl
   have B93:Hid (At b9 3 (.bool sA) W9):=by rw[hW9,←hb9];exact at_new rfl
   have B94:Hid (At b9 4 (.slice qA cA dA) W9):=by rw[hW9,←hb9];exact at_new rfl
   have B95:Hid (At b9 5 (.slice rA eA fA) W9):=by rw[hW9,←hb9];exact at_new rfl
   rw[hb9,←hW9];clear hW9 hb9 h0 h1 h2 h3 h4 h5 fb
   go_loopw [7,22] (fun v7 v22 wi => ∃ j:Nat,v22 = .int .i64 (j:Int)∧j≤m'∧Ext w wi∧NP W9 wi ∧ ∃ Cs pa ca,v7 = .slice pa Cs.length ca∧AllP w.heap.size (.slice pa Cs.length ca) Cs wi∧Al w Cs (pairsL (Ls.take i) Ls' ++ (Ls'.take j).map fun b=>(aA,b))) (fun _ v22 _=>m' - (intOf v22).toNat)
   case atStart=>exact⟨0,rfl,Nat.zero_le _,XE.out.trans X9.out,NP.refl _,Cs,pa,ca,rfl,HA.out.ext X9.out,by simpa using HAL.out⟩
   case round =>
    rename World=>wi
    obtain⟨j,rfl,hj,hx,hnp,Cs2,pb,cb,rfl,hA,hal⟩:=hrel;have XI:=Hd hx;have NI:=Hd hnp;have HA2:=Hd hA;have HAL2:=Hd hal;clear hx hnp hA hal
    by_cases hlt:j<m'
    ·have hlj:(j:Int)<(m':Int):=by omega
     have hlj1:(j:Int)+1≤(m':Int):=by omega
     have m5:=M5'.out
     have hwj:IntKind.i64.wrap ((j:Int)+1)=((j+1:Nat):Int):=by rw[IntWalk.i64_in _ (by omega)];omega
     obtain⟨aB,haB⟩:∃ y,Ls'[j]? = some y:=⟨_,List.getElem?_eq_getElem (by rw[HM'.out];exact hlt)⟩
     have HAB:=Hd haB;obtain⟨blB,offB,csB,hpB,hraB,hatB⟩:=H4'.out (j) aB haB;have HRB:=Hd hraB;obtain⟨kB,nB,pB,xB,yB,qB,cB,dB,rB,eB,fB,rfl,hviB,hlaB,hldB⟩:=hraB;have HVB:=Hd (hviB.ext XI.out);have HLB:=Hd (hlaB.ext XI.out);have HDB:=Hd (hldB.ext XI.out)
     obtain⟨sB,hsgB⟩:∃ s,aB.2.1=s:=⟨_,rfl⟩
     rw[hsgB]at hatB;have HSGB:=Hd hsgB;have DB0:Hid (At blB (offB+j*6) (.int .u8 (kB:Int)) _):=(hatB 0 (.int .u8 (kB:Int)) rfl).ext XI.out;have DB1:Hid (At blB (offB+j*6+1) (.int .i64 nB) _):=(hatB 1 (.int .i64 nB) rfl).ext XI.out;have DB2:Hid (At blB (offB+j*6+2) (.slice pB xB yB) _):=(hatB 2 (.slice pB xB yB) rfl).ext XI.out;have DB3:Hid (At blB (offB+j*6+3) (.bool sB) _):=(hatB 3 (.bool sB) rfl).ext XI.out;have DB4:Hid (At blB (offB+j*6+4) (.slice qB cB dB) _):=(hatB 4 (.slice qB cB dB) rfl).ext XI.out;have DB5:Hid (At blB (offB+j*6+5) (.slice rB eB fB) _):=(hatB 5 (.slice rB eB fB) rfl).ext XI.out;clear haB hatB hviB hlaB hldB hsgB;have h0:=DB0.out.1;have h1:=DB1.out.1;have h2:=DB2.out.1;have h3:=DB3.out.1;have h4:=DB4.out.1;have h5:=DB5.out.1;have y0:=(B90.out.np NI.out T9.out).1;have y1:=(B91.out.np NI.out T9.out).1;have y2:=(B92.out.np NI.out T9.out).1;have y3:=(B93.out.np NI.out T9.out).1;have y4:=(B94.out.np NI.out T9.out).1;have y5:=(B95.out.np NI.out T9.out).1;subst hpB;have fb:=DB5.out.2;have fy:=(B95.out.np NI.out T9.out).2;have LTJ:=Hd hlt
     have HCL:Hid (Cs2.length≤100000):=by
      show _≤_
      rw[HAL2.out.1,List.length_append,pairsL_len,List.length_take,List.length_map,List.length_take,HM.out,HM'.out];have h1:=LT.out;have h2:(i+1)*m'≤m*m':=Nat.mul_le_mul_right m' h1;rw[Nat.add_mul,Nat.one_mul]at h2;have h3:=HLE.out;rw[Nat.min_eq_left (Nat.le_of_lt h1),Nat.min_eq_left hj];omega
     have HT:Hid ((Ls'.take (j+1)).map (fun b=>(aA,b))=(Ls'.take j).map (fun b=>(aA,b)) ++ [(aA,aB)]):=by show _=_;rw[List.take_add_one,HAB.out];simp
     have HRP:Hid (RaP w [.int .u8 (kA:Int),.int .i64 nA,.slice pA xA yA,.bool sA,.slice qA cA dA,.slice rA eA fA,.int .u8 (kB:Int),.int .i64 nB,.slice pB xB yB,.bool sB,.slice qB cB dB,.slice rB eB fB] (aA,aB)):=by
      have h1:=HRA.out;have h2:=HRB.out;rw[HSGA.out]at h1;rw[HSGB.out]at h2;exact⟨[.int .u8 (kA:Int),.int .i64 nA,.slice pA xA yA,.bool sA,.slice qA cA dA,.slice rA eA fA],[.int .u8 (kB:Int),.int .i64 nB,.slice pB xB yB,.bool sB,.slice qB cB dB,.slice rB eB fB],rfl,h1,h2⟩
     clear hj m5 hlt
     go_wp2_with (at_builtin;refine append_pair (B:=w.heap.size) (R:=Cs2) (e:=[.int .u8 (kA:Int),.int .i64 nA,.slice pA xA yA,.bool sA,.slice qA cA dA,.slice rA eA fA,.int .u8 (kB:Int),.int .i64 nB,.slice pB xB yB,.bool sB,.slice qB cB dB,.slice rB eB fB]) rfl _ _ 90 Tryz.underlying90 rfl rfl rfl rfl rfl (by first | rfl | exact (Array.size_push ..).symm | simp) rfl (HA2.out.ext (eR.alloc _)) rfl (by intro u hu;simp only[List.mem_cons,List.not_mem_nil,or_false]at hu;rcases hu with rfl | rfl | rfl | rfl | rfl | rfl | rfl | rfl | rfl | rfl | rfl | rfl <;> rfl) HCL.out (Nat.le_trans XI.out.size (eR.alloc _).size) ?_;intro v' w' hv' hb' hn';have HV:=Hd hv';have HB:=Hd hb';have HN:=Hd hn';clear hv' hb' hn')
     obtain⟨pb2,cb2,hvs⟩:=HV.out.slice;have HV2:=HV.out;rw[hvs]at HV2;refine⟨⟨j+1,by first | rfl | simp | rw[hwj],LTJ.out,Ext.below (XI.out.alloc _) HB.out,NI.out.trans ((Ext.np (eR.alloc _)).trans HN.out),Cs2 ++ [[.int .u8 (kA:Int),.int .i64 nA,.slice pA xA yA,.bool sA,.slice qA cA dA,.slice rA eA fA,.int .u8 (kB:Int),.int .i64 nB,.slice pB xB yB,.bool sB,.slice qB cB dB,.slice rB eB fB]],pb2,cb2,hvs,HV2,?_⟩,by simp only[intOf];have:=LTJ.out;omega⟩;rw[HT.out,←List.append_assoc];exact HAL2.out.snoc HRP.out
    ·have hlj:¬ (j:Int)<(m':Int):=by omega
     have hjm:j=m':=by omega
     rw[hjm,List.take_of_length_le (l:=Ls') (by rw[HM'.out];exact Nat.le_refl _)]at HAL2;clear hj hlt hjm;go_wp2_with fail;refine⟨⟨i+1,by first | rfl | simp | rw[hwi],LT.out,XI.out,NE.out.trans (X9.out.np.trans NI.out),Cs2,pb,cb,rfl,HA2.out,?_⟩,by simp only[intOf];have:=LT.out;omega⟩;rw[pairsL_succ HAA.out];exact HAL2.out
  ·have hli:¬ (i:Int)<(m:Int):=by omega
   have him:i=m:=by omega
   rw[him,List.take_of_length_le (by rw[HM.out];exact Nat.le_refl _)]at HAL;have HB5:=Hd (B5.out.np NE.out T5.out);have HGB:=Hd (HGA.out wr Cs _ b5 XE.out HA.out HAL.out HB5.out)
   obtain⟨cl,hcl⟩:∃ n,Cs.length=n:=⟨_,rfl⟩
   rw[hcl]at HGB ⊢;clear hlt hi him hcl;go_wp2_with fail;refine HGB.out.mono ?_;rintro z w1 ⟨v',out,rfl,h1,h2,h3⟩;have H1:=Hd h1;have H2:=Hd h2;have H3:=Hd (XE.out.trans h3);clear h1 h2 h3 HGB;go_wp2_with fail;go_ret;exact⟨_,_,rfl,H1.out,H2.out,H3.out⟩
end Go.Proofs.YtfofjalebhajhaaGreatDoor
