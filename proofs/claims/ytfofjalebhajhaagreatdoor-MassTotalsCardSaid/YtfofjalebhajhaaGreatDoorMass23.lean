/- slices.Grow, slices.Concat of shares; mass.Add. -/
import Derived.Test.YtfofjalebhajhaaGreatDoorMassTot
import Derived.Test.YtfofjalebhajhaaGreatDoorMass21
import Derived.Lib.AppendZeros
namespace Go.Proofs.YtfofjalebhajhaaGreatDoor
open Go Go.RowKit
theorem flat6:∀ {C:List (List Value)}(_:∀ e∈C,e.length=6),C.flatten.length=C.length*6
 | [],_=>by simp
 | a :: C,hl=>by
  have h1:=hl a (List.mem_cons_self ..)
  have h2:=flat6 (C:=C) fun e he=>hl e (List.mem_cons_of_mem _ he)
  rw[List.flatten_cons,List.length_append,h1,h2,List.length_cons];omega
theorem SlS.rows {w:World}{v:Value}{Ls:List Ra}(h:SlS w v Ls):∃ C:List (List Value),AlR w C Ls∧(∀ e∈C,e.length=6)∧(∀ u∈C.flatten,u.oneCell'=true)∧Sl 6 w v C.length C.flatten:=by
 have hs:=h;obtain⟨C,hC,hl,hr⟩:=SlS.cells h
 have hra:∀ e∈C,∃ a,RaS w e a:=fun e he=>by
  obtain⟨i,hi⟩:=List.getElem?_of_mem he
  have hil:i<Ls.length:=by rw[←hl];exact (List.getElem?_eq_some_iff.1 hi).1
  exact⟨_,hr i e _ hi (List.getElem?_eq_getElem hil)⟩
 have h6:∀ e∈C,e.length=6:=fun e he=>by
  obtain⟨a,k,n,p,x,y,p1,n1,c1,p2,n2,c2,rfl,-⟩:=hra e he;rfl
 refine⟨C,⟨hl,hr⟩,h6,fun u hu=>?_,flat6 h6,?_⟩
 ·obtain⟨e,he,hu⟩:=List.mem_flatten.1 hu;obtain⟨a,k,n,p,x,y,p1,n1,c1,p2,n2,c2,rfl,-⟩:=hra e he;simp only[List.mem_cons,List.not_mem_nil,or_false]at hu
  rcases hu with rfl | rfl | rfl | rfl | rfl | rfl <;> rfl
 ·obtain⟨p,c,e1,g1,g2,g3,-⟩:=hs;obtain⟨p',c',e2,-,-,-,q5⟩:=hC;rw[e1]at e2
  injection e2 with e2 e3 e4
  subst e2;refine⟨p,c,by rw[e1,hl],by omega,g2,fun e=>?_,fun a ha h0=>?_⟩
  ·obtain⟨q1,q2⟩:=g3 e;exact⟨by rw[hl,q1];rfl,q2⟩
  ·obtain⟨-,bl,off,e,q⟩:=q5 0 _ (List.getElem?_eq_getElem h0);rw[ha]at e
   injection e with e
   subst e;have hlt:=(q 0 _ (List.getElem?_eq_getElem (by rw[h6 _ (List.getElem_mem h0)];decide))).2;refine⟨rfl,hlt,fun j hj=>?_⟩
   have hj6:j / 6<C.length:=by rw[flat6 h6]at hj;omega
   have hr6:j % 6<6:=Nat.mod_lt _ (by decide);obtain⟨-,bl',off',e',q'⟩:=q5 (j / 6) _ (List.getElem?_eq_getElem hj6);rw[ha]at e'
   injection e' with e'
   injection e' with e1' e2'
   subst e1' e2';have hm:=List.getElem?_eq_getElem (l:=C[j / 6]) (i:=j % 6) (by rw[h6 _ (List.getElem_mem hj6)];exact hr6);have hc:=(q' (j % 6) _ hm).1;have hf:=flat_get h6 (List.getElem?_eq_getElem hj6) hr6;rw[show j / 6*6+j % 6=j by omega,hm,List.getElem?_eq_getElem hj]at hf
   injection hf with hf
   rw[show off+j / 6*6+j % 6=off+j by omega]at hc;rw[hc,hf]
theorem AlR.nil (w:World):AlR w [] []:=⟨rfl,fun i cs p h=>by simp at h⟩
theorem AlR.app {w:World}{Cs C:List (List Value)}{Ps L:List Ra}(h:AlR w Cs Ps) (g:AlR w C L):AlR w (Cs ++ C) (Ps ++ L):=by
 refine⟨by rw[List.length_append,List.length_append,h.1,g.1],fun i c q hc hq=>?_⟩
 by_cases hi:i<Cs.length
 ·rw[List.getElem?_append_left hi]at hc;rw[List.getElem?_append_left (by rw[←h.1];exact hi)]at hq;exact h.2 i c q hc hq
 ·rw[List.getElem?_append_right (by omega)]at hc;rw[List.getElem?_append_right (by rw[←h.1];omega),←h.1]at hq;exact g.2 _ c q hc hq
theorem append_rows {w:World}{ops:Array Oper}{rest:List Oper}{o:Oper}{a:Act}{Q:Exit→Act→World→Prop}(hgd:o.guard=none) (s x:Operand) (t:TypeId) (ht:Tryz.prog.underlying t=some (.slice 47))
  (ho:o.op = .call { callee:=.builtin .append,args:=#[s,x],argTypes:=#[t,t] }){B:Nat}{v u:Value}{R C:List (List Value)}(hs:a.eval s=v) (hx:a.eval x=u)
  (hA:AllR B v R w) (hC:Sl 6 w u C.length C.flatten) (h6:∀ e∈C,e.length=6) (h1:∀ u∈C.flatten,u.oneCell'=true) (hlen:R.length+C.length≤100000) (hB:B≤w.heap.size)
  (h:∀ v' w',AllR B v' (R ++ C) w'→Below B w w'→wpList Tryz.prog ops Q rest (a.put o.dst v') w'):wpList Tryz.prog ops Q (o :: rest) a w:=by
 refine wpList_append_sl hgd s x t ho B 47 _ 6 96 ht info_share rfl (by decide) v R.length R.flatten hs hA.row u C.length C.flatten hx hC h1 (by unfold maxLen;omega) (by omega) hB fun v' w' h3 hg=>?_
 refine h v' w' ⟨?_,fun y hy=>?_⟩ ((Below.refl _ _).grown hg hB fun k hk=>?_)
 ·rw[List.length_append,List.flatten_append];exact h3
 ·rcases List.mem_append.1 hy with hy | hy
  ·exact hA.len y hy
  ·exact h6 y hy
 ·rcases hA.row.2 with⟨e,-⟩ | ⟨g',cap,cur,e,hg',-⟩
  ·rw[e]at hk;cases hk
  ·rw[e]at hk
   have e:g'=k:=by injection hk
   omega
set_option maxHeartbeats 2000000 in
set_option maxRecDepth 100000 in
theorem grow_nil (w:World) (n:Nat) (hn:n≤100000):Calls Tryz.prog 99 #[.slice none 0 0,.int .i64 (n:Int)] w fun z w' => ∃ p c,z = .returned (.slice p 0 c)∧AllR w.heap.size (.slice p 0 c) [] w'∧Ext w w':=by
 have hw:IntKind.i64.wrap (n:Int)=(n:Int):=IntWalk.i64_in _ (by omega)
 have hw2:wrap64 (n:Int)=(n:Int):=by unfold wrap64;omega
 have hl0:¬ ((n:Int)<0):=by omega
 by_cases h0:n=0
 ·subst h0;clear hn hw hw2 hl0
  go_enter Tryz.func99,Tryz.ntmps99
  go_wp2_with fail;go_ret;exact⟨none,0,rfl,AllR.nil _ _,Ext.refl _⟩
 ·have hp:(0:Int)<(n:Int):=by omega
  obtain⟨i,hi,hz,hsize,hby⟩:=info_parts info_share;have hge:=grownCap_ge w n 0 47;have hgm:=grownCap_le_maxLen w n 0 47 (by unfold maxLen;omega)
  have hr:∀ ty,(Builtin.append_ #[25, 3] ty #[.slice none 0 0,.int .i64 (n:Int)]).run Tryz.prog w=_:=fun ty=>Lib.run_append_nil_zeros w 25 3 ty 47 i _ .i64 .i64 Tryz.underlying25 Tryz.underlying3 hi hz n (by omega) (by omega) (by omega) (by rw[hby];omega)
  obtain⟨G,hG⟩:∃ G,grownCap w n 0 47 = G:=⟨_,rfl⟩
  rw[hG]at hge hgm;rw[hG]at hr
  obtain⟨cur,hcur⟩:∃ cur,Builtin.zeroCells (Value.agg #[.int .u8 0,.int .i64 0,.slice none 0 0,.bool false,.slice none 0 0,.slice none 0 0]).cells n ++ Builtin.zeroCells (Value.agg #[.int .u8 0,.int .i64 0,.slice none 0 0,.bool false,.slice none 0 0,.slice none 0 0]).cells (G - n)=cur:=⟨_,rfl⟩
  have hcs:cur.size=G*6:=by
   rw[←hcur];simp only[Array.size_append,size_zeroCells,show (Value.agg #[.int .u8 0,.int .i64 0,.slice none 0 0,.bool false,.slice none 0 0,.slice none 0 0]).cells.size=6 from rfl];omega
  rw[hcur]at hr;have X:Hid (Ext w (w.drew.alloc (.cells cur 47))):=((Ext.refl w).drew).alloc _
  have HA:Hid (AllR w.heap.size (.slice (some ⟨w.heap.size,0,none⟩) 0 G) [] (w.drew.alloc (.cells cur 47))):=⟨World.ownsRow_made w.drew cur G (Nat.le_refl _) hgm hcs,fun e h=>by cases h⟩
  have HR:=Hd hr
  have hg0:(G:Int)≤9223372036854775807:=by unfold maxLen at hgm;omega
  clear hr hcs hcur hG hi hz hsize hby h0 hn hge hgm
  go_enter Tryz.func99,Tryz.ntmps99
  go_wp2_with (at_builtin;refine Lib.wpList_append_run _ rfl _ _ _ _ rfl _ _ rfl rfl _ _ (HR.out _) ?_)
  go_ret;exact⟨_,_,rfl,HA.out,X.out⟩
set_option maxHeartbeats 4000000 in
set_option maxRecDepth 100000 in
theorem concat_calls {w:World}{v:Value}{Lss:List (List Ra)}(h:SlL w v Lss) (hm:Lss.length≤100) (hn:lenS Lss≤100000) :
  Calls Tryz.prog 69 #[v] w fun z w' => ∃ v',z = .returned v'∧SlS w' v' Lss.flatten∧Ext w w':=by
 obtain⟨s,rfl,h4⟩:=h
 obtain⟨m,hml⟩:∃ m,Lss.length=m:=⟨_,rfl⟩
 have H4:=Hd h4;have HM:=Hd hml;rw[hml]at hm ⊢;have M5:=Hd hm;have HN:=Hd hn
 have HLE:Hid (∀ i,lenS (Lss.take i)≤lenS Lss):=fun i=>by
  have:=lenS_app (Lss.take i) (Lss.drop i);rw[List.take_append_drop]at this;omega
 have HFL:Hid (∀ i,((Lss.take i).flatten).length=lenS (Lss.take i)):=fun i=>by
  generalize Lss.take i=L
  induction L with
  | nil=>rfl
  | cons a L ih=>rw[List.flatten_cons,List.length_append,ih];rfl
 clear h4 hml hm hn
 go_enter Tryz.func69,Tryz.ntmps69
 go_wp2_with fail
 go_loopw [3,11] (fun v3 v11 wr => ∃ i n:Nat,v3 = .int .i64 (n:Int)∧v11 = .int .i64 (i:Int)∧i≤m∧n≤100000∧wr=w∧Hid (lenS (Lss.take i)=n)) (fun _ v11 _=>m - (intOf v11).toNat)
 case atStart=>exact⟨0,0,rfl,rfl,Nat.zero_le _,Nat.zero_le _,rfl,rfl⟩
 case round =>
  rename World=>wr
  obtain⟨i,n,rfl,rfl,hi,hn,rfl,HW⟩:=hrel;have HNN:=Hd hn
  by_cases hlt:i<m
  ·have hli:(i:Int)<(m:Int):=by omega
   have hl1:(i:Int)+1≤(m:Int):=by omega
   have m5:=M5.out
   have hwi:IntKind.i64.wrap ((i:Int)+1)=((i+1:Nat):Int):=by rw[IntWalk.i64_in _ (by omega)];omega
   obtain⟨L,hL⟩:∃ y,Lss[i]? = some y:=⟨_,List.getElem?_eq_getElem (by rw[HM.out];exact hlt)⟩
   obtain⟨u,hu,hsl⟩:=H4.out i L hL;have HU:=Hd hu;obtain⟨p,c,rfl,g1,g2,g3,g4⟩:=hsl;unfold maxLen at g2
   have hnx:lenS (Lss.take (i+1))=n+L.length:=by rw[lenS_take hL,HW.out]
   have hnl:n+L.length≤100000:=by rw[←hnx];exact Nat.le_trans (HLE.out _) HN.out
   obtain⟨len,hlen⟩:∃ n,L.length=n:=⟨_,rfl⟩
   rw[hlen]at HU g1 hnx hnl;have HNX:=Hd hnx;have HNL:=Hd hnl;have h0:=HU.out.1;have fb:=HU.out.2
   have hlm:(len:Int)≤9223372036854775807:=by omega
   have hwn:IntKind.i64.wrap ((n:Int)+(len:Int))=((n+len:Nat):Int):=by rw[IntWalk.i64_in _ (by omega)];omega
   have hng:¬ (((n+len:Nat):Int)<0):=by omega
   have hng2:¬ ((n:Int)+(len:Int)<0):=by omega
   have LT:=Hd hlt;clear hL hu g1 g2 g3 g4 hnx hlen m5 hn hi hlt hnl;go_wp2_with fail;exact⟨⟨i+1,n+len,by first | rfl | simp | rw[hwn],by first | rfl | simp | rw[hwi],LT.out,HNL.out,by first | rfl | trivial,HNX.out⟩,by simp only[intOf];have:=LT.out;omega⟩
  ·have hli:¬ (i:Int)<(m:Int):=by omega
   have him:i=m:=by omega
   have HG:=Hd (grow_nil wr n hn);clear hi hlt him hn HW;go_wp2_with fail;refine HG.out.mono ?_;rintro z w1 ⟨q0,d0,rfl,hA0,hx0⟩;have HA0:=Hd hA0;have X0:=Hd hx0;clear hA0 hx0 HG;go_wp2_with fail
   go_loopw [6,27] (fun v6 v27 wi => ∃ (j:Nat) (Cs:List (List Value)) (pa:Option Addr) (ca:Nat),v27 = .int .i64 (j:Int)∧v6 = .slice pa Cs.length ca∧j≤m∧Ext wr wi∧AllR wr.heap.size (.slice pa Cs.length ca) Cs wi∧AlR wr Cs (Lss.take j).flatten) (fun _ v27 _=>m - (intOf v27).toNat)
   case atStart=>exact⟨0,[],q0,d0,rfl,rfl,Nat.zero_le _,X0.out,HA0.out,by rw[List.take_zero];exact AlR.nil _⟩
   case round =>
    rename World=>wi
    obtain⟨j,Cs,pa,ca,rfl,rfl,hj,hx,hA,hal⟩:=hrel;have XI:=Hd hx;have HA:=Hd hA;have HAL:=Hd hal;clear hx hA hal
    by_cases hlt:j<m
    ·have hlj:(j:Int)<(m:Int):=by omega
     have hlj1:(j:Int)+1≤(m:Int):=by omega
     have m5:=M5.out
     have hwj:IntKind.i64.wrap ((j:Int)+1)=((j+1:Nat):Int):=by rw[IntWalk.i64_in _ (by omega)];omega
     obtain⟨L,hL⟩:∃ y,Lss[j]? = some y:=⟨_,List.getElem?_eq_getElem (by rw[HM.out];exact hlt)⟩
     obtain⟨u,hu,hsl⟩:=H4.out j L hL;obtain⟨C,hC1,hC6,hC7,hC8⟩:=hsl.rows;obtain⟨p,c,rfl,-⟩:=hsl;have HU:=Hd hu;have h0:=(HU.out.ext XI.out).1;have fb:=(HU.out.ext XI.out).2;have HC1:=Hd hC1;have HC6:=Hd hC6;have HC7:=Hd hC7;have HC8:=Hd (hC8.ext XI.out)
     have HTK:Hid ((Lss.take (j+1)).flatten=(Lss.take j).flatten ++ L):=by show _=_;rw[List.take_add_one,hL,List.flatten_append];simp
     have HCL:Hid (Cs.length+C.length≤100000):=by
      show _≤_
      rw[HAL.out.1,HC1.out.1,←List.length_append,←HTK.out,HFL.out];exact Nat.le_trans (HLE.out _) HN.out
     have LT:=Hd hlt;clear hL hu hC1 hC6 hC7 hC8 m5 hj hlt
     go_wp2_with (at_builtin;refine append_rows (B:=wr.heap.size) (R:=Cs) (C:=C) rfl _ _ 25 Tryz.underlying25 rfl rfl rfl HA.out HC8.out HC6.out HC7.out HCL.out XI.out.size ?_;intro v' w' hv' hb';have HV':=Hd hv';have HB':=Hd hb';clear hv' hb')
     obtain⟨pb,cb,hvs⟩:=HV'.out.slice;have HV2:=HV'.out;rw[hvs]at HV2 ⊢;have HVR:=Hd HV2;clear HV2
     have HAL2:Hid (AlR wr (Cs ++ C) (Lss.take (j+1)).flatten):=by show AlR _ _ _;rw[HTK.out];exact HAL.out.app HC1.out
     exact⟨⟨j+1,Cs ++ C,pb,cb,by first | rfl | simp | rw[hwj],rfl,LT.out,Ext.below XI.out HB'.out,HVR.out,HAL2.out⟩,by simp only[intOf];have:=LT.out;omega⟩
    ·have hlj:¬ (j:Int)<(m:Int):=by omega
     have hjm:j=m:=by omega
     rw[hjm,List.take_of_length_le (by rw[HM.out];exact Nat.le_refl _)]at HAL;clear hj hlt hjm;go_wp2_with fail;go_ret;exact⟨_,rfl,HA.out.slS HAL.out XI.out,XI.out⟩
theorem addM_calls {w:World}{v u:Value}{A B:List Pt}(h:SlM w v A) (h':SlM w u B){D X k K:Nat}(hK:K≤1000) (hK1:1≤K) (hl:∀ a∈A ++ B,LenR K a.2) (hlen:A.length+B.length≤100000) (hz:∀ a∈A ++ B,szV a.1≤1000000)
  (hdn:∀ a∈A ++ B,Dn D X a.2) (hD0:D≠0) (hD:D<Bs^k) (hX:(A.length+B.length)*X<Bs^k) (hk1:1≤k) (hk:k≤10000):Calls Tryz.prog 30 #[v,u] w (GathRet w (A ++ B)):=by
 obtain⟨p,c,rfl⟩:=h.shape;obtain⟨q,d,rfl⟩:=h'.shape
 have HO:Hid (∀ W v',SlM W v' (A ++ B)→Calls Tryz.prog 18 #[v'] W (GathRet W (A ++ B))):=fun W v' hs=>ofM_calls hs hK hK1 hl (by rw[List.length_append];exact hlen) hz hdn hD0 hD (by rw[List.length_append];exact hX) hk1 hk
 have HC:Hid (∀ W s,W.heap.size=s→Ext w W→Calls Tryz.prog 69 #[.slice (some ⟨s,0,none⟩) 2 2] (W.alloc (.cells #[.slice p A.length c,.slice q B.length d] 25)) fun z w' => ∃ v',z = .returned v'∧SlM w' v' (A ++ B)∧Ext W w'):=fun W s hs hW=>by
  have X:Ext W (W.alloc (.cells #[.slice p A.length c,.slice q B.length d] 25)):=eR.alloc _
  have hL:SlL (W.alloc (.cells #[.slice p A.length c,.slice q B.length d] 25)) (.slice (some ⟨s,0,none⟩) 2 2) [A.map raPt,B.map raPt]:=⟨s,rfl,fun i L hi=>by
   match i,hi with
   | 0,hi=>simp only[List.getElem?_cons_zero,Option.some.injEq]at hi;subst hi;exact⟨_,by rw[←hs];exact at_new rfl,SlS.ext h (hW.trans X)⟩
   | 1,hi=>simp only[List.getElem?_cons_zero,List.getElem?_cons_succ,Option.some.injEq]at hi;subst hi;exact⟨_,by rw[←hs];exact at_new rfl,SlS.ext h' (hW.trans X)⟩
   | i+2,hi=>simp at hi⟩
  refine (concat_calls hL (by simp) (by simp only[lenS,List.length_map];omega)).mono ?_;rintro z w' ⟨v',rfl,h1,h2⟩;refine⟨v',rfl,?_,X.trans h2⟩;unfold SlM;rw[List.map_append]
  simpa using h1
 clear h h' hK hK1 hl hlen hz hdn hD0 hD hX hk1 hk
 go_enter Tryz.func30,Tryz.ntmps30
 go_wp2_with fail;refine (HC.out _ _ rfl eR).mono ?_;rintro z w1 ⟨v1,rfl,h1,x1⟩;have H1:=Hd h1;have X1:=Hd x1;clear h1 x1 HC;go_wp2_with fail;refine (HO.out _ _ H1.out).mono ?_;rintro z w2 ⟨v2,out,rfl,h1,h2,h3⟩;have H1:=Hd h1;have H2:=Hd h2;have H3:=Hd (X1.out.trans h3);clear h1 h2 h3 HO;go_wp2_with fail;go_ret;exact⟨_,_,rfl,H1.out,H2.out,H3.out⟩
end Go.Proofs.YtfofjalebhajhaaGreatDoor
