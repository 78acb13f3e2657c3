/- gather's walk. -/
import Derived.Test.YtfofjalebhajhaaGreatDoorMass7
namespace Go.Proofs.YtfofjalebhajhaaGreatDoor
open Go Go.RowKit
set_option maxHeartbeats 4000000 in
set_option maxRecDepth 100000 in
theorem gatherV_calls {F:Nat}{caps:Array Value}{w:World}{v:Value}{C:List (List Value)}{mk:Nat→Option Pt}{K D X k:Nat}(hC:SlC 3 ShpV w v C) (hF:MakeFn F caps w C mk K) (hK:K≤1000) (hlen:C.length≤100000)
  (hsz:∀ a∈madeL mk C.length,szV a.1≤1000000) (hdn:∀ a∈madeL mk C.length,Dn D X a.2) (hD0:D≠0) (hD:D<Bs^k) (hX:C.length*X<Bs^k) (hk1:1≤k) (hk:k≤10000) :
  Calls Tryz.prog 44 #[v,.func (.func F) #[] caps] w fun z w' => ∃ v' out,z = .returned v'∧Gath (madeL mk C.length) out∧SlM w' v' out∧Ext w w':=by
 obtain⟨p,c,rfl,hc1,hc2,hc3,hc4⟩:=hC;have eF:=hF.enter;have FF:=Hd hF;clear hF
 obtain⟨n,hn⟩:∃ n,C.length=n:=⟨_,rfl⟩
 rw[hn]at hc1 hsz hdn hX hlen ⊢;have HM:=Hd hn;have HC4:=Hd hc4;have HSZ:=Hd hsz;have HDN:=Hd hdn;have HD0:=Hd hD0;have HD:=Hd hD;have HX:=Hd hX;have HK1:=Hd hk1;have HK2:=Hd hk;have HK:=Hd hK;have M5:=Hd hlen;clear hn hc1 hc2 hc3 hc4 hsz hdn hD0 hD hX hk1 hk hK hlen
 go_enter Tryz.func44,Tryz.ntmps44
 go_wp2_with fail
 go_loopw [5,16] (fun v5 v16 wr => ∃ i:Nat,v16 = .int .i64 (i:Int)∧i≤n∧Ext w wr ∧ ∃ R pa ca,v5 = .slice pa R.length ca∧AllS w.heap.size (.slice pa R.length ca) R wr∧R.map (·.2)=madeL mk i) (fun _ v16 _=>n - (intOf v16).toNat)
 case atStart=>exact⟨0,rfl,Nat.zero_le _,Ext.refl _,[],none,0,rfl,AllS.nil _ _,rfl⟩
 case round =>
  rename World=>wr
  obtain⟨i,rfl,hi,hx,R,pa,ca,rfl,hR,hRM⟩:=hrel;have XX:=Hd hx;have RR:=Hd hR;have HRM:=Hd hRM;clear hx hR hRM
  by_cases hlt:i<n
  ·have hli:(i:Int)<(n:Int):=by omega
   have hl1:(i:Int)+1≤(n:Int):=by omega
   have m5:=M5.out
   have hwi:IntKind.i64.wrap ((i:Int)+1)=((i+1:Nat):Int):=by rw[IntWalk.i64_in _ (by omega)];omega
   obtain⟨cs,hcs⟩:∃ y,C[i]? = some y:=⟨_,List.getElem?_eq_getElem (by rw[HM.out];exact hlt)⟩
   have HCS:=Hd hcs;obtain⟨⟨k1,n1,p1,a1,b1,rfl⟩,bl,off,rfl,hat⟩:=HC4.out i cs hcs;have HAT:=Hd hat;have LT:=Hd hlt;clear hcs hat hi m5 hlt;have h0:=((HAT.out 0 (.int .u8 (k1:Int)) rfl).ext XX.out).1;have h1:=((HAT.out 1 (.int .i64 n1) rfl).ext XX.out).1;have h2:=((HAT.out 2 (.slice p1 a1 b1) rfl).ext XX.out).1;rw[Nat.add_zero]at h0;have hb:=Nat.lt_of_lt_of_le (HAT.out 0 _ rfl).2 XX.out.size
   obtain⟨om,hom⟩:∃ o,mk i=o:=⟨_,rfl⟩
   have HOM:=Hd hom
   have HC:Hid (∀ W,Ext w W→Calls Tryz.prog F (#[.agg #[.int .u8 (k1:Int),.int .i64 n1,.slice p1 a1 b1]] ++ caps) W (MkRet om K W)):=fun W hW=>hom ▸ FF.out.call i _ W HCS.out hW
   clear hom
   cases om
   case none =>
    go_wp2_with (go_at_fn F;refine (HC.out _ (XX.out.alloc _)).mono ?_;rintro e w1 ⟨ka,na,pa',aa,ba,sa,ra,ca',da,ua,ea,fa,rfl,x1,-⟩)
    exact⟨⟨i+1,by first | rfl | simp | rw[hwi],LT.out,((XX.out.alloc _).trans x1).alloc _,R,pa,ca,rfl,RR.out.ext (((eR.alloc _).trans x1).alloc _),by rw[HRM.out,madeL_succ,HOM.out];simp⟩,by simp only[intOf];have:=LT.out;omega⟩
   case some pt =>
    obtain⟨t,q⟩:=pt
    go_wp2_with (go_at_fn F;refine (HC.out _ (XX.out.alloc _)).mono ?_;rintro e w1 ⟨ka,na,pa',aa,ba,sa,ra,ca',da,ua,ea,fa,rfl,x1,hm⟩)
    obtain⟨hmv,hmr⟩:=hm _ rfl;have HMV:=Hd hmv;have HMR:=Hd hmr;have HCP:=Hd (copy_calls t (HSZ.out _ (madeL_mem HOM.out LT.out)));have XW:=Hd (((eR.alloc _).trans x1).alloc (.cells #[.int .u8 (ka:Int),.int .i64 na,.slice pa' aa ba,.bool sa,.slice ra ca' da,.slice ua ea fa] 47))
    obtain⟨b8,hb8⟩:∃ s,w1.heap.size=s:=⟨_,rfl⟩
    have B8:Hid (b8<(w1.alloc (.cells #[.int .u8 (ka:Int),.int .i64 na,.slice pa' aa ba,.bool sa,.slice ra ca' da,.slice ua ea fa] 47)).heap.size):=by show _<(w1.heap.push _).size;rw[Array.size_push,hb8];exact Nat.lt_succ_self _
    have B80:Hid (At b8 0 (.int .u8 (ka:Int)) (w1.alloc (.cells #[.int .u8 (ka:Int),.int .i64 na,.slice pa' aa ba,.bool sa,.slice ra ca' da,.slice ua ea fa] 47))):=by rw[←hb8];exact at_new rfl
    have B81:Hid (At b8 1 (.int .i64 na) (w1.alloc (.cells #[.int .u8 (ka:Int),.int .i64 na,.slice pa' aa ba,.bool sa,.slice ra ca' da,.slice ua ea fa] 47))):=by rw[←hb8];exact at_new rfl
    have B82:Hid (At b8 2 (.slice pa' aa ba) (w1.alloc (.cells #[.int .u8 (ka:Int),.int .i64 na,.slice pa' aa ba,.bool sa,.slice ra ca' da,.slice ua ea fa] 47))):=by rw[←hb8];exact at_new rfl
    have B83:Hid (At b8 3 (.bool sa) (w1.alloc (.cells #[.int .u8 (ka:Int),.int .i64 na,.slice pa' aa ba,.bool sa,.slice ra ca' da,.slice ua ea fa] 47))):=by rw[←hb8];exact at_new rfl
    have B84:Hid (At b8 4 (.slice ra ca' da) (w1.alloc (.cells #[.int .u8 (ka:Int),.int .i64 na,.slice pa' aa ba,.bool sa,.slice ra ca' da,.slice ua ea fa] 47))):=by rw[←hb8];exact at_new rfl
    have B85:Hid (At b8 5 (.slice ua ea fa) (w1.alloc (.cells #[.int .u8 (ka:Int),.int .i64 na,.slice pa' aa ba,.bool sa,.slice ra ca' da,.slice ua ea fa] 47))):=by rw[←hb8];exact at_new rfl
    obtain⟨W,hW⟩:∃ W,W=w1.alloc (.cells #[.int .u8 (ka:Int),.int .i64 na,.slice pa' aa ba,.bool sa,.slice ra ca' da,.slice ua ea fa] 47):=⟨_,rfl⟩
    rw[←hW]at XW B8 B80 B81 B82 B83 B84 B85;have HMV2:Hid (IsV W (.agg #[.int .u8 (ka:Int),.int .i64 na,.slice pa' aa ba]) t):=HMV.out.ext (by rw[hW];exact eR.alloc _);have HMR2:Hid (InR W sa (.slice ra ca' da) (.slice ua ea fa) K q):=HMR.out.ext (by rw[hW];exact eR.alloc _);have hW8:Hid (w.heap.size≤W.heap.size):=(XX.out.trans XW.out).size;rw[hb8,←hW];clear hW hb8 hm hmv hmr x1 HMV HMR;refine wp_region_tail [28,29,30,31,32,33,34,35,36,37] [10,11] (fun i=>([Sx.val (.slice pa R.length ca),Sx.val (.pointer (some ⟨b8,0,none⟩)),Sx.val (.agg #[.int .u8 (ka:Int),.int .i64 na,.slice pa' aa ba]),Sx.ownV t,Sx.val (.pointer (some ⟨b8,3,none⟩)),Sx.val (.agg #[.bool sa,.slice ra ca' da,.slice ua ea fa]),Sx.sl1 K q,Sx.ownR q,Sx.shr t q,Sx.row1 t q]:List Sx).getD i (Sx.val undef)) (by kernel_rfl) (by kernel_rfl) ?hs ?ht
    case hs =>
     refine⟨?_,?_,?_,?_,?_,?_,?_,?_,?_,?_,fun _ => .inl rfl,fun _ => .inl rfl,trivial⟩
     ·refine XStep.op rfl fun ac wk hp K hK=>?_;have t5_:ac.tmps[5]?.getD undef = .slice pa R.length ca:=hp.slot 5 rfl rfl;clear hp;go_simp;exact hK.out _ _ rfl eR
     ·refine XStep.op rfl fun ac wk hp K hK=>?_;have t8_:ac.tmps[8]?.getD undef = .pointer (some ⟨b8,0,none⟩):=hp.slot 8 rfl rfl;clear hp;go_simp;exact hK.out _ _ rfl eR
     ·refine XStep.op rfl fun ac wk hp K hK=>?_;have t29_:=hp.v 1;have q0:=(B80.out.ext hp.ext).1;have q1:=(B81.out.ext hp.ext).1;have q2:=(B82.out.ext hp.ext).1;clear hp;go_simp;exact hK.out _ _ rfl eR
     ·refine XStep.op rfl fun ac wk hp K hK=>?_;have t30_:=hp.v 2;have xe:=Hd hp.ext;clear hp;go_simp;refine (HCP.out _ _ (HMV2.out.ext xe.out)).mono ?_;rintro e wk' ⟨v,rfl,o1,ix⟩;obtain⟨p9,c9,rfl⟩:=o1.shape;exact hK.out _ _ ⟨_,_,_,_,_,rfl,o1.mono (Nat.zero_le _)⟩ ix
     ·refine XStep.op rfl fun ac wk hp K hK=>?_;have t8_:ac.tmps[8]?.getD undef = .pointer (some ⟨b8,0,none⟩):=hp.slot 8 rfl rfl;clear hp;go_simp;exact hK.out _ _ rfl eR
     ·refine XStep.op rfl fun ac wk hp K hK=>?_;have t32_:=hp.v 4;have q3:=(B83.out.ext hp.ext).1;have q4:=(B84.out.ext hp.ext).1;have q5:=(B85.out.ext hp.ext).1;clear hp;go_simp;exact hK.out _ _ rfl eR
     ·refine XStep.op rfl fun ac wk hp K hK=>?_;have t33_:=hp.v 5;have xe:=Hd hp.ext;clear hp;go_simp;exact hK.out _ _ ⟨_,rfl,sl3_1 (at_new rfl) (at_new rfl) (at_new rfl) ((HMR2.out.ext xe.out).ext (eR.alloc _))⟩ (eR.alloc _)
     ·refine XStep.op rfl fun ac wk hp K hK=>?_;obtain⟨s34,h34,h34b⟩:=hp.g 6;have t34_:ac.tmps[34]?.getD undef = .slice (some ⟨s34,0,none⟩) 1 1:=slot_is' h34;rw[h34]at h34b;have HSL:=Hd h34b;clear hp h34 h34b;go_simp;refine (rsum_is HSL.out HK.out (by simp)).mono ?_;rintro e wk' ⟨sb,sv,su,sm,sd,rfl,e1,o1,ix⟩;rw[sumR_one]at e1;obtain⟨sp1,sl1,sc1,tp1,tl1,tc1,rfl,rfl⟩:=e1.slice;obtain⟨g1,g2,g3,g4,g5⟩:=e1;exact hK.out _ _ ⟨_,_,_,_,_,_,_,rfl,g1,by rw[g2];exact o1.1.mono (Nat.zero_le _),by rw[g3];exact o1.2.mono (Nat.zero_le _)⟩ ix
     ·refine XStep.op rfl fun ac wk hp K hK=>?_;obtain⟨k9,n9,p9,a9,b9,h31,o31⟩:=hp.g 3;obtain⟨s9,r9,c9,d9,u9,e9,f9,h35,i35,j35,l35⟩:=hp.g 7;rw[h31]at o31;have t31_:ac.tmps[31]?.getD undef = .agg #[.int .u8 (k9:Int),.int .i64 n9,.slice p9 a9 b9]:=slot_is' h31;have t35_:ac.tmps[35]?.getD undef = .agg #[.bool s9,.slice r9 c9 d9,.slice u9 e9 f9]:=slot_is' h35
      have HE:Hid (ElO wk ([.int .u8 (k9:Int),.int .i64 n9,.slice p9 a9 b9,.bool s9,.slice r9 c9 d9,.slice u9 e9 f9],t,q)):=⟨_,_,_,_,_,_,_,_,_,_,_,_,rfl,o31,i35,j35,l35⟩
      clear hp h31 h35 o31 i35 j35 l35;go_simp;exact hK.out _ _ ⟨_,rfl,HE.out,rfl⟩ eR
     ·refine XStep.op rfl fun ac wk hp K hK=>?_;obtain⟨e9,h36,he9,hq9⟩:=hp.g 8;obtain⟨k9,n9,p9,a9,b9,s9,r9,c9,d9,u9,e9',f9,hs9⟩:=he9.shape;rw[hq9]at hs9
      have e19:e9.1.toArray = #[.int .u8 (k9:Int),.int .i64 n9,.slice p9 a9 b9,.bool s9,.slice r9 c9 d9,.slice u9 e9' f9]:=by rw[hs9]
      rw[e19]at h36;have t36_:ac.tmps[36]?.getD undef = .agg #[.int .u8 (k9:Int),.int .i64 n9,.slice p9 a9 b9,.bool s9,.slice r9 c9 d9,.slice u9 e9' f9]:=slot_is' h36;have HE9:=Hd he9;have HS9:=Hd hs9;have HQ9:=Hd hq9;clear hp h36 he9 hs9 hq9 e19;go_simp;refine hK.out _ _ ⟨_,rfl,e9,HE9.out.ext (eR.alloc _),HQ9.out,fun j u hj=>?_⟩ (eR.alloc _);rw[HS9.out]at hj;exact at_new (by simpa using hj)
    case ht =>
     intro ac v2 hag hext hpost;have z0_:sl ac 28 = .slice pa R.length ca:=hpost 0 (by decide +kernel) rfl;have z1_:sl ac 29 = .pointer (some ⟨b8,0,none⟩):=hpost 1 (by decide +kernel) rfl;have z2_:sl ac 30 = .agg #[.int .u8 (ka:Int),.int .i64 na,.slice pa' aa ba]:=hpost 2 (by decide +kernel) rfl;obtain⟨k9,n9,p9,a9,b9,z3_,-⟩:=hpost 3 (by decide +kernel) rfl;have z4_:sl ac 32 = .pointer (some ⟨b8,3,none⟩):=hpost 4 (by decide +kernel) rfl;have z5_:sl ac 33 = .agg #[.bool sa,.slice ra ca' da,.slice ua ea fa]:=hpost 5 (by decide +kernel) rfl;obtain⟨s34,z6_,-⟩:=hpost 6 (by decide +kernel) rfl;obtain⟨s9,r9,c9,d9,u9,e9,f9,z7_,-⟩:=hpost 7 (by decide +kernel) rfl;obtain⟨x9,z8_,-⟩:=hpost 8 (by decide +kernel) rfl;obtain⟨s37,z9_,y9,hy1,hy2,hy3⟩:=hpost 9 (by decide +kernel) rfl;have z3_:sl ac 31=_:=z3_;have z6_:sl ac 34=_:=z6_;have z7_:sl ac 35=_:=z7_;have z8_:sl ac 36=_:=z8_;have z9_:sl ac 37=_:=z9_;rw[hag.lay];simp only[lay,List.foldl_cons,List.foldl_nil,List.setIfInBounds_toArray,List.set_cons_zero,List.set_cons_succ,z0_,z1_,z2_,z3_,z4_,z5_,z6_,z7_,z8_,z9_];have HEX:=Hd hext;have HY1:=Hd hy1;have HY2:=Hd hy2;have HY3:=Hd hy3
     have RL:Hid (R.length≤i):=by
      show _≤_
      have:=congrArg List.length HRM.out;rw[List.length_map]at this;rw[this];exact madeL_len mk i
     have hRL:R.length≤100000:=by have:=RL.out;have:=LT.out;have:=M5.out;omega
     have HRL:=Hd hRL;clear hag hpost z0_ z1_ z2_ z3_ z4_ z5_ z6_ z7_ z8_ z9_ hext hy1 hy2 hy3 hRL;refine seqTail.op rfl rfl (fun K hK=>?_);refine wp_append_share (.tmp 28) (.tmp 37) 25 Tryz.underlying25 rfl (v:=.slice pa R.length ca) (R:=R) (e:=y9) (b:=s37) rfl rfl ((RR.out.ext XW.out).ext HEX.out) HY1.out HY3.out HRL.out (Nat.le_trans hW8.out HEX.out.size) ?_;intro v' w' hv' hb';refine hK.out _ _ ?_;have HV:=Hd hv';have HB:=Hd hb';clear hK hv' hb';refine seqTail.op rfl rfl (fun K hK=>?_);have HK3:=Hd hK;clear hK;go_simp;refine HK3.out _ _ ?_;clear HK3
     show seqTail _ _ _ [] _ _
     unfold seqTail;go_wp2_with fail;obtain⟨pb,cb,hvs⟩:=HV.out.slice;have HV2:=HV.out;rw[hvs]at HV2;exact⟨⟨i+1,by first | rfl | simp | rw[hwi],LT.out,Ext.below ((XX.out.trans XW.out).trans HEX.out) HB.out,R ++ [y9],pb,cb,hvs,HV2,by rw[List.map_append,HRM.out,madeL_succ,HOM.out];simp [HY2.out]⟩,by simp only[intOf];have:=LT.out;omega⟩
  ·have hli:¬ (i:Int)<(n:Int):=by omega
   have hin:i=n:=by omega
   rw[hin]at HRM
   have RL:Hid (R.length≤100000):=by
    show _≤_
    have:=congrArg List.length HRM.out;rw[List.length_map]at this;rw[this];exact Nat.le_trans (madeL_len mk n) M5.out
   have RLn:Hid (R.length≤n):=by
    show _≤_
    have:=congrArg List.length HRM.out;rw[List.length_map]at this;rw[this];exact madeL_len mk n
   clear hlt hi hin HC4 HSZ eF FF
   rcases RR.out.rowS with⟨rfl,hv⟩ | ⟨g,cap,hv,hBg,hrow⟩
   ·have hm0:madeL mk n = []:=by rw[←HRM.out];rfl
    have HM0:=Hd hm0;rw[show ([]:List Sh).length=0 from rfl]at hv ⊢
    injection hv with hv1 _ hv2
    subst hv1 hv2;clear hm0;go_wp2_with fail;refine (sortStable_nil _).mono ?_;rintro e w1 ⟨rfl,rfl⟩;go_wp2_with fail
    go_loopw [10,44] (fun v10 v44 wr2=>v10 = .slice none 0 0∧v44 = .int .i64 0∧wr2=w1) (fun _ _ _=>0)
    case atStart=>exact⟨rfl,rfl,rfl⟩
    case round =>
     obtain⟨rfl,rfl,rfl⟩:=hrel;go_wp2_with fail;refine (delete_nil _).mono ?_;rintro e w2 ⟨rfl,rfl⟩;go_wp2_with fail;go_ret;exact⟨_,[],rfl,by rw[HM0.out];exact gath_none,SlS.nil _,XX.out⟩
   ·rw[hv];have HROW:=Hd hrow;have HBG:=Hd hBg
    obtain⟨m,hm⟩:∃ m,R.length=m:=⟨_,rfl⟩
    have HSO:=Hd (sortStable_calls HROW.out RL.out rfl);rw[hm]at HSO RL RLn ⊢;have HMM:=Hd hm
    have MN:Hid (m≤20→SortedS R→True):=fun _ _=>trivial
    clear hrow hBg hv hm;go_wp2_with fail;refine HSO.out.mono ?_;rintro e ws ⟨rfl,S,hS,hSb,hSp,hSs,hSe⟩;have SR:=Hd hS;have SP:=Hd hSp;have SS:=Hd hSs;have SE:=Hd hSe;have XS:Hid (Ext w ws):=Ext.below XX.out (hSb.mono HBG.out)
    have SM:Hid (S.length=m):=by show _=_;rw[hSp.length_eq];exact HMM.out
    have SPM:Hid ((S.map (·.2)).Perm (madeL mk n)):=by show List.Perm _ _;rw[←HRM.out];exact hSp.map _
    have SDN:Hid (∀ e∈S,Dn D X e.2.2):=fun e he=>HDN.out e.2 (SPM.out.mem_iff.1 (List.mem_map_of_mem (f:=fun x:Sh=>x.2) he))
    clear hS hSb hSp hSs hSe HSO;go_wp2_with fail
    go_loopw [10,44] (fun v10 v44 wr2 => ∃ j:Nat,v44 = .int .i64 (j:Int)∧j≤m∧Ext ws wr2 ∧ ∃ O pb cb,v10 = .slice pb O.length cb∧AllS ws.heap.size (.slice pb O.length cb) O wr2∧O.map (·.2)=mergeP ((S.map (·.2)).take j)) (fun _ v44 _=>m - (intOf v44).toNat)
    case atStart=>exact⟨0,rfl,Nat.zero_le _,Ext.refl _,[],none,0,rfl,AllS.nil _ _,rfl⟩
    case round =>
     rename World=>wr2
     obtain⟨j,rfl,hj,hx,O,pb,cb,rfl,hO,hOM⟩:=hrel;have XX2:=Hd hx;have OO:=Hd hO;have HOM:=Hd hOM;have SR2:=Hd (SR.out.ext hx)
     have OL:Hid (O.length≤j):=by
      show _≤_
      have:=congrArg List.length hOM;rw[List.length_map]at this;rw[this];exact Nat.le_trans (mergeP_len _) (by rw[List.length_take];exact Nat.min_le_left _ _)
     have ODN:Hid (∀ e∈O,LenR 10000 e.2.2):=fun e he=>by
      have h1:e.2∈mergeP ((S.map (·.2)).take j):=by rw[←hOM];exact List.mem_map_of_mem (f:=fun x:Sh=>x.2) he
      have h2:=mergeP_dn (D:=D) (X:=X) ((S.map (·.2)).take j) (fun a ha=>by
       obtain⟨b,hb,rfl⟩:=List.mem_map.1 (List.mem_of_mem_take ha)
       exact SDN.out b hb) e.2 h1
      refine (h2.len HD0.out HD.out (Nat.lt_of_le_of_lt (Nat.mul_le_mul_right X ?_) HX.out) HK1.out).mono HK2.out;rw[List.length_take,List.length_map];have:=RLn.out;have:=SM.out;omega
     clear hx hO hOM
     by_cases hlt:j<m
     ·have hli:(j:Int)<(m:Int):=by omega
      have hl1:(j:Int)+1≤(m:Int):=by omega
      have m5:=RL.out;have ol:=OL.out
      have hwj:IntKind.i64.wrap ((j:Int)+1)=((j+1:Nat):Int):=by rw[IntWalk.i64_in _ (by omega)];omega
      obtain⟨x,hx⟩:∃ y,S[j]? = some y:=⟨_,List.getElem?_eq_getElem (by rw[SM.out];exact hlt)⟩
      have HXI:=Hd hx;have LT:=Hd hlt
      have HTK:Hid ((S.map (·.2)).take (j+1)=(S.map (·.2)).take j ++ [x.2]):=by
       show _=_
       rw[List.take_add_one,List.getElem?_map,hx];rfl
      have XDN:Hid (LenR 10000 x.2.2):=by
       have h2:=SDN.out x (List.mem_of_getElem? hx);refine (h2.len HD0.out HD.out (Nat.lt_of_le_of_lt ?_ HX.out) HK1.out).mono HK2.out;have:1*X≤n*X:=Nat.mul_le_mul_right X (by have:=RLn.out;omega);omega
      clear hx hj hlt;have HE1:=Hd (SR2.out.its x (List.mem_of_getElem? HXI.out));obtain⟨k1,n1,p1,a1,b1,s1,r1,c1,d1,u1,e1,f1,hx1⟩:=HE1.out.shape;have HX1:=Hd hx1;have D10:Hid (At g (j*6) (.int .u8 (k1:Int)) _):=SR2.out.cell HXI.out (j:=0) (u:=.int .u8 (k1:Int)) (by rw[hx1];rfl);have D11:Hid (At g (j*6+1) (.int .i64 n1) _):=SR2.out.cell HXI.out (j:=1) (u:=.int .i64 n1) (by rw[hx1];rfl);have D12:Hid (At g (j*6+2) (.slice p1 a1 b1) _):=SR2.out.cell HXI.out (j:=2) (u:=.slice p1 a1 b1) (by rw[hx1];rfl);have D13:Hid (At g (j*6+3) (.bool s1) _):=SR2.out.cell HXI.out (j:=3) (u:=.bool s1) (by rw[hx1];rfl);have D14:Hid (At g (j*6+4) (.slice r1 c1 d1) _):=SR2.out.cell HXI.out (j:=4) (u:=.slice r1 c1 d1) (by rw[hx1];rfl);have D15:Hid (At g (j*6+5) (.slice u1 e1 f1) _):=SR2.out.cell HXI.out (j:=5) (u:=.slice u1 e1 f1) (by rw[hx1];rfl);clear hx1;have h0:=D10.out.1;have h1:=D11.out.1;have h2:=D12.out.1;have h3:=D13.out.1;have h4:=D14.out.1;have h5:=D15.out.1;have HXV:Hid (x.1 = [.int .u8 (k1:Int),.int .i64 n1,.slice p1 a1 b1,.bool s1,.slice r1 c1 d1,.slice u1 e1 f1]):=congrArg Prod.fst HX1.out
      rcases snoc_cases O with rfl | ⟨O',y,rfl⟩
      ·rw[show ([]:List Sh).length=0 from rfl]at OO ⊢;clear m5 ol OL
       go_wp2_with (first | go_quiet (fail) | (at_builtin;refine append_share1 (B:=ws.heap.size) (R:=[]) (e:=x) rfl _ _ 25 Tryz.underlying25 rfl rfl rfl rfl rfl (by first | rfl | exact (Array.size_push ..).symm | simp) HXV.out (OO.out.ext ((eR.alloc _).drewN _)) (HE1.out.ext ((eR.alloc _).drewN _)) (by simp) (Nat.le_trans XX2.out.size ((eR.alloc _).drewN _).size) ?_;intro v' w' hv' hb';have HV:=Hd hv';have HB:=Hd hb';clear hv' hb'))
       obtain⟨pb2,cb2,hvs⟩:=HV.out.slice;have HV2:=HV.out;rw[hvs]at HV2;exact⟨⟨j+1,by first | rfl | simp | rw[hwj],LT.out,Ext.below ((XX2.out.alloc _).drewN _) HB.out,[] ++ [x],pb2,cb2,hvs,HV2,by rw[HTK.out,mergeP_snoc,←HOM.out];rfl⟩,by simp only[intOf];have:=LT.out;omega⟩
      ·rcases OO.out.rowS with⟨h0,-⟩ | ⟨g2,cap2,hv2,hB2,hrow2⟩
       ·exact absurd (congrArg List.length h0) (by simp)
       injection hv2 with hv2a _ hv2c
       subst hv2a hv2c;have HR2:=Hd hrow2;have HB2:=Hd hB2
       obtain⟨o,ho⟩:∃ o,O'.length=o:=⟨_,rfl⟩
       have hlo:(O' ++ [y]).length=o+1:=by rw[List.length_append,ho];rfl
       have HLO:=Hd hlo;have HO':=Hd ho
       have HYI:Hid ((O' ++ [y])[o]? = some y):=by show _=_;rw[←ho,List.getElem?_append_right (Nat.le_refl _)];simp
       rw[hlo]at OL ol ⊢;clear hrow2 hB2 hlo ho;have HE2:=Hd (HR2.out.its y (List.mem_of_getElem? HYI.out));obtain⟨k2,n2,p2,a2,b2,s2,r2,c2,d2,u2,e2,f2,hx2⟩:=HE2.out.shape;have HX2:=Hd hx2;have D20:Hid (At g2 (o*6) (.int .u8 (k2:Int)) _):=HR2.out.cell HYI.out (j:=0) (u:=.int .u8 (k2:Int)) (by rw[hx2];rfl);have D21:Hid (At g2 (o*6+1) (.int .i64 n2) _):=HR2.out.cell HYI.out (j:=1) (u:=.int .i64 n2) (by rw[hx2];rfl);have D22:Hid (At g2 (o*6+2) (.slice p2 a2 b2) _):=HR2.out.cell HYI.out (j:=2) (u:=.slice p2 a2 b2) (by rw[hx2];rfl);have D23:Hid (At g2 (o*6+3) (.bool s2) _):=HR2.out.cell HYI.out (j:=3) (u:=.bool s2) (by rw[hx2];rfl);have D24:Hid (At g2 (o*6+4) (.slice r2 c2 d2) _):=HR2.out.cell HYI.out (j:=4) (u:=.slice r2 c2 d2) (by rw[hx2];rfl);have D25:Hid (At g2 (o*6+5) (.slice u2 e2 f2) _):=HR2.out.cell HYI.out (j:=5) (u:=.slice u2 e2 f2) (by rw[hx2];rfl);clear hx2
       have hwo:IntKind.i64.wrap (((o+1:Nat):Int) - 1)=(o:Int):=by rw[IntWalk.i64_in _ (by omega)];omega
       have hlo1:(o:Int)<(o:Int)+1:=by omega
       have hwo3:IntKind.i64.wrap (o:Int)=(o:Int):=by rw[IntWalk.i64_in _ (by omega)]
       have HYV:Hid (y.1 = [.int .u8 (k2:Int),.int .i64 n2,.slice p2 a2 b2,.bool s2,.slice r2 c2 d2,.slice u2 e2 f2]):=congrArg Prod.fst HX2.out
       have hwo2:IntKind.i64.wrap ((o:Int)+1 - 1)=(o:Int):=by rw[IntWalk.i64_in _ (by omega)];omega
       clear m5 ol;go_wp2_with fail
       have HL:Hid (∀ W,Ext wr2 W→Calls Tryz.prog 53 #[.agg #[.int .u8 (k2:Int),.int .i64 n2,.slice p2 a2 b2,.bool s2,.slice r2 c2 d2,.slice u2 e2 f2],.agg #[.int .u8 (k1:Int),.int .i64 n1,.slice p1 a1 b1,.bool s1,.slice r1 c1 d1,.slice u1 e1 f1]] W fun e w'=>e = .returned (.int .i64 (cmpS y x))∧Ext W w'):=fun W hW=>by
        have h:=less_calls (HE2.out.ext hW) (HE1.out.ext hW);rw[HXV.out,HYV.out]at h;exact h
       have HADD:Hid (∀ W,Ext wr2 W→Calls Tryz.prog 31 #[.agg #[.bool s2,.slice r2 c2 d2,.slice u2 e2 f2],.agg #[.bool s1,.slice r1 c1 d1,.slice u1 e1 f1]] W (RetR W (y.2.2+x.2.2))):=fun W hW =>
        radd_is ((HE2.out.fra HX2.out (ODN.out y (by simp))).ext hW) ((HE1.out.fra HX1.out XDN.out).ext hW) (by decide)
       obtain⟨c0,hc0⟩:∃ c,cmpS y x=c:=⟨_,rfl⟩
       rw[hc0]at HL
       obtain⟨tb,htb⟩:∃ b,decide (c0=0)=b:=⟨_,rfl⟩
       have HC0:=Hd hc0;have HTB:=Hd htb
       obtain⟨W,hW⟩:∃ W,W=wr2.alloc (.cells #[.int .u8 (k1:Int),.int .i64 n1,.slice p1 a1 b1,.bool s1,.slice r1 c1 d1,.slice u1 e1 f1] 47):=⟨_,rfl⟩
       obtain⟨b12,hb12⟩:∃ s,wr2.heap.size=s:=⟨_,rfl⟩
       have XW:Hid (Ext wr2 W):=by rw[hW];exact eR.alloc _
       have B120:Hid (At b12 0 (.int .u8 (k1:Int)) W):=by rw[hW,←hb12];exact at_new rfl
       have B121:Hid (At b12 1 (.int .i64 n1) W):=by rw[hW,←hb12];exact at_new rfl
       have B122:Hid (At b12 2 (.slice p1 a1 b1) W):=by rw[hW,←hb12];exact at_new rfl
       have B123:Hid (At b12 3 (.bool s1) W):=by rw[hW,←hb12];exact at_new rfl
       have B124:Hid (At b12 4 (.slice r1 c1 d1) W):=by rw[hW,←hb12];exact at_new rfl
       have B125:Hid (At b12 5 (.slice u1 e1 f1) W):=by rw[hW,←hb12];exact at_new rfl
       have G12:Hid (b12<W.heap.size):=B120.out.2
       have BG2:Hid (b12≠g2):=by have:=HR2.out.lt;show _≠_;omega
       rw[hb12,←hW];clear hW hb12 hc0 htb h0 h1 h2 h3 h4 h5;refine wp_region_tail [50,51,52,53,54,55,56,57,58,59,60,61] [] (fun i=>([Sx.val (.int .i64 ((o:Int)+1)),Sx.val (.bool true),Sx.val (.bool true),Sx.val (.slice (some ⟨g2,0,none⟩) (o+1) cb),Sx.val (.int .i64 ((o:Int)+1)),Sx.val (.int .i64 (o:Int)),Sx.val (.pointer (some ⟨g2,o*6,none⟩)),Sx.val (.agg #[.int .u8 (k2:Int),.int .i64 n2,.slice p2 a2 b2,.bool s2,.slice r2 c2 d2,.slice u2 e2 f2]),Sx.val (.agg #[.int .u8 (k1:Int),.int .i64 n1,.slice p1 a1 b1,.bool s1,.slice r1 c1 d1,.slice u1 e1 f1]),Sx.val (.int .i64 c0),Sx.val (.bool tb),Sx.val (.bool tb)]:List Sx).getD i (Sx.val undef)) (by kernel_rfl) (by kernel_rfl) ?hs ?ht
       case hs =>
        refine⟨?_,?_,?_,?_,?_,?_,?_,?_,?_,?_,?_,?_,trivial⟩
        ·refine XStep.op rfl fun ac wk hp K hK=>?_;have t13_:ac.tmps[13]?.getD undef = .int .i64 ((o:Int)+1):=hp.slot 13 rfl rfl;clear hp;go_simp;exact hK.out _ _ rfl eR
        ·refine XStep.op rfl fun ac wk hp K hK=>?_;have t50_:=hp.v 0;clear hp;go_simp;exact hK.out _ _ (by first | rfl | (apply congrArg Value.bool;simp;done) | (apply congrArg Value.bool;simp;omega)) eR
        ·refine XStep.op rfl fun ac wk hp K hK=>?_;have t51_:=hp.v 1;clear hp;go_simp;exact hK.out _ _ rfl eR
        ·refine XStep.yes 2 true rfl (by decide +kernel) rfl rfl fun ac wk hp K hK=>?_;have t10_:ac.tmps[10]?.getD undef = .slice (some ⟨g2,0,none⟩) (o+1) cb:=hp.slot 10 rfl rfl;clear hp;go_simp;exact hK.out _ _ rfl eR
        ·refine XStep.yes 2 true rfl (by decide +kernel) rfl rfl fun ac wk hp K hK=>?_;have t13_:ac.tmps[13]?.getD undef = .int .i64 ((o:Int)+1):=hp.slot 13 rfl rfl;clear hp;go_simp;exact hK.out _ _ rfl eR
        ·refine XStep.yes 2 true rfl (by decide +kernel) rfl rfl fun ac wk hp K hK=>?_;have t54_:=hp.v 4;clear hp;go_simp;exact hK.out _ _ (by first | rfl | (apply congrArg (Value.int .i64);first | exact hwo2 | simp [hwo2,hwo3])) eR
        ·refine XStep.yes 2 true rfl (by decide +kernel) rfl rfl fun ac wk hp K hK=>?_;have t53_:=hp.v 3;have t55_:=hp.v 5;clear hp;go_simp;exact hK.out _ _ rfl eR
        ·refine XStep.yes 2 true rfl (by decide +kernel) rfl rfl fun ac wk hp K hK=>?_;have t56_:=hp.v 6;have q0:=((D20.out.ext XW.out).ext hp.ext).1;have q1:=((D21.out.ext XW.out).ext hp.ext).1;have q2:=((D22.out.ext XW.out).ext hp.ext).1;have q3:=((D23.out.ext XW.out).ext hp.ext).1;have q4:=((D24.out.ext XW.out).ext hp.ext).1;have q5:=((D25.out.ext XW.out).ext hp.ext).1;clear hp;go_simp;exact hK.out _ _ rfl eR
        ·refine XStep.yes 2 true rfl (by decide +kernel) rfl rfl fun ac wk hp K hK=>?_;have t12_:ac.tmps[12]?.getD undef = .pointer (some ⟨b12,0,none⟩):=hp.slot 12 rfl rfl;have q0:=(B120.out.ext hp.ext).1;have q1:=(B121.out.ext hp.ext).1;have q2:=(B122.out.ext hp.ext).1;have q3:=(B123.out.ext hp.ext).1;have q4:=(B124.out.ext hp.ext).1;have q5:=(B125.out.ext hp.ext).1;clear hp;go_simp;exact hK.out _ _ rfl eR
        ·refine XStep.yes 2 true rfl (by decide +kernel) rfl rfl fun ac wk hp K hK=>?_;have t57_:=hp.v 7;have t58_:=hp.v 8;have xe:=Hd (XW.out.trans hp.ext);clear hp;go_simp;refine (HL.out _ xe.out).mono ?_;rintro e wk' ⟨rfl,ix⟩;exact hK.out _ _ rfl ix
        ·refine XStep.yes 2 true rfl (by decide +kernel) rfl rfl fun ac wk hp K hK=>?_;have t59_:=hp.v 9;have htb:=HTB.out;clear hp;go_simp;exact hK.out _ _ (by first | rfl | (apply congrArg Value.bool;rw[←htb];first | rfl | simp | (cases h:decide (c0=0) <;> simp_all))) eR
        ·refine XStep.op rfl fun ac wk hp K hK=>?_;have t52_:=hp.v 2;have t60_:=hp.v 10;clear hp;go_simp;exact hK.out _ _ rfl eR
       case ht =>
        intro ac v2 hag hext hpost;have z11_:sl ac 61 = .bool tb:=hpost 11 (by decide +kernel) rfl;rw[hag.lay];simp only[lay,List.foldl_cons,List.foldl_nil,List.setIfInBounds_toArray,List.set_cons_zero,List.set_cons_succ,z11_];have X2:Hid (Ext wr2 v2):=XW.out.trans hext;have E120:=Hd (B120.out.ext hext);have E121:=Hd (B121.out.ext hext);have E122:=Hd (B122.out.ext hext);have E123:=Hd (B123.out.ext hext);have E124:=Hd (B124.out.ext hext);have E125:=Hd (B125.out.ext hext);have HR3:=Hd (HR2.out.ext X2.out);have G12E:=Hd (Nat.lt_of_lt_of_le G12.out hext.size);clear hag hpost z11_ hext B120 B121 B122 B123 B124 B125 XW G12;unfold seqTail
        cases tb
        case false =>
         have c120:=E120.out.1;have c121:=E121.out.1;have c122:=E122.out.1;have c123:=E123.out.1;have c124:=E124.out.1;have c125:=E125.out.1
         have HNE:Hid (cmpV y.2.1 x.2.1≠0):=fun h=>by
          have h1:=HTB.out;rw[←HC0.out]at h1;exact of_decide_eq_false h1 h
         go_wp2_with (at_builtin;refine append_share1 (B:=ws.heap.size) (R:=O' ++ [y]) (e:=x) rfl _ _ 25 Tryz.underlying25 rfl rfl rfl rfl rfl (by first | rfl | exact (Array.size_push ..).symm | simp) HXV.out (by have h:=HR3.out.all HB2.out;rw[HLO.out]at h;exact h) (HE1.out.ext X2.out) (by rw[HLO.out];have:=OL.out;have:=LT.out;have:=RL.out;omega) (Nat.le_trans XX2.out.size X2.out.size) ?_;intro v' w' hv' hb';have HV:=Hd hv';have HB:=Hd hb';clear hv' hb')
         obtain⟨pb2,cb2,hvs⟩:=HV.out.slice;have HV2:=HV.out;rw[hvs]at HV2;refine⟨⟨j+1,by first | rfl | simp | rw[hwj],LT.out,Ext.below (XX2.out.trans X2.out) HB.out,O' ++ [y] ++ [x],pb2,cb2,hvs,HV2,?_⟩,by simp only[intOf];have:=LT.out;omega⟩;rw[HTK.out,mergeP_snoc,←HOM.out];simp only[List.map_append,List.map_cons,List.map_nil];rw[mstep_ne _ _ _ HNE.out]
        case true =>
         go_wp2_with fail;refine wp_region_tail [62,63,64,65,66,67,68,69,70,71,72,73,74,75] [14] (fun i=>([Sx.val (.slice (some ⟨g2,0,none⟩) (o+1) cb),Sx.val (.int .i64 ((o:Int)+1)),Sx.val (.int .i64 (o:Int)),Sx.val (.slice (some ⟨g2,0,none⟩) (o+1) cb),Sx.val (.int .i64 ((o:Int)+1)),Sx.val (.int .i64 (o:Int)),Sx.val (.pointer (some ⟨g2,o*6,none⟩)),Sx.val (.pointer (some ⟨g2,o*6+3,none⟩)),Sx.val (.agg #[.bool s2,.slice r2 c2 d2,.slice u2 e2 f2]),Sx.val (.pointer (some ⟨b12,3,none⟩)),Sx.val (.agg #[.bool s1,.slice r1 c1 d1,.slice u1 e1 f1]),Sx.ownR (y.2.2+x.2.2),Sx.val (.pointer (some ⟨g2,o*6,none⟩)),Sx.val (.pointer (some ⟨g2,o*6+3,none⟩))]:List Sx).getD i (Sx.val undef)) (by kernel_rfl) (by kernel_rfl) ?hs ?ht
         case hs =>
          refine⟨?_,?_,?_,?_,?_,?_,?_,?_,?_,?_,?_,?_,?_,?_,fun _ => .inl rfl,trivial⟩
          ·refine XStep.op rfl fun ac wk hp K hK=>?_;have t10_:ac.tmps[10]?.getD undef = .slice (some ⟨g2,0,none⟩) (o+1) cb:=hp.slot 10 rfl rfl;clear hp;go_simp;exact hK.out _ _ rfl eR
          ·refine XStep.op rfl fun ac wk hp K hK=>?_;have t13_:ac.tmps[13]?.getD undef = .int .i64 ((o:Int)+1):=hp.slot 13 rfl rfl;clear hp;go_simp;exact hK.out _ _ rfl eR
          ·refine XStep.op rfl fun ac wk hp K hK=>?_;have t63_:=hp.v 1;clear hp;go_simp;exact hK.out _ _ (by first | rfl | (apply congrArg (Value.int .i64);first | exact hwo2 | simp [hwo2,hwo3])) eR
          ·refine XStep.op rfl fun ac wk hp K hK=>?_;have t10_:ac.tmps[10]?.getD undef = .slice (some ⟨g2,0,none⟩) (o+1) cb:=hp.slot 10 rfl rfl;clear hp;go_simp;exact hK.out _ _ rfl eR
          ·refine XStep.op rfl fun ac wk hp K hK=>?_;have t13_:ac.tmps[13]?.getD undef = .int .i64 ((o:Int)+1):=hp.slot 13 rfl rfl;clear hp;go_simp;exact hK.out _ _ rfl eR
          ·refine XStep.op rfl fun ac wk hp K hK=>?_;have t66_:=hp.v 4;clear hp;go_simp;exact hK.out _ _ (by first | rfl | (apply congrArg (Value.int .i64);first | exact hwo2 | simp [hwo2,hwo3])) eR
          ·refine XStep.op rfl fun ac wk hp K hK=>?_;have t65_:=hp.v 3;have t67_:=hp.v 5;clear hp;go_simp;exact hK.out _ _ rfl eR
          ·refine XStep.op rfl fun ac wk hp K hK=>?_;have t68_:=hp.v 6;clear hp;go_simp;exact hK.out _ _ rfl eR
          ·refine XStep.op rfl fun ac wk hp K hK=>?_;have t69_:=hp.v 7;have q3:=((D23.out.ext X2.out).ext hp.ext).1;have q4:=((D24.out.ext X2.out).ext hp.ext).1;have q5:=((D25.out.ext X2.out).ext hp.ext).1;clear hp;go_simp;exact hK.out _ _ rfl eR
          ·refine XStep.op rfl fun ac wk hp K hK=>?_;have t12_:ac.tmps[12]?.getD undef = .pointer (some ⟨b12,0,none⟩):=hp.slot 12 rfl rfl;clear hp;go_simp;exact hK.out _ _ rfl eR
          ·refine XStep.op rfl fun ac wk hp K hK=>?_;have t71_:=hp.v 9;have q3:=(E123.out.ext hp.ext).1;have q4:=(E124.out.ext hp.ext).1;have q5:=(E125.out.ext hp.ext).1;clear hp;go_simp;exact hK.out _ _ rfl eR
          ·refine XStep.op rfl fun ac wk hp K hK=>?_;have t70_:=hp.v 8;have t72_:=hp.v 10;have xe:=Hd (X2.out.trans hp.ext);clear hp;go_simp;refine (HADD.out _ xe.out).mono ?_;rintro e wk' ⟨sb,sv,su,sm,sd,rfl,e1,o1,ix⟩;obtain⟨sp1,sl1,sc1,tp1,tl1,tc1,rfl,rfl⟩:=e1.slice;obtain⟨g1,g2,g3,g4,g5⟩:=e1;exact hK.out _ _ ⟨_,_,_,_,_,_,_,rfl,g1,by rw[g2];exact o1.1.mono (Nat.zero_le _),by rw[g3];exact o1.2.mono (Nat.zero_le _)⟩ ix
          ·refine XStep.op rfl fun ac wk hp K hK=>?_;have t62_:=hp.v 0;have t64_:=hp.v 2;clear hp;go_simp;exact hK.out _ _ rfl eR
          ·refine XStep.op rfl fun ac wk hp K hK=>?_;have t74_:=hp.v 12;clear hp;go_simp;exact hK.out _ _ rfl eR
         case ht =>
          intro ac v3 hag hext hpost;obtain⟨s9,r9,c9,d9,u9,e9,f9,z11_,i73,j73,l73⟩:=hpost 11 (by decide +kernel) rfl;have z11_:sl ac 73 = .agg #[.bool s9,.slice r9 c9 d9,.slice u9 e9 f9]:=z11_;have z13_:sl ac 75 = .pointer (some ⟨g2,o*6+3,none⟩):=hpost 13 (by decide +kernel) rfl;rw[hag.lay];simp only[lay,List.foldl_cons,List.foldl_nil,List.setIfInBounds_toArray,List.set_cons_zero,List.set_cons_succ,z11_,z13_];have X3:Hid (Ext wr2 v3):=X2.out.trans hext;have HR4:=Hd (HR3.out.ext hext)
          have EY:Hid (ElO v3 ([.int .u8 (k2:Int),.int .i64 n2,.slice p2 a2 b2,.bool s9,.slice r9 c9 d9,.slice u9 e9 f9],y.2.1,y.2.2+x.2.2)):=by
           have h:=HE2.out.ext X3.out;rw[HX2.out]at h;exact h.newP i73 j73 l73
          have RN:=Hd (HR4.out.setP (by rw[←HX2.out];exact HYI.out) EY.out);have q3:=(D23.out.ext X3.out).1;have q4:=(D24.out.ext X3.out).1;have q5:=(D25.out.ext X3.out).1;have y3:=HR4.out.free (o*6+3);have y4:=HR4.out.free (o*6+4);have y5:=HR4.out.free (o*6+5);clear hag hpost z11_ z13_ hext i73 j73 l73 E120 E121 E122 E123 E124 E125;refine seqTail.op rfl rfl (fun K hK=>?_);have HK3:=Hd hK;clear hK;go_simp;refine HK3.out _ _ ?_;clear HK3
          show seqTail _ _ _ [] _ _
          unfold seqTail
          have HSET:Hid ((O' ++ [y]).set o (([.int .u8 (k2:Int),.int .i64 n2,.slice p2 a2 b2,.bool s9,.slice r9 c9 d9,.slice u9 e9 f9],y.2.1,y.2.2+x.2.2):Sh)=O' ++ [(([.int .u8 (k2:Int),.int .i64 n2,.slice p2 a2 b2,.bool s9,.slice r9 c9 d9,.slice u9 e9 f9],y.2.1,y.2.2+x.2.2):Sh)]):=by show _=_;rw[←HO'.out];simp
          rw[HSET.out]at RN;clear q3 q4 q5 y3 y4 y5;go_wp2_with fail;have hal:=RN.out.all HB2.out
          have HEQ:Hid (cmpV y.2.1 x.2.1=0):=by
           have h1:=of_decide_eq_true HTB.out;rw[←HC0.out]at h1;exact h1
          have hln:(O' ++ [(([.int .u8 (k2:Int),.int .i64 n2,.slice p2 a2 b2,.bool s9,.slice r9 c9 d9,.slice u9 e9 f9],y.2.1,y.2.2+x.2.2):Sh)]).length=o+1:=by rw[List.length_append,HO'.out];rfl
          refine⟨⟨j+1,by first | rfl | simp | rw[hwj],LT.out,?_,O' ++ [(([.int .u8 (k2:Int),.int .i64 n2,.slice p2 a2 b2,.bool s9,.slice r9 c9 d9,.slice u9 e9 f9],y.2.1,y.2.2+x.2.2):Sh)],some ⟨g2,0,none⟩,cb,by rw[hln],hal,?_⟩,by simp only[intOf];have:=LT.out;omega⟩
          ·exact Ext.below (XX2.out.trans X3.out) ((((Below.refl _ _).setCell HB2.out _).setCell HB2.out _).setCell HB2.out _)
          ·rw[HTK.out,mergeP_snoc,←HOM.out];simp only[List.map_append,List.map_cons,List.map_nil];rw[mstep_eq _ _ _ HEQ.out]
     ·have hli:¬ (j:Int)<(m:Int):=by omega
      have hjm:j=m:=by omega
      rw[hjm,List.take_of_length_le (by rw[List.length_map,SM.out];exact Nat.le_refl _)]at HOM
      have HG:Hid (Gath (madeL mk n) ((O.filter keep).map (·.2))):=gath_of SPM.out SS.out (fun h20 hs=>by
       have hml:(madeL mk n).length=m:=by rw[←HRM.out,List.length_map,HMM.out]
       have hs2:=hs;rw[←HRM.out]at hs2;have e:=SE.out (by omega) (sorted_pts hs2)
       rw[e];exact HRM.out) HOM.out
      have OL5:Hid (O.length≤100000):=by have:=OL.out;have:=RL.out;show _≤_;omega
      clear hlt hj hjm
      rcases OO.out.rowS with⟨rfl,hv⟩ | ⟨g2,cap2,hv,hB2,hrow2⟩
      ·rw[show ([]:List Sh).length=0 from rfl]at hv ⊢
       injection hv with hv1 _ hv2
       subst hv1 hv2;go_wp2_with fail;refine (delete_nil _).mono ?_;rintro e w2 ⟨rfl,rfl⟩;go_wp2_with fail;go_ret;exact⟨_,_,rfl,HG.out,SlS.nil _,XS.out.trans XX2.out⟩
      ·rw[hv];have HR2:=Hd hrow2;have HB2:=Hd hB2;have HDL:=Hd (delete_calls lowV HR2.out OL5.out rfl (by decide) ODN.out);have HCAP:=Hd hrow2.cap_le
       obtain⟨l,hl⟩:∃ l,O.length=l:=⟨_,rfl⟩
       rw[hl]at HDL ⊢;clear hv hrow2 hB2 hl;go_wp2_with fail;refine HDL.out.mono ?_;rintro e w2 ⟨rfl,hrv,hbl⟩;have HRV:=Hd hrv;have HBL:=Hd hbl;clear hrv hbl HDL;go_wp2_with fail;go_ret;exact⟨_,_,rfl,HG.out,rowV_slM HRV.out HCAP.out,Ext.below (XS.out.trans XX2.out) (HBL.out.mono (Nat.le_trans XS.out.size HB2.out))⟩
set_option maxHeartbeats 4000000 in
set_option maxRecDepth 100000 in
theorem gatherS_calls {F:Nat}{caps:Array Value}{w:World}{v:Value}{C:List (List Value)}{mk:Nat→Option Pt}{K D X k:Nat}(hC:SlC 6 ShpS w v C) (hF:MakeFn F caps w C mk K) (hK:K≤1000) (hlen:C.length≤100000)
  (hsz:∀ a∈madeL mk C.length,szV a.1≤1000000) (hdn:∀ a∈madeL mk C.length,Dn D X a.2) (hD0:D≠0) (hD:D<Bs^k) (hX:C.length*X<Bs^k) (hk1:1≤k) (hk:k≤10000) :
  Calls Tryz.prog 59 #[v,.func (.func F) #[] caps] w fun z w' => ∃ v' out,z = .returned v'∧Gath (madeL mk C.length) out∧SlM w' v' out∧Ext w w':=by
 obtain⟨p,c,rfl,hc1,hc2,hc3,hc4⟩:=hC;have eF:=hF.enter;have FF:=Hd hF;clear hF
 obtain⟨n,hn⟩:∃ n,C.length=n:=⟨_,rfl⟩
 rw[hn]at hc1 hsz hdn hX hlen ⊢;have HM:=Hd hn;have HC4:=Hd hc4;have HSZ:=Hd hsz;have HDN:=Hd hdn;have HD0:=Hd hD0;have HD:=Hd hD;have HX:=Hd hX;have HK1:=Hd hk1;have HK2:=Hd hk;have HK:=Hd hK;have M5:=Hd hlen;clear hn hc1 hc2 hc3 hc4 hsz hdn hD0 hD hX hk1 hk hK hlen
 go_enter Tryz.func59,Tryz.ntmps59
 go_wp2_with fail
 go_loopw [5,16] (fun v5 v16 wr => ∃ i:Nat,v16 = .int .i64 (i:Int)∧i≤n∧Ext w wr ∧ ∃ R pa ca,v5 = .slice pa R.length ca∧AllS w.heap.size (.slice pa R.length ca) R wr∧R.map (·.2)=madeL mk i) (fun _ v16 _=>n - (intOf v16).toNat)
 case atStart=>exact⟨0,rfl,Nat.zero_le _,Ext.refl _,[],none,0,rfl,AllS.nil _ _,rfl⟩
 case round =>
  rename World=>wr
  obtain⟨i,rfl,hi,hx,R,pa,ca,rfl,hR,hRM⟩:=hrel;have XX:=Hd hx;have RR:=Hd hR;have HRM:=Hd hRM;clear hx hR hRM
  by_cases hlt:i<n
  ·have hli:(i:Int)<(n:Int):=by omega
   have hl1:(i:Int)+1≤(n:Int):=by omega
   have m5:=M5.out
   have hwi:IntKind.i64.wrap ((i:Int)+1)=((i+1:Nat):Int):=by rw[IntWalk.i64_in _ (by omega)];omega
   obtain⟨cs,hcs⟩:∃ y,C[i]? = some y:=⟨_,List.getElem?_eq_getElem (by rw[HM.out];exact hlt)⟩
   have HCS:=Hd hcs;obtain⟨⟨k1,n1,p1,a1,b1,s1,r1,c1,d1,u1,e1,f1,rfl⟩,bl,off,rfl,hat⟩:=HC4.out i cs hcs;have HAT:=Hd hat;have LT:=Hd hlt;clear hcs hat hi m5 hlt;have h0:=((HAT.out 0 (.int .u8 (k1:Int)) rfl).ext XX.out).1;have h1:=((HAT.out 1 (.int .i64 n1) rfl).ext XX.out).1;have h2:=((HAT.out 2 (.slice p1 a1 b1) rfl).ext XX.out).1;have h3:=((HAT.out 3 (.bool s1) rfl).ext XX.out).1;have h4:=((HAT.out 4 (.slice r1 c1 d1) rfl).ext XX.out).1;have h5:=((HAT.out 5 (.slice u1 e1 f1) rfl).ext XX.out).1;rw[Nat.add_zero]at h0;have hb:=Nat.lt_of_lt_of_le (HAT.out 0 _ rfl).2 XX.out.size
   obtain⟨om,hom⟩:∃ o,mk i=o:=⟨_,rfl⟩
   have HOM:=Hd hom
   have HC:Hid (∀ W,Ext w W→Calls Tryz.prog F (#[.agg #[.int .u8 (k1:Int),.int .i64 n1,.slice p1 a1 b1,.bool s1,.slice r1 c1 d1,.slice u1 e1 f1]] ++ caps) W (MkRet om K W)):=fun W hW=>hom ▸ FF.out.call i _ W HCS.out hW
   clear hom
   cases om
   case none =>
    go_wp2_with (go_at_fn F;refine (HC.out _ (XX.out.alloc _)).mono ?_;rintro e w1 ⟨ka,na,pa',aa,ba,sa,ra,ca',da,ua,ea,fa,rfl,x1,-⟩)
    exact⟨⟨i+1,by first | rfl | simp | rw[hwi],LT.out,((XX.out.alloc _).trans x1).alloc _,R,pa,ca,rfl,RR.out.ext (((eR.alloc _).trans x1).alloc _),by rw[HRM.out,madeL_succ,HOM.out];simp⟩,by simp only[intOf];have:=LT.out;omega⟩
   case some pt =>
    obtain⟨t,q⟩:=pt
    go_wp2_with (go_at_fn F;refine (HC.out _ (XX.out.alloc _)).mono ?_;rintro e w1 ⟨ka,na,pa',aa,ba,sa,ra,ca',da,ua,ea,fa,rfl,x1,hm⟩)
    obtain⟨hmv,hmr⟩:=hm _ rfl;have HMV:=Hd hmv;have HMR:=Hd hmr;have HCP:=Hd (copy_calls t (HSZ.out _ (madeL_mem HOM.out LT.out)));have XW:=Hd (((eR.alloc _).trans x1).alloc (.cells #[.int .u8 (ka:Int),.int .i64 na,.slice pa' aa ba,.bool sa,.slice ra ca' da,.slice ua ea fa] 47))
    obtain⟨b8,hb8⟩:∃ s,w1.heap.size=s:=⟨_,rfl⟩
    have B8:Hid (b8<(w1.alloc (.cells #[.int .u8 (ka:Int),.int .i64 na,.slice pa' aa ba,.bool sa,.slice ra ca' da,.slice ua ea fa] 47)).heap.size):=by show _<(w1.heap.push _).size;rw[Array.size_push,hb8];exact Nat.lt_succ_self _
    have B80:Hid (At b8 0 (.int .u8 (ka:Int)) (w1.alloc (.cells #[.int .u8 (ka:Int),.int .i64 na,.slice pa' aa ba,.bool sa,.slice ra ca' da,.slice ua ea fa] 47))):=by rw[←hb8];exact at_new rfl
    have B81:Hid (At b8 1 (.int .i64 na) (w1.alloc (.cells #[.int .u8 (ka:Int),.int .i64 na,.slice pa' aa ba,.bool sa,.slice ra ca' da,.slice ua ea fa] 47))):=by rw[←hb8];exact at_new rfl
    have B82:Hid (At b8 2 (.slice pa' aa ba) (w1.alloc (.cells #[.int .u8 (ka:Int),.int .i64 na,.slice pa' aa ba,.bool sa,.slice ra ca' da,.slice ua ea fa] 47))):=by rw[←hb8];exact at_new rfl
    have B83:Hid (At b8 3 (.bool sa) (w1.alloc (.cells #[.int .u8 (ka:Int),.int .i64 na,.slice pa' aa ba,.bool sa,.slice ra ca' da,.slice ua ea fa] 47))):=by rw[←hb8];exact at_new rfl
    have B84:Hid (At b8 4 (.slice ra ca' da) (w1.alloc (.cells #[.int .u8 (ka:Int),.int .i64 na,.slice pa' aa ba,.bool sa,.slice ra ca' da,.slice ua ea fa] 47))):=by rw[←hb8];exact at_new rfl
    have B85:Hid (At b8 5 (.slice ua ea fa) (w1.alloc (.cells #[.int .u8 (ka:Int),.int .i64 na,.slice pa' aa ba,.bool sa,.slice ra ca' da,.slice ua ea fa] 47))):=by rw[←hb8];exact at_new rfl
    obtain⟨W,hW⟩:∃ W,W=w1.alloc (.cells #[.int .u8 (ka:Int),.int .i64 na,.slice pa' aa ba,.bool sa,.slice ra ca' da,.slice ua ea fa] 47):=⟨_,rfl⟩
    rw[←hW]at XW B8 B80 B81 B82 B83 B84 B85;have HMV2:Hid (IsV W (.agg #[.int .u8 (ka:Int),.int .i64 na,.slice pa' aa ba]) t):=HMV.out.ext (by rw[hW];exact eR.alloc _);have HMR2:Hid (InR W sa (.slice ra ca' da) (.slice ua ea fa) K q):=HMR.out.ext (by rw[hW];exact eR.alloc _);have hW8:Hid (w.heap.size≤W.heap.size):=(XX.out.trans XW.out).size;rw[hb8,←hW];clear hW hb8 hm hmv hmr x1 HMV HMR;refine wp_region_tail [28,29,30,31,32,33,34,35,36,37] [10,11] (fun i=>([Sx.val (.slice pa R.length ca),Sx.val (.pointer (some ⟨b8,0,none⟩)),Sx.val (.agg #[.int .u8 (ka:Int),.int .i64 na,.slice pa' aa ba]),Sx.ownV t,Sx.val (.pointer (some ⟨b8,3,none⟩)),Sx.val (.agg #[.bool sa,.slice ra ca' da,.slice ua ea fa]),Sx.sl1 K q,Sx.ownR q,Sx.shr t q,Sx.row1 t q]:List Sx).getD i (Sx.val undef)) (by kernel_rfl) (by kernel_rfl) ?hs ?ht
    case hs =>
     refine⟨?_,?_,?_,?_,?_,?_,?_,?_,?_,?_,fun _ => .inl rfl,fun _ => .inl rfl,trivial⟩
     ·refine XStep.op rfl fun ac wk hp K hK=>?_;have t5_:ac.tmps[5]?.getD undef = .slice pa R.length ca:=hp.slot 5 rfl rfl;clear hp;go_simp;exact hK.out _ _ rfl eR
     ·refine XStep.op rfl fun ac wk hp K hK=>?_;have t8_:ac.tmps[8]?.getD undef = .pointer (some ⟨b8,0,none⟩):=hp.slot 8 rfl rfl;clear hp;go_simp;exact hK.out _ _ rfl eR
     ·refine XStep.op rfl fun ac wk hp K hK=>?_;have t29_:=hp.v 1;have q0:=(B80.out.ext hp.ext).1;have q1:=(B81.out.ext hp.ext).1;have q2:=(B82.out.ext hp.ext).1;clear hp;go_simp;exact hK.out _ _ rfl eR
     ·refine XStep.op rfl fun ac wk hp K hK=>?_;have t30_:=hp.v 2;have xe:=Hd hp.ext;clear hp;go_simp;refine (HCP.out _ _ (HMV2.out.ext xe.out)).mono ?_;rintro e wk' ⟨v,rfl,o1,ix⟩;obtain⟨p9,c9,rfl⟩:=o1.shape;exact hK.out _ _ ⟨_,_,_,_,_,rfl,o1.mono (Nat.zero_le _)⟩ ix
     ·refine XStep.op rfl fun ac wk hp K hK=>?_;have t8_:ac.tmps[8]?.getD undef = .pointer (some ⟨b8,0,none⟩):=hp.slot 8 rfl rfl;clear hp;go_simp;exact hK.out _ _ rfl eR
     ·refine XStep.op rfl fun ac wk hp K hK=>?_;have t32_:=hp.v 4;have q3:=(B83.out.ext hp.ext).1;have q4:=(B84.out.ext hp.ext).1;have q5:=(B85.out.ext hp.ext).1;clear hp;go_simp;exact hK.out _ _ rfl eR
     ·refine XStep.op rfl fun ac wk hp K hK=>?_;have t33_:=hp.v 5;have xe:=Hd hp.ext;clear hp;go_simp;exact hK.out _ _ ⟨_,rfl,sl3_1 (at_new rfl) (at_new rfl) (at_new rfl) ((HMR2.out.ext xe.out).ext (eR.alloc _))⟩ (eR.alloc _)
     ·refine XStep.op rfl fun ac wk hp K hK=>?_;obtain⟨s34,h34,h34b⟩:=hp.g 6;have t34_:ac.tmps[34]?.getD undef = .slice (some ⟨s34,0,none⟩) 1 1:=slot_is' h34;rw[h34]at h34b;have HSL:=Hd h34b;clear hp h34 h34b;go_simp;refine (rsum_is HSL.out HK.out (by simp)).mono ?_;rintro e wk' ⟨sb,sv,su,sm,sd,rfl,e1,o1,ix⟩;rw[sumR_one]at e1;obtain⟨sp1,sl1,sc1,tp1,tl1,tc1,rfl,rfl⟩:=e1.slice;obtain⟨g1,g2,g3,g4,g5⟩:=e1;exact hK.out _ _ ⟨_,_,_,_,_,_,_,rfl,g1,by rw[g2];exact o1.1.mono (Nat.zero_le _),by rw[g3];exact o1.2.mono (Nat.zero_le _)⟩ ix
     ·refine XStep.op rfl fun ac wk hp K hK=>?_;obtain⟨k9,n9,p9,a9,b9,h31,o31⟩:=hp.g 3;obtain⟨s9,r9,c9,d9,u9,e9,f9,h35,i35,j35,l35⟩:=hp.g 7;rw[h31]at o31;have t31_:ac.tmps[31]?.getD undef = .agg #[.int .u8 (k9:Int),.int .i64 n9,.slice p9 a9 b9]:=slot_is' h31;have t35_:ac.tmps[35]?.getD undef = .agg #[.bool s9,.slice r9 c9 d9,.slice u9 e9 f9]:=slot_is' h35
      have HE:Hid (ElO wk ([.int .u8 (k9:Int),.int .i64 n9,.slice p9 a9 b9,.bool s9,.slice r9 c9 d9,.slice u9 e9 f9],t,q)):=⟨_,_,_,_,_,_,_,_,_,_,_,_,rfl,o31,i35,j35,l35⟩
      clear hp h31 h35 o31 i35 j35 l35;go_simp;exact hK.out _ _ ⟨_,rfl,HE.out,rfl⟩ eR
     ·refine XStep.op rfl fun ac wk hp K hK=>?_;obtain⟨e9,h36,he9,hq9⟩:=hp.g 8;obtain⟨k9,n9,p9,a9,b9,s9,r9,c9,d9,u9,e9',f9,hs9⟩:=he9.shape;rw[hq9]at hs9
      have e19:e9.1.toArray = #[.int .u8 (k9:Int),.int .i64 n9,.slice p9 a9 b9,.bool s9,.slice r9 c9 d9,.slice u9 e9' f9]:=by rw[hs9]
      rw[e19]at h36;have t36_:ac.tmps[36]?.getD undef = .agg #[.int .u8 (k9:Int),.int .i64 n9,.slice p9 a9 b9,.bool s9,.slice r9 c9 d9,.slice u9 e9' f9]:=slot_is' h36;have HE9:=Hd he9;have HS9:=Hd hs9;have HQ9:=Hd hq9;clear hp h36 he9 hs9 hq9 e19;go_simp;refine hK.out _ _ ⟨_,rfl,e9,HE9.out.ext (eR.alloc _),HQ9.out,fun j u hj=>?_⟩ (eR.alloc _);rw[HS9.out]at hj;exact at_new (by simpa using hj)
    case ht =>
     intro ac v2 hag hext hpost;have z0_:sl ac 28 = .slice pa R.length ca:=hpost 0 (by decide +kernel) rfl;have z1_:sl ac 29 = .pointer (some ⟨b8,0,none⟩):=hpost 1 (by decide +kernel) rfl;have z2_:sl ac 30 = .agg #[.int .u8 (ka:Int),.int .i64 na,.slice pa' aa ba]:=hpost 2 (by decide +kernel) rfl;obtain⟨k9,n9,p9,a9,b9,z3_,-⟩:=hpost 3 (by decide +kernel) rfl;have z4_:sl ac 32 = .pointer (some ⟨b8,3,none⟩):=hpost 4 (by decide +kernel) rfl;have z5_:sl ac 33 = .agg #[.bool sa,.slice ra ca' da,.slice ua ea fa]:=hpost 5 (by decide +kernel) rfl;obtain⟨s34,z6_,-⟩:=hpost 6 (by decide +kernel) rfl;obtain⟨s9,r9,c9,d9,u9,e9,f9,z7_,-⟩:=hpost 7 (by decide +kernel) rfl;obtain⟨x9,z8_,-⟩:=hpost 8 (by decide +kernel) rfl;obtain⟨s37,z9_,y9,hy1,hy2,hy3⟩:=hpost 9 (by decide +kernel) rfl;have z3_:sl ac 31=_:=z3_;have z6_:sl ac 34=_:=z6_;have z7_:sl ac 35=_:=z7_;have z8_:sl ac 36=_:=z8_;have z9_:sl ac 37=_:=z9_;rw[hag.lay];simp only[lay,List.foldl_cons,List.foldl_nil,List.setIfInBounds_toArray,List.set_cons_zero,List.set_cons_succ,z0_,z1_,z2_,z3_,z4_,z5_,z6_,z7_,z8_,z9_];have HEX:=Hd hext;have HY1:=Hd hy1;have HY2:=Hd hy2;have HY3:=Hd hy3
     have RL:Hid (R.length≤i):=by
      show _≤_
      have:=congrArg List.length HRM.out;rw[List.length_map]at this;rw[this];exact madeL_len mk i
     have hRL:R.length≤100000:=by have:=RL.out;have:=LT.out;have:=M5.out;omega
     have HRL:=Hd hRL;clear hag hpost z0_ z1_ z2_ z3_ z4_ z5_ z6_ z7_ z8_ z9_ hext hy1 hy2 hy3 hRL;refine seqTail.op rfl rfl (fun K hK=>?_);refine wp_append_share (.tmp 28) (.tmp 37) 25 Tryz.underlying25 rfl (v:=.slice pa R.length ca) (R:=R) (e:=y9) (b:=s37) rfl rfl ((RR.out.ext XW.out).ext HEX.out) HY1.out HY3.out HRL.out (Nat.le_trans hW8.out HEX.out.size) ?_;intro v' w' hv' hb';refine hK.out _ _ ?_;have HV:=Hd hv';have HB:=Hd hb';clear hK hv' hb';refine seqTail.op rfl rfl (fun K hK=>?_);have HK3:=Hd hK;clear hK;go_simp;refine HK3.out _ _ ?_;clear HK3
     show seqTail _ _ _ [] _ _
     unfold seqTail;go_wp2_with fail;obtain⟨pb,cb,hvs⟩:=HV.out.slice;have HV2:=HV.out;rw[hvs]at HV2;exact⟨⟨i+1,by first | rfl | simp | rw[hwi],LT.out,Ext.below ((XX.out.trans XW.out).trans HEX.out) HB.out,R ++ [y9],pb,cb,hvs,HV2,by rw[List.map_append,HRM.out,madeL_succ,HOM.out];simp [HY2.out]⟩,by simp only[intOf];have:=LT.out;omega⟩
  ·have hli:¬ (i:Int)<(n:Int):=by omega
   have hin:i=n:=by omega
   rw[hin]at HRM
   have RL:Hid (R.length≤100000):=by
    show _≤_
    have:=congrArg List.length HRM.out;rw[List.length_map]at this;rw[this];exact Nat.le_trans (madeL_len mk n) M5.out
   have RLn:Hid (R.length≤n):=by
    show _≤_
    have:=congrArg List.length HRM.out;rw[List.length_map]at this;rw[this];exact madeL_len mk n
   clear hlt hi hin HC4 HSZ eF FF
   rcases RR.out.rowS with⟨rfl,hv⟩ | ⟨g,cap,hv,hBg,hrow⟩
   ·have hm0:madeL mk n = []:=by rw[←HRM.out];rfl
    have HM0:=Hd hm0;rw[show ([]:List Sh).length=0 from rfl]at hv ⊢
    injection hv with hv1 _ hv2
    subst hv1 hv2;clear hm0;go_wp2_with fail;refine (sortStable_nil _).mono ?_;rintro e w1 ⟨rfl,rfl⟩;go_wp2_with fail
    go_loopw [10,44] (fun v10 v44 wr2=>v10 = .slice none 0 0∧v44 = .int .i64 0∧wr2=w1) (fun _ _ _=>0)
    case atStart=>exact⟨rfl,rfl,rfl⟩
    case round =>
     obtain⟨rfl,rfl,rfl⟩:=hrel;go_wp2_with fail;refine (delete_nil _).mono ?_;rintro e w2 ⟨rfl,rfl⟩;go_wp2_with fail;go_ret;exact⟨_,[],rfl,by rw[HM0.out];exact gath_none,SlS.nil _,XX.out⟩
   ·rw[hv];have HROW:=Hd hrow;have HBG:=Hd hBg
    obtain⟨m,hm⟩:∃ m,R.length=m:=⟨_,rfl⟩
    have HSO:=Hd (sortStable_calls HROW.out RL.out rfl);rw[hm]at HSO RL RLn ⊢;have HMM:=Hd hm
    have MN:Hid (m≤20→SortedS R→True):=fun _ _=>trivial
    clear hrow hBg hv hm;go_wp2_with fail;refine HSO.out.mono ?_;rintro e ws ⟨rfl,S,hS,hSb,hSp,hSs,hSe⟩;have SR:=Hd hS;have SP:=Hd hSp;have SS:=Hd hSs;have SE:=Hd hSe;have XS:Hid (Ext w ws):=Ext.below XX.out (hSb.mono HBG.out)
    have SM:Hid (S.length=m):=by show _=_;rw[hSp.length_eq];exact HMM.out
    have SPM:Hid ((S.map (·.2)).Perm (madeL mk n)):=by show List.Perm _ _;rw[←HRM.out];exact hSp.map _
    have SDN:Hid (∀ e∈S,Dn D X e.2.2):=fun e he=>HDN.out e.2 (SPM.out.mem_iff.1 (List.mem_map_of_mem (f:=fun x:Sh=>x.2) he))
    clear hS hSb hSp hSs hSe HSO;go_wp2_with fail
    go_loopw [10,44] (fun v10 v44 wr2 => ∃ j:Nat,v44 = .int .i64 (j:Int)∧j≤m∧Ext ws wr2 ∧ ∃ O pb cb,v10 = .slice pb O.length cb∧AllS ws.heap.size (.slice pb O.length cb) O wr2∧O.map (·.2)=mergeP ((S.map (·.2)).take j)) (fun _ v44 _=>m - (intOf v44).toNat)
    case atStart=>exact⟨0,rfl,Nat.zero_le _,Ext.refl _,[],none,0,rfl,AllS.nil _ _,rfl⟩
    case round =>
     rename World=>wr2
     obtain⟨j,rfl,hj,hx,O,pb,cb,rfl,hO,hOM⟩:=hrel;have XX2:=Hd hx;have OO:=Hd hO;have HOM:=Hd hOM;have SR2:=Hd (SR.out.ext hx)
     have OL:Hid (O.length≤j):=by
      show _≤_
      have:=congrArg List.length hOM;rw[List.length_map]at this;rw[this];exact Nat.le_trans (mergeP_len _) (by rw[List.length_take];exact Nat.min_le_left _ _)
     have ODN:Hid (∀ e∈O,LenR 10000 e.2.2):=fun e he=>by
      have h1:e.2∈mergeP ((S.map (·.2)).take j):=by rw[←hOM];exact List.mem_map_of_mem (f:=fun x:Sh=>x.2) he
      have h2:=mergeP_dn (D:=D) (X:=X) ((S.map (·.2)).take j) (fun a ha=>by
       obtain⟨b,hb,rfl⟩:=List.mem_map.1 (List.mem_of_mem_take ha)
       exact SDN.out b hb) e.2 h1
      refine (h2.len HD0.out HD.out (Nat.lt_of_le_of_lt (Nat.mul_le_mul_right X ?_) HX.out) HK1.out).mono HK2.out;rw[List.length_take,List.length_map];have:=RLn.out;have:=SM.out;omega
     clear hx hO hOM
     by_cases hlt:j<m
     ·have hli:(j:Int)<(m:Int):=by omega
      have hl1:(j:Int)+1≤(m:Int):=by omega
      have m5:=RL.out;have ol:=OL.out
      have hwj:IntKind.i64.wrap ((j:Int)+1)=((j+1:Nat):Int):=by rw[IntWalk.i64_in _ (by omega)];omega
      obtain⟨x,hx⟩:∃ y,S[j]? = some y:=⟨_,List.getElem?_eq_getElem (by rw[SM.out];exact hlt)⟩
      have HXI:=Hd hx;have LT:=Hd hlt
      have HTK:Hid ((S.map (·.2)).take (j+1)=(S.map (·.2)).take j ++ [x.2]):=by
       show _=_
       rw[List.take_add_one,List.getElem?_map,hx];rfl
      have XDN:Hid (LenR 10000 x.2.2):=by
       have h2:=SDN.out x (List.mem_of_getElem? hx);refine (h2.len HD0.out HD.out (Nat.lt_of_le_of_lt ?_ HX.out) HK1.out).mono HK2.out;have:1*X≤n*X:=Nat.mul_le_mul_right X (by have:=RLn.out;omega);omega
      clear hx hj hlt;have HE1:=Hd (SR2.out.its x (List.mem_of_getElem? HXI.out));obtain⟨k1,n1,p1,a1,b1,s1,r1,c1,d1,u1,e1,f1,hx1⟩:=HE1.out.shape;have HX1:=Hd hx1;have D10:Hid (At g (j*6) (.int .u8 (k1:Int)) _):=SR2.out.cell HXI.out (j:=0) (u:=.int .u8 (k1:Int)) (by rw[hx1];rfl);have D11:Hid (At g (j*6+1) (.int .i64 n1) _):=SR2.out.cell HXI.out (j:=1) (u:=.int .i64 n1) (by rw[hx1];rfl);have D12:Hid (At g (j*6+2) (.slice p1 a1 b1) _):=SR2.out.cell HXI.out (j:=2) (u:=.slice p1 a1 b1) (by rw[hx1];rfl);have D13:Hid (At g (j*6+3) (.bool s1) _):=SR2.out.cell HXI.out (j:=3) (u:=.bool s1) (by rw[hx1];rfl);have D14:Hid (At g (j*6+4) (.slice r1 c1 d1) _):=SR2.out.cell HXI.out (j:=4) (u:=.slice r1 c1 d1) (by rw[hx1];rfl);have D15:Hid (At g (j*6+5) (.slice u1 e1 f1) _):=SR2.out.cell HXI.out (j:=5) (u:=.slice u1 e1 f1) (by rw[hx1];rfl);clear hx1;have h0:=D10.out.1;have h1:=D11.out.1;have h2:=D12.out.1;have h3:=D13.out.1;have h4:=D14.out.1;have h5:=D15.out.1;have HXV:Hid (x.1 = [.int .u8 (k1:Int),.int .i64 n1,.slice p1 a1 b1,.bool s1,.slice r1 c1 d1,.slice u1 e1 f1]):=congrArg Prod.fst HX1.out
      rcases snoc_cases O with rfl | ⟨O',y,rfl⟩
      ·rw[show ([]:List Sh).length=0 from rfl]at OO ⊢;clear m5 ol OL
       go_wp2_with (first | go_quiet (fail) | (at_builtin;refine append_share1 (B:=ws.heap.size) (R:=[]) (e:=x) rfl _ _ 25 Tryz.underlying25 rfl rfl rfl rfl rfl (by first | rfl | exact (Array.size_push ..).symm | simp) HXV.out (OO.out.ext ((eR.alloc _).drewN _)) (HE1.out.ext ((eR.alloc _).drewN _)) (by simp) (Nat.le_trans XX2.out.size ((eR.alloc _).drewN _).size) ?_;intro v' w' hv' hb';have HV:=Hd hv';have HB:=Hd hb';clear hv' hb'))
       obtain⟨pb2,cb2,hvs⟩:=HV.out.slice;have HV2:=HV.out;rw[hvs]at HV2;exact⟨⟨j+1,by first | rfl | simp | rw[hwj],LT.out,Ext.below ((XX2.out.alloc _).drewN _) HB.out,[] ++ [x],pb2,cb2,hvs,HV2,by rw[HTK.out,mergeP_snoc,←HOM.out];rfl⟩,by simp only[intOf];have:=LT.out;omega⟩
      ·rcases OO.out.rowS with⟨h0,-⟩ | ⟨g2,cap2,hv2,hB2,hrow2⟩
       ·exact absurd (congrArg List.length h0) (by simp)
       injection hv2 with hv2a _ hv2c
       subst hv2a hv2c;have HR2:=Hd hrow2;have HB2:=Hd hB2
       obtain⟨o,ho⟩:∃ o,O'.length=o:=⟨_,rfl⟩
       have hlo:(O' ++ [y]).length=o+1:=by rw[List.length_append,ho];rfl
       have HLO:=Hd hlo;have HO':=Hd ho
       have HYI:Hid ((O' ++ [y])[o]? = some y):=by show _=_;rw[←ho,List.getElem?_append_right (Nat.le_refl _)];simp
       rw[hlo]at OL ol ⊢;clear hrow2 hB2 hlo ho;have HE2:=Hd (HR2.out.its y (List.mem_of_getElem? HYI.out));obtain⟨k2,n2,p2,a2,b2,s2,r2,c2,d2,u2,e2,f2,hx2⟩:=HE2.out.shape;have HX2:=Hd hx2;have D20:Hid (At g2 (o*6) (.int .u8 (k2:Int)) _):=HR2.out.cell HYI.out (j:=0) (u:=.int .u8 (k2:Int)) (by rw[hx2];rfl);have D21:Hid (At g2 (o*6+1) (.int .i64 n2) _):=HR2.out.cell HYI.out (j:=1) (u:=.int .i64 n2) (by rw[hx2];rfl);have D22:Hid (At g2 (o*6+2) (.slice p2 a2 b2) _):=HR2.out.cell HYI.out (j:=2) (u:=.slice p2 a2 b2) (by rw[hx2];rfl);have D23:Hid (At g2 (o*6+3) (.bool s2) _):=HR2.out.cell HYI.out (j:=3) (u:=.bool s2) (by rw[hx2];rfl);have D24:Hid (At g2 (o*6+4) (.slice r2 c2 d2) _):=HR2.out.cell HYI.out (j:=4) (u:=.slice r2 c2 d2) (by rw[hx2];rfl);have D25:Hid (At g2 (o*6+5) (.slice u2 e2 f2) _):=HR2.out.cell HYI.out (j:=5) (u:=.slice u2 e2 f2) (by rw[hx2];rfl);clear hx2
       have hwo:IntKind.i64.wrap (((o+1:Nat):Int) - 1)=(o:Int):=by rw[IntWalk.i64_in _ (by omega)];omega
       have hlo1:(o:Int)<(o:Int)+1:=by omega
       have hwo3:IntKind.i64.wrap (o:Int)=(o:Int):=by rw[IntWalk.i64_in _ (by omega)]
       have HYV:Hid (y.1 = [.int .u8 (k2:Int),.int .i64 n2,.slice p2 a2 b2,.bool s2,.slice r2 c2 d2,.slice u2 e2 f2]):=congrArg Prod.fst HX2.out
       have hwo2:IntKind.i64.wrap ((o:Int)+1 - 1)=(o:Int):=by rw[IntWalk.i64_in _ (by omega)];omega
       clear m5 ol;go_wp2_with fail
       have HL:Hid (∀ W,Ext wr2 W→Calls Tryz.prog 53 #[.agg #[.int .u8 (k2:Int),.int .i64 n2,.slice p2 a2 b2,.bool s2,.slice r2 c2 d2,.slice u2 e2 f2],.agg #[.int .u8 (k1:Int),.int .i64 n1,.slice p1 a1 b1,.bool s1,.slice r1 c1 d1,.slice u1 e1 f1]] W fun e w'=>e = .returned (.int .i64 (cmpS y x))∧Ext W w'):=fun W hW=>by
        have h:=less_calls (HE2.out.ext hW) (HE1.out.ext hW);rw[HXV.out,HYV.out]at h;exact h
       have HADD:Hid (∀ W,Ext wr2 W→Calls Tryz.prog 31 #[.agg #[.bool s2,.slice r2 c2 d2,.slice u2 e2 f2],.agg #[.bool s1,.slice r1 c1 d1,.slice u1 e1 f1]] W (RetR W (y.2.2+x.2.2))):=fun W hW =>
        radd_is ((HE2.out.fra HX2.out (ODN.out y (by simp))).ext hW) ((HE1.out.fra HX1.out XDN.out).ext hW) (by decide)
       obtain⟨c0,hc0⟩:∃ c,cmpS y x=c:=⟨_,rfl⟩
       rw[hc0]at HL
       obtain⟨tb,htb⟩:∃ b,decide (c0=0)=b:=⟨_,rfl⟩
       have HC0:=Hd hc0;have HTB:=Hd htb
       obtain⟨W,hW⟩:∃ W,W=wr2.alloc (.cells #[.int .u8 (k1:Int),.int .i64 n1,.slice p1 a1 b1,.bool s1,.slice r1 c1 d1,.slice u1 e1 f1] 47):=⟨_,rfl⟩
       obtain⟨b12,hb12⟩:∃ s,wr2.heap.size=s:=⟨_,rfl⟩
       have XW:Hid (Ext wr2 W):=by rw[hW];exact eR.alloc _
       have B120:Hid (At b12 0 (.int .u8 (k1:Int)) W):=by rw[hW,←hb12];exact at_new rfl
       have B121:Hid (At b12 1 (.int .i64 n1) W):=by rw[hW,←hb12];exact at_new rfl
       have B122:Hid (At b12 2 (.slice p1 a1 b1) W):=by rw[hW,←hb12];exact at_new rfl
       have B123:Hid (At b12 3 (.bool s1) W):=by rw[hW,←hb12];exact at_new rfl
       have B124:Hid (At b12 4 (.slice r1 c1 d1) W):=by rw[hW,←hb12];exact at_new rfl
       have B125:Hid (At b12 5 (.slice u1 e1 f1) W):=by rw[hW,←hb12];exact at_new rfl
       have G12:Hid (b12<W.heap.size):=B120.out.2
       have BG2:Hid (b12≠g2):=by have:=HR2.out.lt;show _≠_;omega
       rw[hb12,←hW];clear hW hb12 hc0 htb h0 h1 h2 h3 h4 h5;refine wp_region_tail [50,51,52,53,54,55,56,57,58,59,60,61] [] (fun i=>([Sx.val (.int .i64 ((o:Int)+1)),Sx.val (.bool true),Sx.val (.bool true),Sx.val (.slice (some ⟨g2,0,none⟩) (o+1) cb),Sx.val (.int .i64 ((o:Int)+1)),Sx.val (.int .i64 (o:Int)),Sx.val (.pointer (some ⟨g2,o*6,none⟩)),Sx.val (.agg #[.int .u8 (k2:Int),.int .i64 n2,.slice p2 a2 b2,.bool s2,.slice r2 c2 d2,.slice u2 e2 f2]),Sx.val (.agg #[.int .u8 (k1:Int),.int .i64 n1,.slice p1 a1 b1,.bool s1,.slice r1 c1 d1,.slice u1 e1 f1]),Sx.val (.int .i64 c0),Sx.val (.bool tb),Sx.val (.bool tb)]:List Sx).getD i (Sx.val undef)) (by kernel_rfl) (by kernel_rfl) ?hs ?ht
       case hs =>
        refine⟨?_,?_,?_,?_,?_,?_,?_,?_,?_,?_,?_,?_,trivial⟩
        ·refine XStep.op rfl fun ac wk hp K hK=>?_;have t13_:ac.tmps[13]?.getD undef = .int .i64 ((o:Int)+1):=hp.slot 13 rfl rfl;clear hp;go_simp;exact hK.out _ _ rfl eR
        ·refine XStep.op rfl fun ac wk hp K hK=>?_;have t50_:=hp.v 0;clear hp;go_simp;exact hK.out _ _ (by first | rfl | (apply congrArg Value.bool;simp;done) | (apply congrArg Value.bool;simp;omega)) eR
        ·refine XStep.op rfl fun ac wk hp K hK=>?_;have t51_:=hp.v 1;clear hp;go_simp;exact hK.out _ _ rfl eR
        ·refine XStep.yes 2 true rfl (by decide +kernel) rfl rfl fun ac wk hp K hK=>?_;have t10_:ac.tmps[10]?.getD undef = .slice (some ⟨g2,0,none⟩) (o+1) cb:=hp.slot 10 rfl rfl;clear hp;go_simp;exact hK.out _ _ rfl eR
        ·refine XStep.yes 2 true rfl (by decide +kernel) rfl rfl fun ac wk hp K hK=>?_;have t13_:ac.tmps[13]?.getD undef = .int .i64 ((o:Int)+1):=hp.slot 13 rfl rfl;clear hp;go_simp;exact hK.out _ _ rfl eR
        ·refine XStep.yes 2 true rfl (by decide +kernel) rfl rfl fun ac wk hp K hK=>?_;have t54_:=hp.v 4;clear hp;go_simp;exact hK.out _ _ (by first | rfl | (apply congrArg (Value.int .i64);first | exact hwo2 | simp [hwo2,hwo3])) eR
        ·refine XStep.yes 2 true rfl (by decide +kernel) rfl rfl fun ac wk hp K hK=>?_;have t53_:=hp.v 3;have t55_:=hp.v 5;clear hp;go_simp;exact hK.out _ _ rfl eR
        ·refine XStep.yes 2 true rfl (by decide +kernel) rfl rfl fun ac wk hp K hK=>?_;have t56_:=hp.v 6;have q0:=((D20.out.ext XW.out).ext hp.ext).1;have q1:=((D21.out.ext XW.out).ext hp.ext).1;have q2:=((D22.out.ext XW.out).ext hp.ext).1;have q3:=((D23.out.ext XW.out).ext hp.ext).1;have q4:=((D24.out.ext XW.out).ext hp.ext).1;have q5:=((D25.out.ext XW.out).ext hp.ext).1;clear hp;go_simp;exact hK.out _ _ rfl eR
        ·refine XStep.yes 2 true rfl (by decide +kernel) rfl rfl fun ac wk hp K hK=>?_;have t12_:ac.tmps[12]?.getD undef = .pointer (some ⟨b12,0,none⟩):=hp.slot 12 rfl rfl;have q0:=(B120.out.ext hp.ext).1;have q1:=(B121.out.ext hp.ext).1;have q2:=(B122.out.ext hp.ext).1;have q3:=(B123.out.ext hp.ext).1;have q4:=(B124.out.ext hp.ext).1;have q5:=(B125.out.ext hp.ext).1;clear hp;go_simp;exact hK.out _ _ rfl eR
        ·refine XStep.yes 2 true rfl (by decide +kernel) rfl rfl fun ac wk hp K hK=>?_;have t57_:=hp.v 7;have t58_:=hp.v 8;have xe:=Hd (XW.out.trans hp.ext);clear hp;go_simp;refine (HL.out _ xe.out).mono ?_;rintro e wk' ⟨rfl,ix⟩;exact hK.out _ _ rfl ix
        ·refine XStep.yes 2 true rfl (by decide +kernel) rfl rfl fun ac wk hp K hK=>?_;have t59_:=hp.v 9;have htb:=HTB.out;clear hp;go_simp;exact hK.out _ _ (by first | rfl | (apply congrArg Value.bool;rw[←htb];first | rfl | simp | (cases h:decide (c0=0) <;> simp_all))) eR
        ·refine XStep.op rfl fun ac wk hp K hK=>?_;have t52_:=hp.v 2;have t60_:=hp.v 10;clear hp;go_simp;exact hK.out _ _ rfl eR
       case ht =>
        intro ac v2 hag hext hpost;have z11_:sl ac 61 = .bool tb:=hpost 11 (by decide +kernel) rfl;rw[hag.lay];simp only[lay,List.foldl_cons,List.foldl_nil,List.setIfInBounds_toArray,List.set_cons_zero,List.set_cons_succ,z11_];have X2:Hid (Ext wr2 v2):=XW.out.trans hext;have E120:=Hd (B120.out.ext hext);have E121:=Hd (B121.out.ext hext);have E122:=Hd (B122.out.ext hext);have E123:=Hd (B123.out.ext hext);have E124:=Hd (B124.out.ext hext);have E125:=Hd (B125.out.ext hext);have HR3:=Hd (HR2.out.ext X2.out);have G12E:=Hd (Nat.lt_of_lt_of_le G12.out hext.size);clear hag hpost z11_ hext B120 B121 B122 B123 B124 B125 XW G12;unfold seqTail
        cases tb
        case false =>
         have c120:=E120.out.1;have c121:=E121.out.1;have c122:=E122.out.1;have c123:=E123.out.1;have c124:=E124.out.1;have c125:=E125.out.1
         have HNE:Hid (cmpV y.2.1 x.2.1≠0):=fun h=>by
          have h1:=HTB.out;rw[←HC0.out]at h1;exact of_decide_eq_false h1 h
         go_wp2_with (at_builtin;refine append_share1 (B:=ws.heap.size) (R:=O' ++ [y]) (e:=x) rfl _ _ 25 Tryz.underlying25 rfl rfl rfl rfl rfl (by first | rfl | exact (Array.size_push ..).symm | simp) HXV.out (by have h:=HR3.out.all HB2.out;rw[HLO.out]at h;exact h) (HE1.out.ext X2.out) (by rw[HLO.out];have:=OL.out;have:=LT.out;have:=RL.out;omega) (Nat.le_trans XX2.out.size X2.out.size) ?_;intro v' w' hv' hb';have HV:=Hd hv';have HB:=Hd hb';clear hv' hb')
         obtain⟨pb2,cb2,hvs⟩:=HV.out.slice;have HV2:=HV.out;rw[hvs]at HV2;refine⟨⟨j+1,by first | rfl | simp | rw[hwj],LT.out,Ext.below (XX2.out.trans X2.out) HB.out,O' ++ [y] ++ [x],pb2,cb2,hvs,HV2,?_⟩,by simp only[intOf];have:=LT.out;omega⟩;rw[HTK.out,mergeP_snoc,←HOM.out];simp only[List.map_append,List.map_cons,List.map_nil];rw[mstep_ne _ _ _ HNE.out]
        case true =>
         go_wp2_with fail;refine wp_region_tail [62,63,64,65,66,67,68,69,70,71,72,73,74,75] [14] (fun i=>([Sx.val (.slice (some ⟨g2,0,none⟩) (o+1) cb),Sx.val (.int .i64 ((o:Int)+1)),Sx.val (.int .i64 (o:Int)),Sx.val (.slice (some ⟨g2,0,none⟩) (o+1) cb),Sx.val (.int .i64 ((o:Int)+1)),Sx.val (.int .i64 (o:Int)),Sx.val (.pointer (some ⟨g2,o*6,none⟩)),Sx.val (.pointer (some ⟨g2,o*6+3,none⟩)),Sx.val (.agg #[.bool s2,.slice r2 c2 d2,.slice u2 e2 f2]),Sx.val (.pointer (some ⟨b12,3,none⟩)),Sx.val (.agg #[.bool s1,.slice r1 c1 d1,.slice u1 e1 f1]),Sx.ownR (y.2.2+x.2.2),Sx.val (.pointer (some ⟨g2,o*6,none⟩)),Sx.val (.pointer (some ⟨g2,o*6+3,none⟩))]:List Sx).getD i (Sx.val undef)) (by kernel_rfl) (by kernel_rfl) ?hs ?ht
         case hs =>
          refine⟨?_,?_,?_,?_,?_,?_,?_,?_,?_,?_,?_,?_,?_,?_,fun _ => .inl rfl,trivial⟩
          ·refine XStep.op rfl fun ac wk hp K hK=>?_;have t10_:ac.tmps[10]?.getD undef = .slice (some ⟨g2,0,none⟩) (o+1) cb:=hp.slot 10 rfl rfl;clear hp;go_simp;exact hK.out _ _ rfl eR
          ·refine XStep.op rfl fun ac wk hp K hK=>?_;have t13_:ac.tmps[13]?.getD undef = .int .i64 ((o:Int)+1):=hp.slot 13 rfl rfl;clear hp;go_simp;exact hK.out _ _ rfl eR
          ·refine XStep.op rfl fun ac wk hp K hK=>?_;have t63_:=hp.v 1;clear hp;go_simp;exact hK.out _ _ (by first | rfl | (apply congrArg (Value.int .i64);first | exact hwo2 | simp [hwo2,hwo3])) eR
          ·refine XStep.op rfl fun ac wk hp K hK=>?_;have t10_:ac.tmps[10]?.getD undef = .slice (some ⟨g2,0,none⟩) (o+1) cb:=hp.slot 10 rfl rfl;clear hp;go_simp;exact hK.out _ _ rfl eR
          ·refine XStep.op rfl fun ac wk hp K hK=>?_;have t13_:ac.tmps[13]?.getD undef = .int .i64 ((o:Int)+1):=hp.slot 13 rfl rfl;clear hp;go_simp;exact hK.out _ _ rfl eR
          ·refine XStep.op rfl fun ac wk hp K hK=>?_;have t66_:=hp.v 4;clear hp;go_simp;exact hK.out _ _ (by first | rfl | (apply congrArg (Value.int .i64);first | exact hwo2 | simp [hwo2,hwo3])) eR
          ·refine XStep.op rfl fun ac wk hp K hK=>?_;have t65_:=hp.v 3;have t67_:=hp.v 5;clear hp;go_simp;exact hK.out _ _ rfl eR
          ·refine XStep.op rfl fun ac wk hp K hK=>?_;have t68_:=hp.v 6;clear hp;go_simp;exact hK.out _ _ rfl eR
          ·refine XStep.op rfl fun ac wk hp K hK=>?_;have t69_:=hp.v 7;have q3:=((D23.out.ext X2.out).ext hp.ext).1;have q4:=((D24.out.ext X2.out).ext hp.ext).1;have q5:=((D25.out.ext X2.out).ext hp.ext).1;clear hp;go_simp;exact hK.out _ _ rfl eR
          ·refine XStep.op rfl fun ac wk hp K hK=>?_;have t12_:ac.tmps[12]?.getD undef = .pointer (some ⟨b12,0,none⟩):=hp.slot 12 rfl rfl;clear hp;go_simp;exact hK.out _ _ rfl eR
          ·refine XStep.op rfl fun ac wk hp K hK=>?_;have t71_:=hp.v 9;have q3:=(E123.out.ext hp.ext).1;have q4:=(E124.out.ext hp.ext).1;have q5:=(E125.out.ext hp.ext).1;clear hp;go_simp;exact hK.out _ _ rfl eR
          ·refine XStep.op rfl fun ac wk hp K hK=>?_;have t70_:=hp.v 8;have t72_:=hp.v 10;have xe:=Hd (X2.out.trans hp.ext);clear hp;go_simp;refine (HADD.out _ xe.out).mono ?_;rintro e wk' ⟨sb,sv,su,sm,sd,rfl,e1,o1,ix⟩;obtain⟨sp1,sl1,sc1,tp1,tl1,tc1,rfl,rfl⟩:=e1.slice;obtain⟨g1,g2,g3,g4,g5⟩:=e1;exact hK.out _ _ ⟨_,_,_,_,_,_,_,rfl,g1,by rw[g2];exact o1.1.mono (Nat.zero_le _),by rw[g3];exact o1.2.mono (Nat.zero_le _)⟩ ix
          ·refine XStep.op rfl fun ac wk hp K hK=>?_;have t62_:=hp.v 0;have t64_:=hp.v 2;clear hp;go_simp;exact hK.out _ _ rfl eR
          ·refine XStep.op rfl fun ac wk hp K hK=>?_;have t74_:=hp.v 12;clear hp;go_simp;exact hK.out _ _ rfl eR
         case ht =>
          intro ac v3 hag hext hpost;obtain⟨s9,r9,c9,d9,u9,e9,f9,z11_,i73,j73,l73⟩:=hpost 11 (by decide +kernel) rfl;have z11_:sl ac 73 = .agg #[.bool s9,.slice r9 c9 d9,.slice u9 e9 f9]:=z11_;have z13_:sl ac 75 = .pointer (some ⟨g2,o*6+3,none⟩):=hpost 13 (by decide +kernel) rfl;rw[hag.lay];simp only[lay,List.foldl_cons,List.foldl_nil,List.setIfInBounds_toArray,List.set_cons_zero,List.set_cons_succ,z11_,z13_];have X3:Hid (Ext wr2 v3):=X2.out.trans hext;have HR4:=Hd (HR3.out.ext hext)
          have EY:Hid (ElO v3 ([.int .u8 (k2:Int),.int .i64 n2,.slice p2 a2 b2,.bool s9,.slice r9 c9 d9,.slice u9 e9 f9],y.2.1,y.2.2+x.2.2)):=by
           have h:=HE2.out.ext X3.out;rw[HX2.out]at h;exact h.newP i73 j73 l73
          have RN:=Hd (HR4.out.setP (by rw[←HX2.out];exact HYI.out) EY.out);have q3:=(D23.out.ext X3.out).1;have q4:=(D24.out.ext X3.out).1;have q5:=(D25.out.ext X3.out).1;have y3:=HR4.out.free (o*6+3);have y4:=HR4.out.free (o*6+4);have y5:=HR4.out.free (o*6+5);clear hag hpost z11_ z13_ hext i73 j73 l73 E120 E121 E122 E123 E124 E125;refine seqTail.op rfl rfl (fun K hK=>?_);have HK3:=Hd hK;clear hK;go_simp;refine HK3.out _ _ ?_;clear HK3
          show seqTail _ _ _ [] _ _
          unfold seqTail
          have HSET:Hid ((O' ++ [y]).set o (([.int .u8 (k2:Int),.int .i64 n2,.slice p2 a2 b2,.bool s9,.slice r9 c9 d9,.slice u9 e9 f9],y.2.1,y.2.2+x.2.2):Sh)=O' ++ [(([.int .u8 (k2:Int),.int .i64 n2,.slice p2 a2 b2,.bool s9,.slice r9 c9 d9,.slice u9 e9 f9],y.2.1,y.2.2+x.2.2):Sh)]):=by show _=_;rw[←HO'.out];simp
          rw[HSET.out]at RN;clear q3 q4 q5 y3 y4 y5;go_wp2_with fail;have hal:=RN.out.all HB2.out
          have HEQ:Hid (cmpV y.2.1 x.2.1=0):=by
           have h1:=of_decide_eq_true HTB.out;rw[←HC0.out]at h1;exact h1
          have hln:(O' ++ [(([.int .u8 (k2:Int),.int .i64 n2,.slice p2 a2 b2,.bool s9,.slice r9 c9 d9,.slice u9 e9 f9],y.2.1,y.2.2+x.2.2):Sh)]).length=o+1:=by rw[List.length_append,HO'.out];rfl
          refine⟨⟨j+1,by first | rfl | simp | rw[hwj],LT.out,?_,O' ++ [(([.int .u8 (k2:Int),.int .i64 n2,.slice p2 a2 b2,.bool s9,.slice r9 c9 d9,.slice u9 e9 f9],y.2.1,y.2.2+x.2.2):Sh)],some ⟨g2,0,none⟩,cb,by rw[hln],hal,?_⟩,by simp only[intOf];have:=LT.out;omega⟩
          ·exact Ext.below (XX2.out.trans X3.out) ((((Below.refl _ _).setCell HB2.out _).setCell HB2.out _).setCell HB2.out _)
          ·rw[HTK.out,mergeP_snoc,←HOM.out];simp only[List.map_append,List.map_cons,List.map_nil];rw[mstep_eq _ _ _ HEQ.out]
     ·have hli:¬ (j:Int)<(m:Int):=by omega
      have hjm:j=m:=by omega
      rw[hjm,List.take_of_length_le (by rw[List.length_map,SM.out];exact Nat.le_refl _)]at HOM
      have HG:Hid (Gath (madeL mk n) ((O.filter keep).map (·.2))):=gath_of SPM.out SS.out (fun h20 hs=>by
       have hml:(madeL mk n).length=m:=by rw[←HRM.out,List.length_map,HMM.out]
       have hs2:=hs;rw[←HRM.out]at hs2;have e:=SE.out (by omega) (sorted_pts hs2)
       rw[e];exact HRM.out) HOM.out
      have OL5:Hid (O.length≤100000):=by have:=OL.out;have:=RL.out;show _≤_;omega
      clear hlt hj hjm
      rcases OO.out.rowS with⟨rfl,hv⟩ | ⟨g2,cap2,hv,hB2,hrow2⟩
      ·rw[show ([]:List Sh).length=0 from rfl]at hv ⊢
       injection hv with hv1 _ hv2
       subst hv1 hv2;go_wp2_with fail;refine (delete_nil _).mono ?_;rintro e w2 ⟨rfl,rfl⟩;go_wp2_with fail;go_ret;exact⟨_,_,rfl,HG.out,SlS.nil _,XS.out.trans XX2.out⟩
      ·rw[hv];have HR2:=Hd hrow2;have HB2:=Hd hB2;have HDL:=Hd (delete_calls lowS HR2.out OL5.out rfl (by decide) ODN.out);have HCAP:=Hd hrow2.cap_le
       obtain⟨l,hl⟩:∃ l,O.length=l:=⟨_,rfl⟩
       rw[hl]at HDL ⊢;clear hv hrow2 hB2 hl;go_wp2_with fail;refine HDL.out.mono ?_;rintro e w2 ⟨rfl,hrv,hbl⟩;have HRV:=Hd hrv;have HBL:=Hd hbl;clear hrv hbl HDL;go_wp2_with fail;go_ret;exact⟨_,_,rfl,HG.out,rowV_slM HRV.out HCAP.out,Ext.below (XS.out.trans XX2.out) (HBL.out.mono (Nat.le_trans XS.out.size HB2.out))⟩
set_option maxHeartbeats 4000000 in
set_option maxRecDepth 100000 in
theorem gatherP_calls {F:Nat}{caps:Array Value}{w:World}{v:Value}{C:List (List Value)}{mk:Nat→Option Pt}{K D X k:Nat}(hC:SlC 12 ShpP w v C) (hF:MakeFn F caps w C mk K) (hK:K≤1000) (hlen:C.length≤100000)
  (hsz:∀ a∈madeL mk C.length,szV a.1≤1000000) (hdn:∀ a∈madeL mk C.length,Dn D X a.2) (hD0:D≠0) (hD:D<Bs^k) (hX:C.length*X<Bs^k) (hk1:1≤k) (hk:k≤10000) :
  Calls Tryz.prog 65 #[v,.func (.func F) #[] caps] w fun z w' => ∃ v' out,z = .returned v'∧Gath (madeL mk C.length) out∧SlM w' v' out∧Ext w w':=by
 obtain⟨p,c,rfl,hc1,hc2,hc3,hc4⟩:=hC;have eF:=hF.enter;have FF:=Hd hF;clear hF
 obtain⟨n,hn⟩:∃ n,C.length=n:=⟨_,rfl⟩
 rw[hn]at hc1 hsz hdn hX hlen ⊢;have HM:=Hd hn;have HC4:=Hd hc4;have HSZ:=Hd hsz;have HDN:=Hd hdn;have HD0:=Hd hD0;have HD:=Hd hD;have HX:=Hd hX;have HK1:=Hd hk1;have HK2:=Hd hk;have HK:=Hd hK;have M5:=Hd hlen;clear hn hc1 hc2 hc3 hc4 hsz hdn hD0 hD hX hk1 hk hK hlen
 go_enter Tryz.func65,Tryz.ntmps65
 go_wp2_with fail
 go_loopw [5,16] (fun v5 v16 wr => ∃ i:Nat,v16 = .int .i64 (i:Int)∧i≤n∧Ext w wr ∧ ∃ R pa ca,v5 = .slice pa R.length ca∧AllS w.heap.size (.slice pa R.length ca) R wr∧R.map (·.2)=madeL mk i) (fun _ v16 _=>n - (intOf v16).toNat)
 case atStart=>exact⟨0,rfl,Nat.zero_le _,Ext.refl _,[],none,0,rfl,AllS.nil _ _,rfl⟩
 case round =>
  rename World=>wr
  obtain⟨i,rfl,hi,hx,R,pa,ca,rfl,hR,hRM⟩:=hrel;have XX:=Hd hx;have RR:=Hd hR;have HRM:=Hd hRM;clear hx hR hRM
  by_cases hlt:i<n
  ·have hli:(i:Int)<(n:Int):=by omega
   have hl1:(i:Int)+1≤(n:Int):=by omega
   have m5:=M5.out
   have hwi:IntKind.i64.wrap ((i:Int)+1)=((i+1:Nat):Int):=by rw[IntWalk.i64_in _ (by omega)];omega
   obtain⟨cs,hcs⟩:∃ y,C[i]? = some y:=⟨_,List.getElem?_eq_getElem (by rw[HM.out];exact hlt)⟩
   have HCS:=Hd hcs;obtain⟨⟨k1,n1,p1,a1,b1,s1,r1,c1,d1,u1,e1,f1,k2,n2,p2,a2,b2,s2,r2,c2,d2,u2,e2,f2,rfl⟩,bl,off,rfl,hat⟩:=HC4.out i cs hcs;have HAT:=Hd hat;have LT:=Hd hlt;clear hcs hat hi m5 hlt;have h0:=((HAT.out 0 (.int .u8 (k1:Int)) rfl).ext XX.out).1;have h1:=((HAT.out 1 (.int .i64 n1) rfl).ext XX.out).1;have h2:=((HAT.out 2 (.slice p1 a1 b1) rfl).ext XX.out).1;have h3:=((HAT.out 3 (.bool s1) rfl).ext XX.out).1;have h4:=((HAT.out 4 (.slice r1 c1 d1) rfl).ext XX.out).1;have h5:=((HAT.out 5 (.slice u1 e1 f1) rfl).ext XX.out).1;have h6:=((HAT.out 6 (.int .u8 (k2:Int)) rfl).ext XX.out).1;have h7:=((HAT.out 7 (.int .i64 n2) rfl).ext XX.out).1;have h8:=((HAT.out 8 (.slice p2 a2 b2) rfl).ext XX.out).1;have h9:=((HAT.out 9 (.bool s2) rfl).ext XX.out).1;have h10:=((HAT.out 10 (.slice r2 c2 d2) rfl).ext XX.out).1;have h11:=((HAT.out 11 (.slice u2 e2 f2) rfl).ext XX.out).1;rw[Nat.add_zero]at h0;have hb:=Nat.lt_of_lt_of_le (HAT.out 0 _ rfl).2 XX.out.size
   obtain⟨om,hom⟩:∃ o,mk i=o:=⟨_,rfl⟩
   have HOM:=Hd hom
   have HC:Hid (∀ W,Ext w W→Calls Tryz.prog F (#[.agg #[.int .u8 (k1:Int),.int .i64 n1,.slice p1 a1 b1,.bool s1,.slice r1 c1 d1,.slice u1 e1 f1,.int .u8 (k2:Int),.int .i64 n2,.slice p2 a2 b2,.bool s2,.slice r2 c2 d2,.slice u2 e2 f2]] ++ caps) W (MkRet om K W)):=fun W hW=>hom ▸ FF.out.call i _ W HCS.out hW
   clear hom
   cases om
   case none =>
    go_wp2_with (go_at_fn F;refine (HC.out _ (XX.out.alloc _)).mono ?_;rintro e w1 ⟨ka,na,pa',aa,ba,sa,ra,ca',da,ua,ea,fa,rfl,x1,-⟩)
    exact⟨⟨i+1,by first | rfl | simp | rw[hwi],LT.out,((XX.out.alloc _).trans x1).alloc _,R,pa,ca,rfl,RR.out.ext (((eR.alloc _).trans x1).alloc _),by rw[HRM.out,madeL_succ,HOM.out];simp⟩,by simp only[intOf];have:=LT.out;omega⟩
   case some pt =>
    obtain⟨t,q⟩:=pt
    go_wp2_with (go_at_fn F;refine (HC.out _ (XX.out.alloc _)).mono ?_;rintro e w1 ⟨ka,na,pa',aa,ba,sa,ra,ca',da,ua,ea,fa,rfl,x1,hm⟩)
    obtain⟨hmv,hmr⟩:=hm _ rfl;have HMV:=Hd hmv;have HMR:=Hd hmr;have HCP:=Hd (copy_calls t (HSZ.out _ (madeL_mem HOM.out LT.out)));have XW:=Hd (((eR.alloc _).trans x1).alloc (.cells #[.int .u8 (ka:Int),.int .i64 na,.slice pa' aa ba,.bool sa,.slice ra ca' da,.slice ua ea fa] 47))
    obtain⟨b8,hb8⟩:∃ s,w1.heap.size=s:=⟨_,rfl⟩
    have B8:Hid (b8<(w1.alloc (.cells #[.int .u8 (ka:Int),.int .i64 na,.slice pa' aa ba,.bool sa,.slice ra ca' da,.slice ua ea fa] 47)).heap.size):=by show _<(w1.heap.push _).size;rw[Array.size_push,hb8];exact Nat.lt_succ_self _
    have B80:Hid (At b8 0 (.int .u8 (ka:Int)) (w1.alloc (.cells #[.int .u8 (ka:Int),.int .i64 na,.slice pa' aa ba,.bool sa,.slice ra ca' da,.slice ua ea fa] 47))):=by rw[←hb8];exact at_new rfl
    have B81:Hid (At b8 1 (.int .i64 na) (w1.alloc (.cells #[.int .u8 (ka:Int),.int .i64 na,.slice pa' aa ba,.bool sa,.slice ra ca' da,.slice ua ea fa] 47))):=by rw[←hb8];exact at_new rfl
    have B82:Hid (At b8 2 (.slice pa' aa ba) (w1.alloc (.cells #[.int .u8 (ka:Int),.int .i64 na,.slice pa' aa ba,.bool sa,.slice ra ca' da,.slice ua ea fa] 47))):=by rw[←hb8];exact at_new rfl
    have B83:Hid (At b8 3 (.bool sa) (w1.alloc (.cells #[.int .u8 (ka:Int),.int .i64 na,.slice pa' aa ba,.bool sa,.slice ra ca' da,.slice ua ea fa] 47))):=by rw[←hb8];exact at_new rfl
    have B84:Hid (At b8 4 (.slice ra ca' da) (w1.alloc (.cells #[.int .u8 (ka:Int),.int .i64 na,.slice pa' aa ba,.bool sa,.slice ra ca' da,.slice ua ea fa] 47))):=by rw[←hb8];exact at_new rfl
    have B85:Hid (At b8 5 (.slice ua ea fa) (w1.alloc (.cells #[.int .u8 (ka:Int),.int .i64 na,.slice pa' aa ba,.bool sa,.slice ra ca' da,.slice ua ea fa] 47))):=by rw[←hb8];exact at_new rfl
    obtain⟨W,hW⟩:∃ W,W=w1.alloc (.cells #[.int .u8 (ka:Int),.int .i64 na,.slice pa' aa ba,.bool sa,.slice ra ca' da,.slice ua ea fa] 47):=⟨_,rfl⟩
    rw[←hW]at XW B8 B80 B81 B82 B83 B84 B85;have HMV2:Hid (IsV W (.agg #[.int .u8 (ka:Int),.int .i64 na,.slice pa' aa ba]) t):=HMV.out.ext (by rw[hW];exact eR.alloc _);have HMR2:Hid (InR W sa (.slice ra ca' da) (.slice ua ea fa) K q):=HMR.out.ext (by rw[hW];exact eR.alloc _);have hW8:Hid (w.heap.size≤W.heap.size):=(XX.out.trans XW.out).size;rw[hb8,←hW];clear hW hb8 hm hmv hmr x1 HMV HMR;refine wp_region_tail [28,29,30,31,32,33,34,35,36,37] [10,11] (fun i=>([Sx.val (.slice pa R.length ca),Sx.val (.pointer (some ⟨b8,0,none⟩)),Sx.val (.agg #[.int .u8 (ka:Int),.int .i64 na,.slice pa' aa ba]),Sx.ownV t,Sx.val (.pointer (some ⟨b8,3,none⟩)),Sx.val (.agg #[.bool sa,.slice ra ca' da,.slice ua ea fa]),Sx.sl1 K q,Sx.ownR q,Sx.shr t q,Sx.row1 t q]:List Sx).getD i (Sx.val undef)) (by kernel_rfl) (by kernel_rfl) ?hs ?ht
    case hs =>
     refine⟨?_,?_,?_,?_,?_,?_,?_,?_,?_,?_,fun _ => .inl rfl,fun _ => .inl rfl,trivial⟩
     ·refine XStep.op rfl fun ac wk hp K hK=>?_;have t5_:ac.tmps[5]?.getD undef = .slice pa R.length ca:=hp.slot 5 rfl rfl;clear hp;go_simp;exact hK.out _ _ rfl eR
     ·refine XStep.op rfl fun ac wk hp K hK=>?_;have t8_:ac.tmps[8]?.getD undef = .pointer (some ⟨b8,0,none⟩):=hp.slot 8 rfl rfl;clear hp;go_simp;exact hK.out _ _ rfl eR
     ·refine XStep.op rfl fun ac wk hp K hK=>?_;have t29_:=hp.v 1;have q0:=(B80.out.ext hp.ext).1;have q1:=(B81.out.ext hp.ext).1;have q2:=(B82.out.ext hp.ext).1;clear hp;go_simp;exact hK.out _ _ rfl eR
     ·refine XStep.op rfl fun ac wk hp K hK=>?_;have t30_:=hp.v 2;have xe:=Hd hp.ext;clear hp;go_simp;refine (HCP.out _ _ (HMV2.out.ext xe.out)).mono ?_;rintro e wk' ⟨v,rfl,o1,ix⟩;obtain⟨p9,c9,rfl⟩:=o1.shape;exact hK.out _ _ ⟨_,_,_,_,_,rfl,o1.mono (Nat.zero_le _)⟩ ix
     ·refine XStep.op rfl fun ac wk hp K hK=>?_;have t8_:ac.tmps[8]?.getD undef = .pointer (some ⟨b8,0,none⟩):=hp.slot 8 rfl rfl;clear hp;go_simp;exact hK.out _ _ rfl eR
     ·refine XStep.op rfl fun ac wk hp K hK=>?_;have t32_:=hp.v 4;have q3:=(B83.out.ext hp.ext).1;have q4:=(B84.out.ext hp.ext).1;have q5:=(B85.out.ext hp.ext).1;clear hp;go_simp;exact hK.out _ _ rfl eR
     ·refine XStep.op rfl fun ac wk hp K hK=>?_;have t33_:=hp.v 5;have xe:=Hd hp.ext;clear hp;go_simp;exact hK.out _ _ ⟨_,rfl,sl3_1 (at_new rfl) (at_new rfl) (at_new rfl) ((HMR2.out.ext xe.out).ext (eR.alloc _))⟩ (eR.alloc _)
     ·refine XStep.op rfl fun ac wk hp K hK=>?_;obtain⟨s34,h34,h34b⟩:=hp.g 6;have t34_:ac.tmps[34]?.getD undef = .slice (some ⟨s34,0,none⟩) 1 1:=slot_is' h34;rw[h34]at h34b;have HSL:=Hd h34b;clear hp h34 h34b;go_simp;refine (rsum_is HSL.out HK.out (by simp)).mono ?_;rintro e wk' ⟨sb,sv,su,sm,sd,rfl,e1,o1,ix⟩;rw[sumR_one]at e1;obtain⟨sp1,sl1,sc1,tp1,tl1,tc1,rfl,rfl⟩:=e1.slice;obtain⟨g1,g2,g3,g4,g5⟩:=e1;exact hK.out _ _ ⟨_,_,_,_,_,_,_,rfl,g1,by rw[g2];exact o1.1.mono (Nat.zero_le _),by rw[g3];exact o1.2.mono (Nat.zero_le _)⟩ ix
     ·refine XStep.op rfl fun ac wk hp K hK=>?_;obtain⟨k9,n9,p9,a9,b9,h31,o31⟩:=hp.g 3;obtain⟨s9,r9,c9,d9,u9,e9,f9,h35,i35,j35,l35⟩:=hp.g 7;rw[h31]at o31;have t31_:ac.tmps[31]?.getD undef = .agg #[.int .u8 (k9:Int),.int .i64 n9,.slice p9 a9 b9]:=slot_is' h31;have t35_:ac.tmps[35]?.getD undef = .agg #[.bool s9,.slice r9 c9 d9,.slice u9 e9 f9]:=slot_is' h35
      have HE:Hid (ElO wk ([.int .u8 (k9:Int),.int .i64 n9,.slice p9 a9 b9,.bool s9,.slice r9 c9 d9,.slice u9 e9 f9],t,q)):=⟨_,_,_,_,_,_,_,_,_,_,_,_,rfl,o31,i35,j35,l35⟩
      clear hp h31 h35 o31 i35 j35 l35;go_simp;exact hK.out _ _ ⟨_,rfl,HE.out,rfl⟩ eR
     ·refine XStep.op rfl fun ac wk hp K hK=>?_;obtain⟨e9,h36,he9,hq9⟩:=hp.g 8;obtain⟨k9,n9,p9,a9,b9,s9,r9,c9,d9,u9,e9',f9,hs9⟩:=he9.shape;rw[hq9]at hs9
      have e19:e9.1.toArray = #[.int .u8 (k9:Int),.int .i64 n9,.slice p9 a9 b9,.bool s9,.slice r9 c9 d9,.slice u9 e9' f9]:=by rw[hs9]
      rw[e19]at h36;have t36_:ac.tmps[36]?.getD undef = .agg #[.int .u8 (k9:Int),.int .i64 n9,.slice p9 a9 b9,.bool s9,.slice r9 c9 d9,.slice u9 e9' f9]:=slot_is' h36;have HE9:=Hd he9;have HS9:=Hd hs9;have HQ9:=Hd hq9;clear hp h36 he9 hs9 hq9 e19;go_simp;refine hK.out _ _ ⟨_,rfl,e9,HE9.out.ext (eR.alloc _),HQ9.out,fun j u hj=>?_⟩ (eR.alloc _);rw[HS9.out]at hj;exact at_new (by simpa using hj)
    case ht =>
     intro ac v2 hag hext hpost;have z0_:sl ac 28 = .slice pa R.length ca:=hpost 0 (by decide +kernel) rfl;have z1_:sl ac 29 = .pointer (some ⟨b8,0,none⟩):=hpost 1 (by decide +kernel) rfl;have z2_:sl ac 30 = .agg #[.int .u8 (ka:Int),.int .i64 na,.slice pa' aa ba]:=hpost 2 (by decide +kernel) rfl;obtain⟨k9,n9,p9,a9,b9,z3_,-⟩:=hpost 3 (by decide +kernel) rfl;have z4_:sl ac 32 = .pointer (some ⟨b8,3,none⟩):=hpost 4 (by decide +kernel) rfl;have z5_:sl ac 33 = .agg #[.bool sa,.slice ra ca' da,.slice ua ea fa]:=hpost 5 (by decide +kernel) rfl;obtain⟨s34,z6_,-⟩:=hpost 6 (by decide +kernel) rfl;obtain⟨s9,r9,c9,d9,u9,e9,f9,z7_,-⟩:=hpost 7 (by decide +kernel) rfl;obtain⟨x9,z8_,-⟩:=hpost 8 (by decide +kernel) rfl;obtain⟨s37,z9_,y9,hy1,hy2,hy3⟩:=hpost 9 (by decide +kernel) rfl;have z3_:sl ac 31=_:=z3_;have z6_:sl ac 34=_:=z6_;have z7_:sl ac 35=_:=z7_;have z8_:sl ac 36=_:=z8_;have z9_:sl ac 37=_:=z9_;rw[hag.lay];simp only[lay,List.foldl_cons,List.foldl_nil,List.setIfInBounds_toArray,List.set_cons_zero,List.set_cons_succ,z0_,z1_,z2_,z3_,z4_,z5_,z6_,z7_,z8_,z9_];have HEX:=Hd hext;have HY1:=Hd hy1;have HY2:=Hd hy2;have HY3:=Hd hy3
     have RL:Hid (R.length≤i):=by
      show _≤_
      have:=congrArg List.length HRM.out;rw[List.length_map]at this;rw[this];exact madeL_len mk i
     have hRL:R.length≤100000:=by have:=RL.out;have:=LT.out;have:=M5.out;omega
     have HRL:=Hd hRL;clear hag hpost z0_ z1_ z2_ z3_ z4_ z5_ z6_ z7_ z8_ z9_ hext hy1 hy2 hy3 hRL;refine seqTail.op rfl rfl (fun K hK=>?_);refine wp_append_share (.tmp 28) (.tmp 37) 25 Tryz.underlying25 rfl (v:=.slice pa R.length ca) (R:=R) (e:=y9) (b:=s37) rfl rfl ((RR.out.ext XW.out).ext HEX.out) HY1.out HY3.out HRL.out (Nat.le_trans hW8.out HEX.out.size) ?_;intro v' w' hv' hb';refine hK.out _ _ ?_;have HV:=Hd hv';have HB:=Hd hb';clear hK hv' hb';refine seqTail.op rfl rfl (fun K hK=>?_);have HK3:=Hd hK;clear hK;go_simp;refine HK3.out _ _ ?_;clear HK3
     show seqTail _ _ _ [] _ _
     unfold seqTail;go_wp2_with fail;obtain⟨pb,cb,hvs⟩:=HV.out.slice;have HV2:=HV.out;rw[hvs]at HV2;exact⟨⟨i+1,by first | rfl | simp | rw[hwi],LT.out,Ext.below ((XX.out.trans XW.out).trans HEX.out) HB.out,R ++ [y9],pb,cb,hvs,HV2,by rw[List.map_append,HRM.out,madeL_succ,HOM.out];simp [HY2.out]⟩,by simp only[intOf];have:=LT.out;omega⟩
  ·have hli:¬ (i:Int)<(n:Int):=by omega
   have hin:i=n:=by omega
   rw[hin]at HRM
   have RL:Hid (R.length≤100000):=by
    show _≤_
    have:=congrArg List.length HRM.out;rw[List.length_map]at this;rw[this];exact Nat.le_trans (madeL_len mk n) M5.out
   have RLn:Hid (R.length≤n):=by
    show _≤_
    have:=congrArg List.length HRM.out;rw[List.length_map]at this;rw[this];exact madeL_len mk n
   clear hlt hi hin HC4 HSZ eF FF
   rcases RR.out.rowS with⟨rfl,hv⟩ | ⟨g,cap,hv,hBg,hrow⟩
   ·have hm0:madeL mk n = []:=by rw[←HRM.out];rfl
    have HM0:=Hd hm0;rw[show ([]:List Sh).length=0 from rfl]at hv ⊢
    injection hv with hv1 _ hv2
    subst hv1 hv2;clear hm0;go_wp2_with fail;refine (sortStable_nil _).mono ?_;rintro e w1 ⟨rfl,rfl⟩;go_wp2_with fail
    go_loopw [10,44] (fun v10 v44 wr2=>v10 = .slice none 0 0∧v44 = .int .i64 0∧wr2=w1) (fun _ _ _=>0)
    case atStart=>exact⟨rfl,rfl,rfl⟩
    case round =>
     obtain⟨rfl,rfl,rfl⟩:=hrel;go_wp2_with fail;refine (delete_nil _).mono ?_;rintro e w2 ⟨rfl,rfl⟩;go_wp2_with fail;go_ret;exact⟨_,[],rfl,by rw[HM0.out];exact gath_none,SlS.nil _,XX.out⟩
   ·rw[hv];have HROW:=Hd hrow;have HBG:=Hd hBg
    obtain⟨m,hm⟩:∃ m,R.length=m:=⟨_,rfl⟩
    have HSO:=Hd (sortStable_calls HROW.out RL.out rfl);rw[hm]at HSO RL RLn ⊢;have HMM:=Hd hm
    have MN:Hid (m≤20→SortedS R→True):=fun _ _=>trivial
    clear hrow hBg hv hm;go_wp2_with fail;refine HSO.out.mono ?_;rintro e ws ⟨rfl,S,hS,hSb,hSp,hSs,hSe⟩;have SR:=Hd hS;have SP:=Hd hSp;have SS:=Hd hSs;have SE:=Hd hSe;have XS:Hid (Ext w ws):=Ext.below XX.out (hSb.mono HBG.out)
    have SM:Hid (S.length=m):=by show _=_;rw[hSp.length_eq];exact HMM.out
    have SPM:Hid ((S.map (·.2)).Perm (madeL mk n)):=by show List.Perm _ _;rw[←HRM.out];exact hSp.map _
    have SDN:Hid (∀ e∈S,Dn D X e.2.2):=fun e he=>HDN.out e.2 (SPM.out.mem_iff.1 (List.mem_map_of_mem (f:=fun x:Sh=>x.2) he))
    clear hS hSb hSp hSs hSe HSO;go_wp2_with fail
    go_loopw [10,44] (fun v10 v44 wr2 => ∃ j:Nat,v44 = .int .i64 (j:Int)∧j≤m∧Ext ws wr2 ∧ ∃ O pb cb,v10 = .slice pb O.length cb∧AllS ws.heap.size (.slice pb O.length cb) O wr2∧O.map (·.2)=mergeP ((S.map (·.2)).take j)) (fun _ v44 _=>m - (intOf v44).toNat)
    case atStart=>exact⟨0,rfl,Nat.zero_le _,Ext.refl _,[],none,0,rfl,AllS.nil _ _,rfl⟩
    case round =>
     rename World=>wr2
     obtain⟨j,rfl,hj,hx,O,pb,cb,rfl,hO,hOM⟩:=hrel;have XX2:=Hd hx;have OO:=Hd hO;have HOM:=Hd hOM;have SR2:=Hd (SR.out.ext hx)
     have OL:Hid (O.length≤j):=by
      show _≤_
      have:=congrArg List.length hOM;rw[List.length_map]at this;rw[this];exact Nat.le_trans (mergeP_len _) (by rw[List.length_take];exact Nat.min_le_left _ _)
     have ODN:Hid (∀ e∈O,LenR 10000 e.2.2):=fun e he=>by
      have h1:e.2∈mergeP ((S.map (·.2)).take j):=by rw[←hOM];exact List.mem_map_of_mem (f:=fun x:Sh=>x.2) he
      have h2:=mergeP_dn (D:=D) (X:=X) ((S.map (·.2)).take j) (fun a ha=>by
       obtain⟨b,hb,rfl⟩:=List.mem_map.1 (List.mem_of_mem_take ha)
       exact SDN.out b hb) e.2 h1
      refine (h2.len HD0.out HD.out (Nat.lt_of_le_of_lt (Nat.mul_le_mul_right X ?_) HX.out) HK1.out).mono HK2.out;rw[List.length_take,List.length_map];have:=RLn.out;have:=SM.out;omega
     clear hx hO hOM
     by_cases hlt:j<m
     ·have hli:(j:Int)<(m:Int):=by omega
      have hl1:(j:Int)+1≤(m:Int):=by omega
      have m5:=RL.out;have ol:=OL.out
      have hwj:IntKind.i64.wrap ((j:Int)+1)=((j+1:Nat):Int):=by rw[IntWalk.i64_in _ (by omega)];omega
      obtain⟨x,hx⟩:∃ y,S[j]? = some y:=⟨_,List.getElem?_eq_getElem (by rw[SM.out];exact hlt)⟩
      have HXI:=Hd hx;have LT:=Hd hlt
      have HTK:Hid ((S.map (·.2)).take (j+1)=(S.map (·.2)).take j ++ [x.2]):=by
       show _=_
       rw[List.take_add_one,List.getElem?_map,hx];rfl
      have XDN:Hid (LenR 10000 x.2.2):=by
       have h2:=SDN.out x (List.mem_of_getElem? hx);refine (h2.len HD0.out HD.out (Nat.lt_of_le_of_lt ?_ HX.out) HK1.out).mono HK2.out;have:1*X≤n*X:=Nat.mul_le_mul_right X (by have:=RLn.out;omega);omega
      clear hx hj hlt;have HE1:=Hd (SR2.out.its x (List.mem_of_getElem? HXI.out));obtain⟨k1,n1,p1,a1,b1,s1,r1,c1,d1,u1,e1,f1,hx1⟩:=HE1.out.shape;have HX1:=Hd hx1;have D10:Hid (At g (j*6) (.int .u8 (k1:Int)) _):=SR2.out.cell HXI.out (j:=0) (u:=.int .u8 (k1:Int)) (by rw[hx1];rfl);have D11:Hid (At g (j*6+1) (.int .i64 n1) _):=SR2.out.cell HXI.out (j:=1) (u:=.int .i64 n1) (by rw[hx1];rfl);have D12:Hid (At g (j*6+2) (.slice p1 a1 b1) _):=SR2.out.cell HXI.out (j:=2) (u:=.slice p1 a1 b1) (by rw[hx1];rfl);have D13:Hid (At g (j*6+3) (.bool s1) _):=SR2.out.cell HXI.out (j:=3) (u:=.bool s1) (by rw[hx1];rfl);have D14:Hid (At g (j*6+4) (.slice r1 c1 d1) _):=SR2.out.cell HXI.out (j:=4) (u:=.slice r1 c1 d1) (by rw[hx1];rfl);have D15:Hid (At g (j*6+5) (.slice u1 e1 f1) _):=SR2.out.cell HXI.out (j:=5) (u:=.slice u1 e1 f1) (by rw[hx1];rfl);clear hx1;have h0:=D10.out.1;have h1:=D11.out.1;have h2:=D12.out.1;have h3:=D13.out.1;have h4:=D14.out.1;have h5:=D15.out.1;have HXV:Hid (x.1 = [.int .u8 (k1:Int),.int .i64 n1,.slice p1 a1 b1,.bool s1,.slice r1 c1 d1,.slice u1 e1 f1]):=congrArg Prod.fst HX1.out
      rcases snoc_cases O with rfl | ⟨O',y,rfl⟩
      ·rw[show ([]:List Sh).length=0 from rfl]at OO ⊢;clear m5 ol OL
       go_wp2_with (first | go_quiet (fail) | (at_builtin;refine append_share1 (B:=ws.heap.size) (R:=[]) (e:=x) rfl _ _ 25 Tryz.underlying25 rfl rfl rfl rfl rfl (by first | rfl | exact (Array.size_push ..).symm | simp) HXV.out (OO.out.ext ((eR.alloc _).drewN _)) (HE1.out.ext ((eR.alloc _).drewN _)) (by simp) (Nat.le_trans XX2.out.size ((eR.alloc _).drewN _).size) ?_;intro v' w' hv' hb';have HV:=Hd hv';have HB:=Hd hb';clear hv' hb'))
       obtain⟨pb2,cb2,hvs⟩:=HV.out.slice;have HV2:=HV.out;rw[hvs]at HV2;exact⟨⟨j+1,by first | rfl | simp | rw[hwj],LT.out,Ext.below ((XX2.out.alloc _).drewN _) HB.out,[] ++ [x],pb2,cb2,hvs,HV2,by rw[HTK.out,mergeP_snoc,←HOM.out];rfl⟩,by simp only[intOf];have:=LT.out;omega⟩
      ·rcases OO.out.rowS with⟨h0,-⟩ | ⟨g2,cap2,hv2,hB2,hrow2⟩
       ·exact absurd (congrArg List.length h0) (by simp)
       injection hv2 with hv2a _ hv2c
       subst hv2a hv2c;have HR2:=Hd hrow2;have HB2:=Hd hB2
       obtain⟨o,ho⟩:∃ o,O'.length=o:=⟨_,rfl⟩
       have hlo:(O' ++ [y]).length=o+1:=by rw[List.length_append,ho];rfl
       have HLO:=Hd hlo;have HO':=Hd ho
       have HYI:Hid ((O' ++ [y])[o]? = some y):=by show _=_;rw[←ho,List.getElem?_append_right (Nat.le_refl _)];simp
       rw[hlo]at OL ol ⊢;clear hrow2 hB2 hlo ho;have HE2:=Hd (HR2.out.its y (List.mem_of_getElem? HYI.out));obtain⟨k2,n2,p2,a2,b2,s2,r2,c2,d2,u2,e2,f2,hx2⟩:=HE2.out.shape;have HX2:=Hd hx2;have D20:Hid (At g2 (o*6) (.int .u8 (k2:Int)) _):=HR2.out.cell HYI.out (j:=0) (u:=.int .u8 (k2:Int)) (by rw[hx2];rfl);have D21:Hid (At g2 (o*6+1) (.int .i64 n2) _):=HR2.out.cell HYI.out (j:=1) (u:=.int .i64 n2) (by rw[hx2];rfl);have D22:Hid (At g2 (o*6+2) (.slice p2 a2 b2) _):=HR2.out.cell HYI.out (j:=2) (u:=.slice p2 a2 b2) (by rw[hx2];rfl);have D23:Hid (At g2 (o*6+3) (.bool s2) _):=HR2.out.cell HYI.out (j:=3) (u:=.bool s2) (by rw[hx2];rfl);have D24:Hid (At g2 (o*6+4) (.slice r2 c2 d2) _):=HR2.out.cell HYI.out (j:=4) (u:=.slice r2 c2 d2) (by rw[hx2];rfl);have D25:Hid (At g2 (o*6+5) (.slice u2 e2 f2) _):=HR2.out.cell HYI.out (j:=5) (u:=.slice u2 e2 f2) (by rw[hx2];rfl);clear hx2
       have hwo:IntKind.i64.wrap (((o+1:Nat):Int) - 1)=(o:Int):=by rw[IntWalk.i64_in _ (by omega)];omega
       have hlo1:(o:Int)<(o:Int)+1:=by omega
       have hwo3:IntKind.i64.wrap (o:Int)=(o:Int):=by rw[IntWalk.i64_in _ (by omega)]
       have HYV:Hid (y.1 = [.int .u8 (k2:Int),.int .i64 n2,.slice p2 a2 b2,.bool s2,.slice r2 c2 d2,.slice u2 e2 f2]):=congrArg Prod.fst HX2.out
       have hwo2:IntKind.i64.wrap ((o:Int)+1 - 1)=(o:Int):=by rw[IntWalk.i64_in _ (by omega)];omega
       clear m5 ol;go_wp2_with fail
       have HL:Hid (∀ W,Ext wr2 W→Calls Tryz.prog 53 #[.agg #[.int .u8 (k2:Int),.int .i64 n2,.slice p2 a2 b2,.bool s2,.slice r2 c2 d2,.slice u2 e2 f2],.agg #[.int .u8 (k1:Int),.int .i64 n1,.slice p1 a1 b1,.bool s1,.slice r1 c1 d1,.slice u1 e1 f1]] W fun e w'=>e = .returned (.int .i64 (cmpS y x))∧Ext W w'):=fun W hW=>by
        have h:=less_calls (HE2.out.ext hW) (HE1.out.ext hW);rw[HXV.out,HYV.out]at h;exact h
       have HADD:Hid (∀ W,Ext wr2 W→Calls Tryz.prog 31 #[.agg #[.bool s2,.slice r2 c2 d2,.slice u2 e2 f2],.agg #[.bool s1,.slice r1 c1 d1,.slice u1 e1 f1]] W (RetR W (y.2.2+x.2.2))):=fun W hW =>
        radd_is ((HE2.out.fra HX2.out (ODN.out y (by simp))).ext hW) ((HE1.out.fra HX1.out XDN.out).ext hW) (by decide)
       obtain⟨c0,hc0⟩:∃ c,cmpS y x=c:=⟨_,rfl⟩
       rw[hc0]at HL
       obtain⟨tb,htb⟩:∃ b,decide (c0=0)=b:=⟨_,rfl⟩
       have HC0:=Hd hc0;have HTB:=Hd htb
       obtain⟨W,hW⟩:∃ W,W=wr2.alloc (.cells #[.int .u8 (k1:Int),.int .i64 n1,.slice p1 a1 b1,.bool s1,.slice r1 c1 d1,.slice u1 e1 f1] 47):=⟨_,rfl⟩
       obtain⟨b12,hb12⟩:∃ s,wr2.heap.size=s:=⟨_,rfl⟩
       have XW:Hid (Ext wr2 W):=by rw[hW];exact eR.alloc _
       have B120:Hid (At b12 0 (.int .u8 (k1:Int)) W):=by rw[hW,←hb12];exact at_new rfl
       have B121:Hid (At b12 1 (.int .i64 n1) W):=by rw[hW,←hb12];exact at_new rfl
       have B122:Hid (At b12 2 (.slice p1 a1 b1) W):=by rw[hW,←hb12];exact at_new rfl
       have B123:Hid (At b12 3 (.bool s1) W):=by rw[hW,←hb12];exact at_new rfl
       have B124:Hid (At b12 4 (.slice r1 c1 d1) W):=by rw[hW,←hb12];exact at_new rfl
       have B125:Hid (At b12 5 (.slice u1 e1 f1) W):=by rw[hW,←hb12];exact at_new rfl
       have G12:Hid (b12<W.heap.size):=B120.out.2
       have BG2:Hid (b12≠g2):=by have:=HR2.out.lt;show _≠_;omega
       rw[hb12,←hW];clear hW hb12 hc0 htb h0 h1 h2 h3 h4 h5;refine wp_region_tail [50,51,52,53,54,55,56,57,58,59,60,61] [] (fun i=>([Sx.val (.int .i64 ((o:Int)+1)),Sx.val (.bool true),Sx.val (.bool true),Sx.val (.slice (some ⟨g2,0,none⟩) (o+1) cb),Sx.val (.int .i64 ((o:Int)+1)),Sx.val (.int .i64 (o:Int)),Sx.val (.pointer (some ⟨g2,o*6,none⟩)),Sx.val (.agg #[.int .u8 (k2:Int),.int .i64 n2,.slice p2 a2 b2,.bool s2,.slice r2 c2 d2,.slice u2 e2 f2]),Sx.val (.agg #[.int .u8 (k1:Int),.int .i64 n1,.slice p1 a1 b1,.bool s1,.slice r1 c1 d1,.slice u1 e1 f1]),Sx.val (.int .i64 c0),Sx.val (.bool tb),Sx.val (.bool tb)]:List Sx).getD i (Sx.val undef)) (by kernel_rfl) (by kernel_rfl) ?hs ?ht
       case hs =>
        refine⟨?_,?_,?_,?_,?_,?_,?_,?_,?_,?_,?_,?_,trivial⟩
        ·refine XStep.op rfl fun ac wk hp K hK=>?_;have t13_:ac.tmps[13]?.getD undef = .int .i64 ((o:Int)+1):=hp.slot 13 rfl rfl;clear hp;go_simp;exact hK.out _ _ rfl eR
        ·refine XStep.op rfl fun ac wk hp K hK=>?_;have t50_:=hp.v 0;clear hp;go_simp;exact hK.out _ _ (by first | rfl | (apply congrArg Value.bool;simp;done) | (apply congrArg Value.bool;simp;omega)) eR
        ·refine XStep.op rfl fun ac wk hp K hK=>?_;have t51_:=hp.v 1;clear hp;go_simp;exact hK.out _ _ rfl eR
        ·refine XStep.yes 2 true rfl (by decide +kernel) rfl rfl fun ac wk hp K hK=>?_;have t10_:ac.tmps[10]?.getD undef = .slice (some ⟨g2,0,none⟩) (o+1) cb:=hp.slot 10 rfl rfl;clear hp;go_simp;exact hK.out _ _ rfl eR
        ·refine XStep.yes 2 true rfl (by decide +kernel) rfl rfl fun ac wk hp K hK=>?_;have t13_:ac.tmps[13]?.getD undef = .int .i64 ((o:Int)+1):=hp.slot 13 rfl rfl;clear hp;go_simp;exact hK.out _ _ rfl eR
        ·refine XStep.yes 2 true rfl (by decide +kernel) rfl rfl fun ac wk hp K hK=>?_;have t54_:=hp.v 4;clear hp;go_simp;exact hK.out _ _ (by first | rfl | (apply congrArg (Value.int .i64);first | exact hwo2 | simp [hwo2,hwo3])) eR
        ·refine XStep.yes 2 true rfl (by decide +kernel) rfl rfl fun ac wk hp K hK=>?_;have t53_:=hp.v 3;have t55_:=hp.v 5;clear hp;go_simp;exact hK.out _ _ rfl eR
        ·refine XStep.yes 2 true rfl (by decide +kernel) rfl rfl fun ac wk hp K hK=>?_;have t56_:=hp.v 6;have q0:=((D20.out.ext XW.out).ext hp.ext).1;have q1:=((D21.out.ext XW.out).ext hp.ext).1;have q2:=((D22.out.ext XW.out).ext hp.ext).1;have q3:=((D23.out.ext XW.out).ext hp.ext).1;have q4:=((D24.out.ext XW.out).ext hp.ext).1;have q5:=((D25.out.ext XW.out).ext hp.ext).1;clear hp;go_simp;exact hK.out _ _ rfl eR
        ·refine XStep.yes 2 true rfl (by decide +kernel) rfl rfl fun ac wk hp K hK=>?_;have t12_:ac.tmps[12]?.getD undef = .pointer (some ⟨b12,0,none⟩):=hp.slot 12 rfl rfl;have q0:=(B120.out.ext hp.ext).1;have q1:=(B121.out.ext hp.ext).1;have q2:=(B122.out.ext hp.ext).1;have q3:=(B123.out.ext hp.ext).1;have q4:=(B124.out.ext hp.ext).1;have q5:=(B125.out.ext hp.ext).1;clear hp;go_simp;exact hK.out _ _ rfl eR
        ·refine XStep.yes 2 true rfl (by decide +kernel) rfl rfl fun ac wk hp K hK=>?_;have t57_:=hp.v 7;have t58_:=hp.v 8;have xe:=Hd (XW.out.trans hp.ext);clear hp;go_simp;refine (HL.out _ xe.out).mono ?_;rintro e wk' ⟨rfl,ix⟩;exact hK.out _ _ rfl ix
        ·refine XStep.yes 2 true rfl (by decide +kernel) rfl rfl fun ac wk hp K hK=>?_;have t59_:=hp.v 9;have htb:=HTB.out;clear hp;go_simp;exact hK.out _ _ (by first | rfl | (apply congrArg Value.bool;rw[←htb];first | rfl | simp | (cases h:decide (c0=0) <;> simp_all))) eR
        ·refine XStep.op rfl fun ac wk hp K hK=>?_;have t52_:=hp.v 2;have t60_:=hp.v 10;clear hp;go_simp;exact hK.out _ _ rfl eR
       case ht =>
        intro ac v2 hag hext hpost;have z11_:sl ac 61 = .bool tb:=hpost 11 (by decide +kernel) rfl;rw[hag.lay];simp only[lay,List.foldl_cons,List.foldl_nil,List.setIfInBounds_toArray,List.set_cons_zero,List.set_cons_succ,z11_];have X2:Hid (Ext wr2 v2):=XW.out.trans hext;have E120:=Hd (B120.out.ext hext);have E121:=Hd (B121.out.ext hext);have E122:=Hd (B122.out.ext hext);have E123:=Hd (B123.out.ext hext);have E124:=Hd (B124.out.ext hext);have E125:=Hd (B125.out.ext hext);have HR3:=Hd (HR2.out.ext X2.out);have G12E:=Hd (Nat.lt_of_lt_of_le G12.out hext.size);clear hag hpost z11_ hext B120 B121 B122 B123 B124 B125 XW G12;unfold seqTail
        cases tb
        case false =>
         have c120:=E120.out.1;have c121:=E121.out.1;have c122:=E122.out.1;have c123:=E123.out.1;have c124:=E124.out.1;have c125:=E125.out.1
         have HNE:Hid (cmpV y.2.1 x.2.1≠0):=fun h=>by
          have h1:=HTB.out;rw[←HC0.out]at h1;exact of_decide_eq_false h1 h
         go_wp2_with (at_builtin;refine append_share1 (B:=ws.heap.size) (R:=O' ++ [y]) (e:=x) rfl _ _ 25 Tryz.underlying25 rfl rfl rfl rfl rfl (by first | rfl | exact (Array.size_push ..).symm | simp) HXV.out (by have h:=HR3.out.all HB2.out;rw[HLO.out]at h;exact h) (HE1.out.ext X2.out) (by rw[HLO.out];have:=OL.out;have:=LT.out;have:=RL.out;omega) (Nat.le_trans XX2.out.size X2.out.size) ?_;intro v' w' hv' hb';have HV:=Hd hv';have HB:=Hd hb';clear hv' hb')
         obtain⟨pb2,cb2,hvs⟩:=HV.out.slice;have HV2:=HV.out;rw[hvs]at HV2;refine⟨⟨j+1,by first | rfl | simp | rw[hwj],LT.out,Ext.below (XX2.out.trans X2.out) HB.out,O' ++ [y] ++ [x],pb2,cb2,hvs,HV2,?_⟩,by simp only[intOf];have:=LT.out;omega⟩;rw[HTK.out,mergeP_snoc,←HOM.out];simp only[List.map_append,List.map_cons,List.map_nil];rw[mstep_ne _ _ _ HNE.out]
        case true =>
         go_wp2_with fail;refine wp_region_tail [62,63,64,65,66,67,68,69,70,71,72,73,74,75] [14] (fun i=>([Sx.val (.slice (some ⟨g2,0,none⟩) (o+1) cb),Sx.val (.int .i64 ((o:Int)+1)),Sx.val (.int .i64 (o:Int)),Sx.val (.slice (some ⟨g2,0,none⟩) (o+1) cb),Sx.val (.int .i64 ((o:Int)+1)),Sx.val (.int .i64 (o:Int)),Sx.val (.pointer (some ⟨g2,o*6,none⟩)),Sx.val (.pointer (some ⟨g2,o*6+3,none⟩)),Sx.val (.agg #[.bool s2,.slice r2 c2 d2,.slice u2 e2 f2]),Sx.val (.pointer (some ⟨b12,3,none⟩)),Sx.val (.agg #[.bool s1,.slice r1 c1 d1,.slice u1 e1 f1]),Sx.ownR (y.2.2+x.2.2),Sx.val (.pointer (some ⟨g2,o*6,none⟩)),Sx.val (.pointer (some ⟨g2,o*6+3,none⟩))]:List Sx).getD i (Sx.val undef)) (by kernel_rfl) (by kernel_rfl) ?hs ?ht
         case hs =>
          refine⟨?_,?_,?_,?_,?_,?_,?_,?_,?_,?_,?_,?_,?_,?_,fun _ => .inl rfl,trivial⟩
          ·refine XStep.op rfl fun ac wk hp K hK=>?_;have t10_:ac.tmps[10]?.getD undef = .slice (some ⟨g2,0,none⟩) (o+1) cb:=hp.slot 10 rfl rfl;clear hp;go_simp;exact hK.out _ _ rfl eR
          ·refine XStep.op rfl fun ac wk hp K hK=>?_;have t13_:ac.tmps[13]?.getD undef = .int .i64 ((o:Int)+1):=hp.slot 13 rfl rfl;clear hp;go_simp;exact hK.out _ _ rfl eR
          ·refine XStep.op rfl fun ac wk hp K hK=>?_;have t63_:=hp.v 1;clear hp;go_simp;exact hK.out _ _ (by first | rfl | (apply congrArg (Value.int .i64);first | exact hwo2 | simp [hwo2,hwo3])) eR
          ·refine XStep.op rfl fun ac wk hp K hK=>?_;have t10_:ac.tmps[10]?.getD undef = .slice (some ⟨g2,0,none⟩) (o+1) cb:=hp.slot 10 rfl rfl;clear hp;go_simp;exact hK.out _ _ rfl eR
          ·refine XStep.op rfl fun ac wk hp K hK=>?_;have t13_:ac.tmps[13]?.getD undef = .int .i64 ((o:Int)+1):=hp.slot 13 rfl rfl;clear hp;go_simp;exact hK.out _ _ rfl eR
          ·refine XStep.op rfl fun ac wk hp K hK=>?_;have t66_:=hp.v 4;clear hp;go_simp;exact hK.out _ _ (by first | rfl | (apply congrArg (Value.int .i64);first | exact hwo2 | simp [hwo2,hwo3])) eR
          ·refine XStep.op rfl fun ac wk hp K hK=>?_;have t65_:=hp.v 3;have t67_:=hp.v 5;clear hp;go_simp;exact hK.out _ _ rfl eR
          ·refine XStep.op rfl fun ac wk hp K hK=>?_;have t68_:=hp.v 6;clear hp;go_simp;exact hK.out _ _ rfl eR
          ·refine XStep.op rfl fun ac wk hp K hK=>?_;have t69_:=hp.v 7;have q3:=((D23.out.ext X2.out).ext hp.ext).1;have q4:=((D24.out.ext X2.out).ext hp.ext).1;have q5:=((D25.out.ext X2.out).ext hp.ext).1;clear hp;go_simp;exact hK.out _ _ rfl eR
          ·refine XStep.op rfl fun ac wk hp K hK=>?_;have t12_:ac.tmps[12]?.getD undef = .pointer (some ⟨b12,0,none⟩):=hp.slot 12 rfl rfl;clear hp;go_simp;exact hK.out _ _ rfl eR
          ·refine XStep.op rfl fun ac wk hp K hK=>?_;have t71_:=hp.v 9;have q3:=(E123.out.ext hp.ext).1;have q4:=(E124.out.ext hp.ext).1;have q5:=(E125.out.ext hp.ext).1;clear hp;go_simp;exact hK.out _ _ rfl eR
          ·refine XStep.op rfl fun ac wk hp K hK=>?_;have t70_:=hp.v 8;have t72_:=hp.v 10;have xe:=Hd (X2.out.trans hp.ext);clear hp;go_simp;refine (HADD.out _ xe.out).mono ?_;rintro e wk' ⟨sb,sv,su,sm,sd,rfl,e1,o1,ix⟩;obtain⟨sp1,sl1,sc1,tp1,tl1,tc1,rfl,rfl⟩:=e1.slice;obtain⟨g1,g2,g3,g4,g5⟩:=e1;exact hK.out _ _ ⟨_,_,_,_,_,_,_,rfl,g1,by rw[g2];exact o1.1.mono (Nat.zero_le _),by rw[g3];exact o1.2.mono (Nat.zero_le _)⟩ ix
          ·refine XStep.op rfl fun ac wk hp K hK=>?_;have t62_:=hp.v 0;have t64_:=hp.v 2;clear hp;go_simp;exact hK.out _ _ rfl eR
          ·refine XStep.op rfl fun ac wk hp K hK=>?_;have t74_:=hp.v 12;clear hp;go_simp;exact hK.out _ _ rfl eR
         case ht =>
          intro ac v3 hag hext hpost;obtain⟨s9,r9,c9,d9,u9,e9,f9,z11_,i73,j73,l73⟩:=hpost 11 (by decide +kernel) rfl;have z11_:sl ac 73 = .agg #[.bool s9,.slice r9 c9 d9,.slice u9 e9 f9]:=z11_;have z13_:sl ac 75 = .pointer (some ⟨g2,o*6+3,none⟩):=hpost 13 (by decide +kernel) rfl;rw[hag.lay];simp only[lay,List.foldl_cons,List.foldl_nil,List.setIfInBounds_toArray,List.set_cons_zero,List.set_cons_succ,z11_,z13_];have X3:Hid (Ext wr2 v3):=X2.out.trans hext;have HR4:=Hd (HR3.out.ext hext)
          have EY:Hid (ElO v3 ([.int .u8 (k2:Int),.int .i64 n2,.slice p2 a2 b2,.bool s9,.slice r9 c9 d9,.slice u9 e9 f9],y.2.1,y.2.2+x.2.2)):=by
           have h:=HE2.out.ext X3.out;rw[HX2.out]at h;exact h.newP i73 j73 l73
          have RN:=Hd (HR4.out.setP (by rw[←HX2.out];exact HYI.out) EY.out);have q3:=(D23.out.ext X3.out).1;have q4:=(D24.out.ext X3.out).1;have q5:=(D25.out.ext X3.out).1;have y3:=HR4.out.free (o*6+3);have y4:=HR4.out.free (o*6+4);have y5:=HR4.out.free (o*6+5);clear hag hpost z11_ z13_ hext i73 j73 l73 E120 E121 E122 E123 E124 E125;refine seqTail.op rfl rfl (fun K hK=>?_);have HK3:=Hd hK;clear hK;go_simp;refine HK3.out _ _ ?_;clear HK3
          show seqTail _ _ _ [] _ _
          unfold seqTail
          have HSET:Hid ((O' ++ [y]).set o (([.int .u8 (k2:Int),.int .i64 n2,.slice p2 a2 b2,.bool s9,.slice r9 c9 d9,.slice u9 e9 f9],y.2.1,y.2.2+x.2.2):Sh)=O' ++ [(([.int .u8 (k2:Int),.int .i64 n2,.slice p2 a2 b2,.bool s9,.slice r9 c9 d9,.slice u9 e9 f9],y.2.1,y.2.2+x.2.2):Sh)]):=by show _=_;rw[←HO'.out];simp
          rw[HSET.out]at RN;clear q3 q4 q5 y3 y4 y5;go_wp2_with fail;have hal:=RN.out.all HB2.out
          have HEQ:Hid (cmpV y.2.1 x.2.1=0):=by
           have h1:=of_decide_eq_true HTB.out;rw[←HC0.out]at h1;exact h1
          have hln:(O' ++ [(([.int .u8 (k2:Int),.int .i64 n2,.slice p2 a2 b2,.bool s9,.slice r9 c9 d9,.slice u9 e9 f9],y.2.1,y.2.2+x.2.2):Sh)]).length=o+1:=by rw[List.length_append,HO'.out];rfl
          refine⟨⟨j+1,by first | rfl | simp | rw[hwj],LT.out,?_,O' ++ [(([.int .u8 (k2:Int),.int .i64 n2,.slice p2 a2 b2,.bool s9,.slice r9 c9 d9,.slice u9 e9 f9],y.2.1,y.2.2+x.2.2):Sh)],some ⟨g2,0,none⟩,cb,by rw[hln],hal,?_⟩,by simp only[intOf];have:=LT.out;omega⟩
          ·exact Ext.below (XX2.out.trans X3.out) ((((Below.refl _ _).setCell HB2.out _).setCell HB2.out _).setCell HB2.out _)
          ·rw[HTK.out,mergeP_snoc,←HOM.out];simp only[List.map_append,List.map_cons,List.map_nil];rw[mstep_eq _ _ _ HEQ.out]
     ·have hli:¬ (j:Int)<(m:Int):=by omega
      have hjm:j=m:=by omega
      rw[hjm,List.take_of_length_le (by rw[List.length_map,SM.out];exact Nat.le_refl _)]at HOM
      have HG:Hid (Gath (madeL mk n) ((O.filter keep).map (·.2))):=gath_of SPM.out SS.out (fun h20 hs=>by
       have hml:(madeL mk n).length=m:=by rw[←HRM.out,List.length_map,HMM.out]
       have hs2:=hs;rw[←HRM.out]at hs2;have e:=SE.out (by omega) (sorted_pts hs2)
       rw[e];exact HRM.out) HOM.out
      have OL5:Hid (O.length≤100000):=by have:=OL.out;have:=RL.out;show _≤_;omega
      clear hlt hj hjm
      rcases OO.out.rowS with⟨rfl,hv⟩ | ⟨g2,cap2,hv,hB2,hrow2⟩
      ·rw[show ([]:List Sh).length=0 from rfl]at hv ⊢
       injection hv with hv1 _ hv2
       subst hv1 hv2;go_wp2_with fail;refine (delete_nil _).mono ?_;rintro e w2 ⟨rfl,rfl⟩;go_wp2_with fail;go_ret;exact⟨_,_,rfl,HG.out,SlS.nil _,XS.out.trans XX2.out⟩
      ·rw[hv];have HR2:=Hd hrow2;have HB2:=Hd hB2;have HDL:=Hd (delete_calls lowP HR2.out OL5.out rfl (by decide) ODN.out);have HCAP:=Hd hrow2.cap_le
       obtain⟨l,hl⟩:∃ l,O.length=l:=⟨_,rfl⟩
       rw[hl]at HDL ⊢;clear hv hrow2 hB2 hl;go_wp2_with fail;refine HDL.out.mono ?_;rintro e w2 ⟨rfl,hrv,hbl⟩;have HRV:=Hd hrv;have HBL:=Hd hbl;clear hrv hbl HDL;go_wp2_with fail;go_ret;exact⟨_,_,rfl,HG.out,rowV_slM HRV.out HCAP.out,Ext.below (XS.out.trans XX2.out) (HBL.out.mono (Nat.le_trans XS.out.size HB2.out))⟩
end Go.Proofs.YtfofjalebhajhaaGreatDoor
