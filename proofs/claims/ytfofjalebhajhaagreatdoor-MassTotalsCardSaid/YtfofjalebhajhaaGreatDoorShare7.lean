/- symMergeCmpFunc of shares: one share behind. -/
import Derived.Test.YtfofjalebhajhaaGreatDoorShare6
namespace Go.Proofs.YtfofjalebhajhaaGreatDoor
open Go Go.RowKit
set_option maxHeartbeats 2000000 in
set_option maxRecDepth 1000000 in
theorem symm2_calls {g cap:Nat}{R:List Sh}{w:World}(hR:RowS g cap R w) (hlen:R.length≤100000){P X T:List Sh}{y:Sh}(he:R=P ++ X ++ y :: T){m a k b:Nat}(hm:R.length=m) (ha:P.length=a) (hk:a+X.length=k) (hb:k+1=b) (hy:2≤X.length) (hs:SortedS X) :
  Calls Tryz.prog 135 #[.slice (some ⟨g,0,none⟩) m cap,.int .i64 (a:Int),.int .i64 (k:Int),.int .i64 (b:Int),.func (.func 53) #[] #[]] w fun e w'=>e = .returned (.tuple #[]) ∧ ∃ Z,RowS g cap (P ++ Z ++ T) w'∧Below g w w'∧Z.Perm (X ++ [y])∧SortedS Z:=by
 have HM:=Hd hm;have HR:=Hd hR;have HE:=Hd he;have HA:=Hd ha;have HK:=Hd hk;have HB:=Hd hb;have HS:=Hd hs
 have BM:Hid (b≤m):=by show _≤_;rw[←hm,he];simp;omega
 have M5:Hid (m≤100000):=by show _≤_;rw[←hm];exact hlen
 have bm:=BM.out;have m5:=M5.out
 obtain⟨d,hd⟩:∃ d,X.length=d:=⟨_,rfl⟩
 have hw0:IntKind.i64.wrap ((k:Int) - (a:Int))=(d:Int):=by rw[IntWalk.i64_in _ (by omega)];omega
 have hd1:¬ (d:Int)=1:=by omega
 have hd2:((d:Int) == 1)=false:=beq_eq_false_iff_ne.2 hd1
 have hw1:IntKind.i64.wrap ((b:Int) - (k:Int))=1:=by rw[IntWalk.i64_in _ (by omega)];omega
 have HXA:Hid (R[k]? = some y):=get_mid (A:=P ++ X) (B:=T) he (by rw[List.length_append];omega)
 have AK:Hid (a<k):=by show _<_;omega
 clear hR hm ha hb hk he hlen hy hs bm m5 hd
 go_enter Tryz.func135,Tryz.ntmps135
 go_wp2_with fail
 go_loopw [14,15] (fun v14 v15 wr => ∃ (ix j:Nat),v14 = .int .i64 (ix:Int)∧v15 = .int .i64 (j:Int)∧a≤ix∧ix≤j∧j≤k∧Ext w wr∧Hid (a<ix → ∀ z,R[ix - 1]? = some z→0≤cmpS y z)∧Hid (j<k → ∀ z,R[j]? = some z→cmpS y z<0)) (fun v14 v15 _=>(intOf v15).toNat - (intOf v14).toNat)
 case atStart=>exact⟨a,k,rfl,rfl,Nat.le_refl _,Nat.le_of_lt AK.out,Nat.le_refl _,Ext.refl _,fun h=>absurd h (Nat.lt_irrefl _),fun h=>absurd h (Nat.lt_irrefl _)⟩
 case round =>
  rename World=>wr
  obtain⟨ix,j,rfl,rfl,h1,h2,h3,hx,HLO,HHI⟩:=hrel;have XX:=Hd hx;have RR:=Hd (HR.out.ext hx);have H1:=Hd h1;have H3:=Hd h3;clear hx;have bm:=BM.out;have m5:=M5.out;have hkb:=HB.out
  by_cases hij:ix<j
  ·have IJ:=Hd hij
   obtain⟨h,hh⟩:∃ h,(ix+j) / 2=h:=⟨_,rfl⟩
   have ih:ix≤h:=by omega
   have hj:h<j:=by omega
   have IH:=Hd ih;have HJ:=Hd hj
   have hhm:h<m:=by omega
   have ham:k<m:=by omega
   have hm1:(h:Int)+1≤(m:Int):=by omega
   have am1:(k:Int)+1≤(m:Int):=by omega
   have hlt:(ix:Int)<(j:Int):=by omega
   have hwh:IntKind.i64.wrap ((h:Int)+1)=((h+1:Nat):Int):=by rw[IntWalk.i64_in _ (by omega)];omega
   have hws:IntKind.i64.wrap ((ix:Int)+(j:Int))=((ix+j:Nat):Int):=by rw[IntWalk.i64_in _ (by omega)];omega
   obtain⟨x,hy⟩:∃ y,R[h]? = some y:=⟨_,List.getElem?_eq_getElem (by rw[HM.out];exact hhm)⟩
   have HYH:=Hd hy
   obtain⟨r,hr⟩:∃ r,cmpS y x=r:=⟨_,rfl⟩
   obtain⟨cb,hcb⟩:∃ c,decide (r<0)=c:=⟨_,rfl⟩
   have HR2:=Hd hr;have HCB:=Hd hcb;have HE1:=Hd (RR.out.its y (List.mem_of_getElem? HXA.out));obtain⟨k1,n1,p1,a1,b1,s1,r1,c1,d1,u1,e1,f1,hx1⟩:=HE1.out.shape;have HX1:=Hd hx1;have D10:Hid (At g (k*6) (.int .u8 (k1:Int)) _):=RR.out.cell HXA.out (j:=0) (u:=.int .u8 (k1:Int)) (by rw[hx1];rfl);have D11:Hid (At g (k*6+1) (.int .i64 n1) _):=RR.out.cell HXA.out (j:=1) (u:=.int .i64 n1) (by rw[hx1];rfl);have D12:Hid (At g (k*6+2) (.slice p1 a1 b1) _):=RR.out.cell HXA.out (j:=2) (u:=.slice p1 a1 b1) (by rw[hx1];rfl);have D13:Hid (At g (k*6+3) (.bool s1) _):=RR.out.cell HXA.out (j:=3) (u:=.bool s1) (by rw[hx1];rfl);have D14:Hid (At g (k*6+4) (.slice r1 c1 d1) _):=RR.out.cell HXA.out (j:=4) (u:=.slice r1 c1 d1) (by rw[hx1];rfl);have D15:Hid (At g (k*6+5) (.slice u1 e1 f1) _):=RR.out.cell HXA.out (j:=5) (u:=.slice u1 e1 f1) (by rw[hx1];rfl);clear hx1;have HE2:=Hd (RR.out.its x (List.mem_of_getElem? HYH.out));obtain⟨k2,n2,p2,a2,b2,s2,r2,c2,d2,u2,e2,f2,hx2⟩:=HE2.out.shape;have HX2:=Hd hx2;have D20:Hid (At g (h*6) (.int .u8 (k2:Int)) _):=RR.out.cell HYH.out (j:=0) (u:=.int .u8 (k2:Int)) (by rw[hx2];rfl);have D21:Hid (At g (h*6+1) (.int .i64 n2) _):=RR.out.cell HYH.out (j:=1) (u:=.int .i64 n2) (by rw[hx2];rfl);have D22:Hid (At g (h*6+2) (.slice p2 a2 b2) _):=RR.out.cell HYH.out (j:=2) (u:=.slice p2 a2 b2) (by rw[hx2];rfl);have D23:Hid (At g (h*6+3) (.bool s2) _):=RR.out.cell HYH.out (j:=3) (u:=.bool s2) (by rw[hx2];rfl);have D24:Hid (At g (h*6+4) (.slice r2 c2 d2) _):=RR.out.cell HYH.out (j:=4) (u:=.slice r2 c2 d2) (by rw[hx2];rfl)
   have D25:Hid (At g (h*6+5) (.slice u2 e2 f2) _):=RR.out.cell HYH.out (j:=5) (u:=.slice u2 e2 f2) (by rw[hx2];rfl);clear hx2
   have hu0:IntKind.u64.wrap ((ix:Int)+(j:Int))=(ix:Int)+(j:Int):=by rw[IntWalk.u64_in _ (by omega)]
   have hu1:IntKind.i64.wrap (((ix:Int)+(j:Int)) / 2)=(h:Int):=by rw[IntWalk.i64_in _ (by omega)];omega
   clear hr hcb hy hh bm m5 h1 h2 h3 hij ih hj hkb;go_wp2_with fail;go_wp2_with fail;have hkeep51:AllAt' ([]:List (Nat × Nat × Value)) wr:=AllAt'.nil _;have hob51:ObOk wr.heap.size wr (([]:List (Nat × Nat × Value)).map (·.1)) ([]:List (Nat × List (Nat × Value))):=trivial;have hne51:AllNe (([]:List (Nat × List (Nat × Value))).map (·.1)):=trivial
   (try simp only[List.append_eq,List.cons_append,List.nil_append])
   refine wp_region_gen ⟨[92,93,94,95,96,97,98,99,100,101,102,103],fun i=>false,fun i=>([none,none,none,none,none,none,none,none,none,none,none,none]:List (Option (BoxRef × Nat))).getD i none,fun i=>([Sg.val (.func (.func 53) #[] #[]),Sg.val (.slice (some ⟨g,0,none⟩) m cap),Sg.val (.int .i64 (k:Int)),Sg.val (.pointer (some ⟨g,k*6,none⟩)),Sg.val (.agg #[.int .u8 (k1:Int),.int .i64 n1,.slice p1 a1 b1,.bool s1,.slice r1 c1 d1,.slice u1 e1 f1]),Sg.val (.slice (some ⟨g,0,none⟩) m cap),Sg.val (.int .i64 (h:Int)),Sg.val (.pointer (some ⟨g,h*6,none⟩)),Sg.val (.agg #[.int .u8 (k2:Int),.int .i64 n2,.slice p2 a2 b2,.bool s2,.slice r2 c2 d2,.slice u2 e2 f2]),Sg.val (.int .i64 r),Sg.val (.bool cb),Sg.val (.bool (!cb))]:List Sg).getD i Sg.any,[],[]⟩ wr.heap.size (by kernel_rfl) (by kernel_rfl) (Ext.refl wr).size ?hfr hkeep51 hob51 hne51 ?hs ?he
   case hfr =>
    intro i v wk hi hst hv;exact absurd hi (by simp)
   case hs =>
    refine⟨?_,?_,?_,?_,?_,?_,?_,?_,?_,?_,?_,?_,trivial⟩
    ·refine RStep.op rfl rfl fun ac wk hp K hK=>?_;have t4_:ac.tmps[4]?.getD undef = .func (.func 53) #[] #[]:=hp.slot 4 rfl rfl;have HP:=Hd hp;clear hp;go_simp;refine hK.out _ _ ?_ eR (fun h=>absurd h (by simp));exact rfl
    ·refine RStep.op rfl rfl fun ac wk hp K hK=>?_;have t0_:ac.tmps[0]?.getD undef = .slice (some ⟨g,0,none⟩) m cap:=hp.slot 0 rfl rfl;have HP:=Hd hp;clear hp;go_simp;refine hK.out _ _ ?_ eR (fun h=>absurd h (by simp));exact rfl
    ·refine RStep.op rfl rfl fun ac wk hp K hK=>?_;have t2_:ac.tmps[2]?.getD undef = .int .i64 (k:Int):=hp.slot 2 rfl rfl;have HP:=Hd hp;clear hp;go_simp;refine hK.out _ _ ?_ eR (fun h=>absurd h (by simp));exact rfl
    ·refine RStep.op rfl rfl fun ac wk hp K hK=>?_;have u1e:=hp.g 1;have t93_:ac.tmps[93]?.getD undef = .slice (some ⟨g,0,none⟩) m cap:=slot_is' u1e;have u2e:=hp.g 2;have t94_:ac.tmps[94]?.getD undef = .int .i64 (k:Int):=slot_is' u2e;have HP:=Hd hp;clear hp;go_simp;refine hK.out _ _ ?_ eR (fun h=>absurd h (by simp));exact (by first | rfl | (apply congrArg Value.bool;simp;done) | (apply congrArg Value.bool;simp;omega) | (simp [*];done))
    ·refine RStep.op rfl rfl fun ac wk hp K hK=>?_;have u3e:=hp.g 3;have t95_:ac.tmps[95]?.getD undef = .pointer (some ⟨g,k*6,none⟩):=slot_is' u3e;have HP:=Hd hp;clear hp;have q0:=(D10.out.ext HP.out.blw).1;have q1:=(D11.out.ext HP.out.blw).1;have q2:=(D12.out.ext HP.out.blw).1;have q3:=(D13.out.ext HP.out.blw).1;have q4:=(D14.out.ext HP.out.blw).1;have q5:=(D15.out.ext HP.out.blw).1;go_simp;refine hK.out _ _ ?_ eR (fun h=>absurd h (by simp));exact (by first | rfl | (apply congrArg Value.bool;simp;done) | (apply congrArg Value.bool;simp;omega) | (simp [*];done))
    ·refine RStep.op rfl rfl fun ac wk hp K hK=>?_;have t0_:ac.tmps[0]?.getD undef = .slice (some ⟨g,0,none⟩) m cap:=hp.slot 0 rfl rfl;have HP:=Hd hp;clear hp;go_simp;refine hK.out _ _ ?_ eR (fun h=>absurd h (by simp));exact rfl
    ·refine RStep.op rfl rfl fun ac wk hp K hK=>?_;have t16_:ac.tmps[16]?.getD undef = .int .i64 (h:Int):=hp.slot 16 rfl rfl;have HP:=Hd hp;clear hp;go_simp;refine hK.out _ _ ?_ eR (fun h=>absurd h (by simp));exact rfl
    ·refine RStep.op rfl rfl fun ac wk hp K hK=>?_;have u5e:=hp.g 5;have t97_:ac.tmps[97]?.getD undef = .slice (some ⟨g,0,none⟩) m cap:=slot_is' u5e;have u6e:=hp.g 6;have t98_:ac.tmps[98]?.getD undef = .int .i64 (h:Int):=slot_is' u6e;have HP:=Hd hp;clear hp;go_simp;refine hK.out _ _ ?_ eR (fun h=>absurd h (by simp));exact (by first | rfl | (apply congrArg Value.bool;simp;done) | (apply congrArg Value.bool;simp;omega) | (simp [*];done))
    ·refine RStep.op rfl rfl fun ac wk hp K hK=>?_;have u7e:=hp.g 7;have t99_:ac.tmps[99]?.getD undef = .pointer (some ⟨g,h*6,none⟩):=slot_is' u7e;have HP:=Hd hp;clear hp;have q0:=(D20.out.ext HP.out.blw).1;have q1:=(D21.out.ext HP.out.blw).1;have q2:=(D22.out.ext HP.out.blw).1;have q3:=(D23.out.ext HP.out.blw).1;have q4:=(D24.out.ext HP.out.blw).1;have q5:=(D25.out.ext HP.out.blw).1;go_simp;refine hK.out _ _ ?_ eR (fun h=>absurd h (by simp));exact (by first | rfl | (apply congrArg Value.bool;simp;done) | (apply congrArg Value.bool;simp;omega) | (simp [*];done))
    ·refine RStep.op rfl rfl fun ac wk hp K hK=>?_;have u0e:=hp.g 0;have t92_:ac.tmps[92]?.getD undef = .func (.func 53) #[] #[]:=slot_is' u0e;have u4e:=hp.g 4;have t96_:ac.tmps[96]?.getD undef = .agg #[.int .u8 (k1:Int),.int .i64 n1,.slice p1 a1 b1,.bool s1,.slice r1 c1 d1,.slice u1 e1 f1]:=slot_is' u4e;have u8e:=hp.g 8;have t100_:ac.tmps[100]?.getD undef = .agg #[.int .u8 (k2:Int),.int .i64 n2,.slice p2 a2 b2,.bool s2,.slice r2 c2 d2,.slice u2 e2 f2]:=slot_is' u8e;have HP:=Hd hp;clear hp;go_simp;refine (less_at HX1.out HX2.out HR2.out (HE1.out.ext HP.out.blw) (HE2.out.ext HP.out.blw)).mono ?_;rintro e wk' ⟨rfl,ix⟩;refine hK.out _ _ ?_ ix (fun h=>absurd h (by simp));exact rfl
    ·refine RStep.op rfl rfl fun ac wk hp K hK=>?_;have u9e:=hp.g 9;have t101_:ac.tmps[101]?.getD undef = .int .i64 r:=slot_is' u9e;have HP:=Hd hp;clear hp;have q0:=HCB.out;go_simp;refine hK.out _ _ ?_ eR (fun h=>absurd h (by simp));exact (by first | rfl | (apply congrArg Value.bool;simp;done) | (apply congrArg Value.bool;simp;omega) | (simp [*];done))
    ·refine RStep.op rfl rfl fun ac wk hp K hK=>?_;have u10e:=hp.g 10;have t102_:ac.tmps[102]?.getD undef = .bool cb:=slot_is' u10e;have HP:=Hd hp;clear hp;go_simp;refine hK.out _ _ ?_ eR (fun h=>absurd h (by simp));exact (by first | rfl | (apply congrArg Value.bool;simp;done) | (apply congrArg Value.bool;simp;omega) | (simp [*];done))
   case he =>
    intro ac v1 hM;have y51_0e:=hM.post 0 rfl rfl;have y51_1e:=hM.post 1 rfl rfl;have y51_2e:=hM.post 2 rfl rfl;have y51_3e:=hM.post 3 rfl rfl;have y51_4e:=hM.post 4 rfl rfl;have y51_5e:=hM.post 5 rfl rfl;have y51_6e:=hM.post 6 rfl rfl;have y51_7e:=hM.post 7 rfl rfl;have y51_8e:=hM.post 8 rfl rfl;have y51_9e:=hM.post 9 rfl rfl;have y51_10e:=hM.post 10 rfl rfl;have y51_11e:=hM.post 11 rfl rfl;have gv1:Gr wr v1:=hM.gr;have e1_:Ext wr v1:=Ext.below (Ext.refl wr) hM.blw;have z0_:sl ac 92 = .func (.func 53) #[] #[]:=y51_0e;have z1_:sl ac 93 = .slice (some ⟨g,0,none⟩) m cap:=y51_1e;have z2_:sl ac 94 = .int .i64 (k:Int):=y51_2e;have z3_:sl ac 95 = .pointer (some ⟨g,k*6,none⟩):=y51_3e;have z4_:sl ac 96 = .agg #[.int .u8 (k1:Int),.int .i64 n1,.slice p1 a1 b1,.bool s1,.slice r1 c1 d1,.slice u1 e1 f1]:=y51_4e;have z5_:sl ac 97 = .slice (some ⟨g,0,none⟩) m cap:=y51_5e;have z6_:sl ac 98 = .int .i64 (h:Int):=y51_6e;have z7_:sl ac 99 = .pointer (some ⟨g,h*6,none⟩):=y51_7e;have z8_:sl ac 100 = .agg #[.int .u8 (k2:Int),.int .i64 n2,.slice p2 a2 b2,.bool s2,.slice r2 c2 d2,.slice u2 e2 f2]:=y51_8e;have z9_:sl ac 101 = .int .i64 r:=y51_9e;have z10_:sl ac 102 = .bool cb:=y51_10e;have z11_:sl ac 103 = .bool (!cb):=y51_11e;rw[hM.ag.lay];simp only[lay,List.foldl_cons,List.foldl_nil,List.setIfInBounds_toArray,List.set_cons_zero,List.set_cons_succ,z0_,z1_,z2_,z3_,z4_,z5_,z6_,z7_,z8_,z9_,z10_,z11_];clear hM hkeep51 hob51 hne51 z0_ z1_ z2_ z3_ z4_ z5_ z6_ z7_ z8_ z9_ z10_ z11_ y51_0e y51_1e y51_2e y51_3e y51_4e y51_5e y51_6e y51_7e y51_8e y51_9e y51_10e y51_11e
    cases cb
    case false =>
     have hr0:¬ r<0:=of_decide_eq_false HCB.out;go_wp2_with fail;exact⟨⟨h+1,j,by first | rfl | (rw[hwh]) | simp,rfl,(by have:=H1.out;have:=IH.out;omega),HJ.out,H3.out,XX.out.trans e1_,fun _ z hz=>(by rw[Nat.add_sub_cancel,HYH.out]at hz;injection hz with hz;rw[←hz,HR2.out];omega),HHI⟩,by simp only[intOf];have:=HJ.out;have:=IH.out;omega⟩
    case true =>
     have hr0:r<0:=of_decide_eq_true HCB.out;go_wp2_with fail;exact⟨⟨ix,h,rfl,rfl,H1.out,IH.out,(by have:=H3.out;have:=HJ.out;omega),XX.out.trans e1_,HLO,fun _ z hz=>(by rw[HYH.out]at hz;injection hz with hz;rw[←hz,HR2.out];omega)⟩,by simp only[intOf];have:=HJ.out;have:=IH.out;omega⟩
  ·have hi:ix=j:=by omega
   subst hi
   have n1:¬ (ix:Int)<(ix:Int):=by omega
   clear h1 h2 h3 bm m5 hij hkb;go_wp2_with fail
   go_loopw [17] (fun v17 wr => ∃ (q:Nat) (L X1 X2:List Sh),v17 = .int .i64 (q:Int)∧ix≤q∧q≤k∧Hid (X=X1 ++ X2)∧Hid (a+X1.length=q)∧Hid (L=P ++ X1 ++ y :: X2 ++ T)∧RowS g cap L wr∧Below g w wr) (fun v17 _=>(intOf v17).toNat)
   case atStart=>exact⟨k,R,X,[],rfl,H3.out,Nat.le_refl _,by show _=_;simp,HK.out,by show _=_;rw[HE.out];simp,RR.out,(XX.out.mono (Nat.le_of_lt HR.out.lt))⟩
   case round =>
    rename World=>wq
    obtain⟨q,L,X1,X2,rfl,hq,hqk,HXX,HQ,HL,hRow,hBl⟩:=hrel;have RL:=Hd hRow;have HBL:=Hd hBl;have HQI:=Hd hq;have HQK:=Hd hqk;clear hRow hBl;have bm:=BM.out;have m5:=M5.out;have h3:=H3.out;have h1:=H1.out;have hkb:=HB.out
    by_cases hlt:ix<q
    ·have hlt1:(ix:Int)<(q:Int):=by omega
     obtain⟨q1,hq1⟩:∃ q1,q=q1+1:=⟨q - 1,by omega⟩
     have hwq:IntKind.i64.wrap ((q:Int) - 1)=(q1:Int):=by rw[IntWalk.i64_in _ (by omega)];omega
     have hqm:q<m:=by omega
     have hqm1:q1<m:=by omega
     have hm1:(q:Int)+1≤(m:Int):=by omega
     have hm2:(q1:Int)+1≤(m:Int):=by omega
     have HX1L:Hid (1≤X1.length):=by show 1≤_;have h2:=HQ.out;omega
     obtain⟨X3,x,hX⟩:∃ A x,X1=A ++ [x]:=by
      rcases List.eq_nil_or_concat X1 with e | ⟨A,x,e⟩
      ·rw[e]at HX1L;exact absurd HX1L.out (by simp)
      ·exact⟨A,x,by rw[e,List.concat_eq_append]⟩
     subst hX
     have hl1:q1=(P ++ X3).length:=by have h2:=HQ.out;rw[List.length_append]at h2 ⊢;rw[HA.out];simp at h2;omega
     have hl2:q=(P ++ X3).length+1+([]:List Sh).length:=by rw[←hl1];simp;omega
     have HLI:Hid (L[q]? = some y):=get_mid (A:=P ++ X3 ++ [x]) (B:=X2 ++ T) (by rw[HL.out];simp) (by rw[hl2];simp;omega);have HLJ:Hid (L[q1]? = some x):=get_mid (A:=P ++ X3) (B:=y :: X2 ++ T) (by rw[HL.out];simp) hl1
     have HNX:Hid ((L.set q x).set q1 y=P ++ X3 ++ y :: (x :: X2) ++ T):=by
      show _=_
      rw[HL.out,show P ++ (X3 ++ [x]) ++ y :: X2 ++ T=(P ++ X3) ++ x :: [] ++ y :: (X2 ++ T) by simp,set_two' hl1 hl2];simp
     have HQ1:=Hd hq1;have LT:=Hd hlt
     have hne:q1<q:=by omega
     clear hl1 hl2 hq1 bm m5 h3 hlt hq h1 hkb hqk;go_wp2_with fail
     obtain⟨wd,hwd⟩:∃ wd,World.drew wq=wd:=⟨_,rfl⟩
     have RD:Hid (RowS g cap L wd):=hwd ▸ RL.out.ext eR.drew;have BD:Hid (Below g w wd):=hwd ▸ HBL.out.drew;have HE1:=Hd (RD.out.its y (List.mem_of_getElem? HLI.out));obtain⟨k1,n1,p1,a1,b1,s1,r1,c1,d1,u1,e1,f1,hx1⟩:=HE1.out.shape;have HX1:=Hd hx1;have D10:Hid (At g (q*6) (.int .u8 (k1:Int)) _):=RD.out.cell HLI.out (j:=0) (u:=.int .u8 (k1:Int)) (by rw[hx1];rfl);have D11:Hid (At g (q*6+1) (.int .i64 n1) _):=RD.out.cell HLI.out (j:=1) (u:=.int .i64 n1) (by rw[hx1];rfl);have D12:Hid (At g (q*6+2) (.slice p1 a1 b1) _):=RD.out.cell HLI.out (j:=2) (u:=.slice p1 a1 b1) (by rw[hx1];rfl);have D13:Hid (At g (q*6+3) (.bool s1) _):=RD.out.cell HLI.out (j:=3) (u:=.bool s1) (by rw[hx1];rfl);have D14:Hid (At g (q*6+4) (.slice r1 c1 d1) _):=RD.out.cell HLI.out (j:=4) (u:=.slice r1 c1 d1) (by rw[hx1];rfl);have D15:Hid (At g (q*6+5) (.slice u1 e1 f1) _):=RD.out.cell HLI.out (j:=5) (u:=.slice u1 e1 f1) (by rw[hx1];rfl);clear hx1;have HE2:=Hd (RD.out.its x (List.mem_of_getElem? HLJ.out));obtain⟨k2,n2,p2,a2,b2,s2,r2,c2,d2,u2,e2,f2,hx2⟩:=HE2.out.shape;have HX2:=Hd hx2;have D20:Hid (At g (q1*6) (.int .u8 (k2:Int)) _):=RD.out.cell HLJ.out (j:=0) (u:=.int .u8 (k2:Int)) (by rw[hx2];rfl);have D21:Hid (At g (q1*6+1) (.int .i64 n2) _):=RD.out.cell HLJ.out (j:=1) (u:=.int .i64 n2) (by rw[hx2];rfl);have D22:Hid (At g (q1*6+2) (.slice p2 a2 b2) _):=RD.out.cell HLJ.out (j:=2) (u:=.slice p2 a2 b2) (by rw[hx2];rfl);have D23:Hid (At g (q1*6+3) (.bool s2) _):=RD.out.cell HLJ.out (j:=3) (u:=.bool s2) (by rw[hx2];rfl)
     have D24:Hid (At g (q1*6+4) (.slice r2 c2 d2) _):=RD.out.cell HLJ.out (j:=4) (u:=.slice r2 c2 d2) (by rw[hx2];rfl);have D25:Hid (At g (q1*6+5) (.slice u2 e2 f2) _):=RD.out.cell HLJ.out (j:=5) (u:=.slice u2 e2 f2) (by rw[hx2];rfl);clear hx2
     obtain⟨w6,hw6⟩:∃ w6,((((((wd.setCell ⟨g,q*6,none⟩ (.int .u8 (k2:Int))).setCell ⟨g,q*6+1,none⟩ (.int .i64 n2)).setCell ⟨g,q*6+2,none⟩ (.slice p2 a2 b2)).setCell ⟨g,q*6+3,none⟩ (.bool s2)).setCell ⟨g,q*6+4,none⟩ (.slice r2 c2 d2)).setCell ⟨g,q*6+5,none⟩ (.slice u2 e2 f2))=w6:=⟨_,rfl⟩
     have RS6:Hid (RowS g cap (List.set L q x) w6):=hw6 ▸ sw_row RD.out HLI.out HX2.out (RD.out.its x (List.mem_of_getElem? HLJ.out));have BS6:Hid (Below g w w6):=hw6 ▸ below6 BD.out _ _ _ _ _ _ _ _ _ _ _ _;have EX6:Hid (ElO w6 y):=hw6 ▸ (RD.out.its y (List.mem_of_getElem? HLI.out)).set6 RD.out.ty (q*6) (q*6+1) (q*6+2) (q*6+3) (q*6+4) (q*6+5) (.int .u8 (k2:Int)) (.int .i64 n2) (.slice p2 a2 b2) (.bool s2) (.slice r2 c2 d2) (.slice u2 e2 f2)
     have HJ3:Hid ((List.set L q x)[q1]? = some x):=by show _=_;rw[List.getElem?_set_ne (by omega)];exact HLJ.out
     (try simp only[List.append_eq,List.cons_append,List.nil_append])
     refine wp_region_fix ⟨[113,114,115,116,117,118,119,120,121,122,123,124,125,126,127,128],fun ix=>([.slice (some ⟨g,0,none⟩) m cap,.int .i64 (q:Int),.slice (some ⟨g,0,none⟩) m cap,.int .i64 (q:Int),.int .i64 (q1:Int),.slice (some ⟨g,0,none⟩) m cap,.int .i64 (q:Int),.int .i64 (q1:Int),.pointer (some ⟨g,q1*6,none⟩),.agg #[.int .u8 (k2:Int),.int .i64 n2,.slice p2 a2 b2,.bool s2,.slice r2 c2 d2,.slice u2 e2 f2],.slice (some ⟨g,0,none⟩) m cap,.int .i64 (q:Int),.pointer (some ⟨g,q*6,none⟩),.agg #[.int .u8 (k1:Int),.int .i64 n1,.slice p1 a1 b1,.bool s1,.slice r1 c1 d1,.slice u1 e1 f1],.pointer (some ⟨g,q*6,none⟩),undef,.pointer (some ⟨g,q1*6,none⟩),undef]:List Value).getD ix undef,[15,17],fun ix=>([none,none,none,none,none,none,none,none,none,none,none,none,none,none,none,some 0,none,some 1]:List (Option Nat)).getD ix none,fun ix=>([true,true,true,true,true,true,true,true,true,false,true,true,true,false,true,false,true,false]:List Bool).getD ix false,fun ix=>([wd,w6,((((((w6.setCell ⟨g,q1*6,none⟩ (.int .u8 (k1:Int))).setCell ⟨g,q1*6+1,none⟩ (.int .i64 n1)).setCell ⟨g,q1*6+2,none⟩ (.slice p1 a1 b1)).setCell ⟨g,q1*6+3,none⟩ (.bool s1)).setCell ⟨g,q1*6+4,none⟩ (.slice r1 c1 d1)).setCell ⟨g,q1*6+5,none⟩ (.slice u1 e1 f1))]:List World).getD ix wd⟩ hwd.symm (by kernel_rfl) (by kernel_rfl) ?hs ?he
     case hs =>
      refine⟨?_,?_,?_,?_,?_,?_,?_,?_,?_,?_,?_,?_,?_,?_,?_,?_,?_,?_,trivial⟩
      ·refine FStep.late rfl rfl fun ac hp wk K hK=>?_;have t0_:ac.tmps[0]?.getD undef = .slice (some ⟨g,0,none⟩) m cap:=hp.slot 0 rfl rfl;clear hp;go_simp;exact hK.out _ (by first | rfl | simp [*])
      ·refine FStep.late rfl rfl fun ac hp wk K hK=>?_;have t17_:ac.tmps[17]?.getD undef = .int .i64 (q:Int):=hp.slot 17 rfl rfl;clear hp;go_simp;exact hK.out _ (by first | rfl | simp [*])
      ·refine FStep.late rfl rfl fun ac hp wk K hK=>?_;have t0_:ac.tmps[0]?.getD undef = .slice (some ⟨g,0,none⟩) m cap:=hp.slot 0 rfl rfl;clear hp;go_simp;exact hK.out _ (by first | rfl | simp [*])
      ·refine FStep.late rfl rfl fun ac hp wk K hK=>?_;have t17_:ac.tmps[17]?.getD undef = .int .i64 (q:Int):=hp.slot 17 rfl rfl;clear hp;go_simp;exact hK.out _ (by first | rfl | simp [*])
      ·refine FStep.late rfl rfl fun ac hp wk K hK=>?_;have u3e:=hp.g 3;have t116_:ac.tmps[116]?.getD undef = .int .i64 (q:Int):=slot_is' u3e;clear hp;go_simp;exact hK.out _ (by first | rfl | simp [*])
      ·refine FStep.late rfl rfl fun ac hp wk K hK=>?_;have t0_:ac.tmps[0]?.getD undef = .slice (some ⟨g,0,none⟩) m cap:=hp.slot 0 rfl rfl;clear hp;go_simp;exact hK.out _ (by first | rfl | simp [*])
      ·refine FStep.late rfl rfl fun ac hp wk K hK=>?_;have t17_:ac.tmps[17]?.getD undef = .int .i64 (q:Int):=hp.slot 17 rfl rfl;clear hp;go_simp;exact hK.out _ (by first | rfl | simp [*])
      ·refine FStep.late rfl rfl fun ac hp wk K hK=>?_;have u6e:=hp.g 6;have t119_:ac.tmps[119]?.getD undef = .int .i64 (q:Int):=slot_is' u6e;clear hp;go_simp;exact hK.out _ (by first | rfl | simp [*])
      ·refine FStep.late rfl rfl fun ac hp wk K hK=>?_;have u5e:=hp.g 5;have t118_:ac.tmps[118]?.getD undef = .slice (some ⟨g,0,none⟩) m cap:=slot_is' u5e;have u7e:=hp.g 7;have t120_:ac.tmps[120]?.getD undef = .int .i64 (q1:Int):=slot_is' u7e;clear hp;go_simp;exact hK.out _ (by first | rfl | simp [*])
      ·refine FStep.read rfl rfl rfl (fun ac hp wk K hw hK=>?_);have u8e:=hp.g 8;have t121_:ac.tmps[121]?.getD undef = .pointer (some ⟨g,q1*6,none⟩):=slot_is' u8e;clear hp;have hw2:wk=wd:=hw;clear hw;rw[hw2]at hK ⊢;clear hw2;have h0:=D20.out.1;have h1:=D21.out.1;have h2:=D22.out.1;have h3:=D23.out.1;have h4:=D24.out.1;have h5:=D25.out.1;clear hwd hw6;go_simp;exact hK.out _ (by first | rfl | simp [*])
      ·refine FStep.late rfl rfl fun ac hp wk K hK=>?_;have t0_:ac.tmps[0]?.getD undef = .slice (some ⟨g,0,none⟩) m cap:=hp.slot 0 rfl rfl;clear hp;go_simp;exact hK.out _ (by first | rfl | simp [*])
      ·refine FStep.late rfl rfl fun ac hp wk K hK=>?_;have t17_:ac.tmps[17]?.getD undef = .int .i64 (q:Int):=hp.slot 17 rfl rfl;clear hp;go_simp;exact hK.out _ (by first | rfl | simp [*])
      ·refine FStep.late rfl rfl fun ac hp wk K hK=>?_;have u10e:=hp.g 10;have t123_:ac.tmps[123]?.getD undef = .slice (some ⟨g,0,none⟩) m cap:=slot_is' u10e;have u11e:=hp.g 11;have t124_:ac.tmps[124]?.getD undef = .int .i64 (q:Int):=slot_is' u11e;clear hp;go_simp;exact hK.out _ (by first | rfl | simp [*])
      ·refine FStep.read rfl rfl rfl (fun ac hp wk K hw hK=>?_);have u12e:=hp.g 12;have t125_:ac.tmps[125]?.getD undef = .pointer (some ⟨g,q*6,none⟩):=slot_is' u12e;clear hp;have hw2:wk=wd:=hw;clear hw;rw[hw2]at hK ⊢;clear hw2;have h0:=D10.out.1;have h1:=D11.out.1;have h2:=D12.out.1;have h3:=D13.out.1;have h4:=D14.out.1;have h5:=D15.out.1;clear hwd hw6;go_simp;exact hK.out _ (by first | rfl | simp [*])
      ·refine FStep.late rfl rfl fun ac hp wk K hK=>?_;have u0e:=hp.g 0;have t113_:ac.tmps[113]?.getD undef = .slice (some ⟨g,0,none⟩) m cap:=slot_is' u0e;have u1e:=hp.g 1;have t114_:ac.tmps[114]?.getD undef = .int .i64 (q:Int):=slot_is' u1e;clear hp;go_simp;exact hK.out _ (by first | rfl | simp [*])
      ·refine FStep.store 0 rfl rfl (fun ac hp wk K hw hK=>?_);have u14e:=hp.g 14;have t127_:ac.tmps[127]?.getD undef = .pointer (some ⟨g,q*6,none⟩):=slot_is' u14e;have u9e:=hp.g 9;have t122_:ac.tmps[122]?.getD undef = .agg #[.int .u8 (k2:Int),.int .i64 n2,.slice p2 a2 b2,.bool s2,.slice r2 c2 d2,.slice u2 e2 f2]:=slot_is' u9e;clear hp;have hw2:wk=wd:=hw;clear hw;rw[hw2];clear hw2;have h0:=D10.out.1;have z0:=RD.out.free (q*6);have h1:=D11.out.1;have z1:=RD.out.free (q*6+1);have h2:=D12.out.1;have z2:=RD.out.free (q*6+2);have h3:=D13.out.1;have z3:=RD.out.free (q*6+3);have h4:=D14.out.1;have z4:=RD.out.free (q*6+4);have h5:=D15.out.1;have z5:=RD.out.free (q*6+5);have hw6:=Hd hw6;clear hwd;go_simp;exact hK.out _ (by first | exact hw6.out | rfl)
      ·refine FStep.late rfl rfl fun ac hp wk K hK=>?_;have u2e:=hp.g 2;have t115_:ac.tmps[115]?.getD undef = .slice (some ⟨g,0,none⟩) m cap:=slot_is' u2e;have u4e:=hp.g 4;have t117_:ac.tmps[117]?.getD undef = .int .i64 (q1:Int):=slot_is' u4e;clear hp;go_simp;exact hK.out _ (by first | rfl | simp [*])
      ·refine FStep.store 1 rfl rfl (fun ac hp wk K hw hK=>?_);have u16e:=hp.g 16;have t128_:ac.tmps[128]?.getD undef = .pointer (some ⟨g,q1*6,none⟩):=slot_is' u16e;have u13e:=hp.g 13;have t126_:ac.tmps[126]?.getD undef = .agg #[.int .u8 (k1:Int),.int .i64 n1,.slice p1 a1 b1,.bool s1,.slice r1 c1 d1,.slice u1 e1 f1]:=slot_is' u13e;clear hp;have hw2:wk=w6:=hw;clear hw;rw[hw2];clear hw2;have h0:World.cell? w6 ⟨g,q1*6,none⟩=(some (.int .u8 (k2:Int)):Option Value):=(RS6.out.cell HJ3.out (j:=0) (u:=.int .u8 (k2:Int)) (by rw[HX2.out];rfl)).1;have z0:=RS6.out.free (q1*6);have h1:World.cell? w6 ⟨g,q1*6+1,none⟩=(some (.int .i64 n2):Option Value):=(RS6.out.cell HJ3.out (j:=1) (u:=.int .i64 n2) (by rw[HX2.out];rfl)).1;have z1:=RS6.out.free (q1*6+1);have h2:World.cell? w6 ⟨g,q1*6+2,none⟩=(some (.slice p2 a2 b2):Option Value):=(RS6.out.cell HJ3.out (j:=2) (u:=.slice p2 a2 b2) (by rw[HX2.out];rfl)).1;have z2:=RS6.out.free (q1*6+2);have h3:World.cell? w6 ⟨g,q1*6+3,none⟩=(some (.bool s2):Option Value):=(RS6.out.cell HJ3.out (j:=3) (u:=.bool s2) (by rw[HX2.out];rfl)).1;have z3:=RS6.out.free (q1*6+3);have h4:World.cell? w6 ⟨g,q1*6+4,none⟩=(some (.slice r2 c2 d2):Option Value):=(RS6.out.cell HJ3.out (j:=4) (u:=.slice r2 c2 d2) (by rw[HX2.out];rfl)).1;have z4:=RS6.out.free (q1*6+4);have h5:World.cell? w6 ⟨g,q1*6+5,none⟩=(some (.slice u2 e2 f2):Option Value):=(RS6.out.cell HJ3.out (j:=5) (u:=.slice u2 e2 f2) (by rw[HX2.out];rfl)).1;have z5:=RS6.out.free (q1*6+5);clear hwd;go_simp
       exact hK.out _ (by first | exact hw6.out | rfl)
     case he =>
      intro ac wz hwz hag hM
      have RZ:Hid (RowS g cap (List.set (List.set L q x) q1 y) wz):=by rw[hwz];exact sw_row RS6.out HJ3.out HX1.out EX6.out
      have BZ:Hid (Below g w wz):=by rw[hwz];exact below6 BS6.out _ _ _ _ _ _ _ _ _ _ _ _
      have y0_:sl ac 113 = .slice (some ⟨g,0,none⟩) m cap:=hM 0 (by decide) rfl;have y1_:sl ac 114 = .int .i64 (q:Int):=hM 1 (by decide) rfl;have y2_:sl ac 115 = .slice (some ⟨g,0,none⟩) m cap:=hM 2 (by decide) rfl;have y3_:sl ac 116 = .int .i64 (q:Int):=hM 3 (by decide) rfl;have y4_:sl ac 117 = .int .i64 (q1:Int):=hM 4 (by decide) rfl;have y5_:sl ac 118 = .slice (some ⟨g,0,none⟩) m cap:=hM 5 (by decide) rfl;have y6_:sl ac 119 = .int .i64 (q:Int):=hM 6 (by decide) rfl;have y7_:sl ac 120 = .int .i64 (q1:Int):=hM 7 (by decide) rfl;have y8_:sl ac 121 = .pointer (some ⟨g,q1*6,none⟩):=hM 8 (by decide) rfl;have y9_:sl ac 122 = .agg #[.int .u8 (k2:Int),.int .i64 n2,.slice p2 a2 b2,.bool s2,.slice r2 c2 d2,.slice u2 e2 f2]:=hM 9 (by decide) rfl;have y10_:sl ac 123 = .slice (some ⟨g,0,none⟩) m cap:=hM 10 (by decide) rfl;have y11_:sl ac 124 = .int .i64 (q:Int):=hM 11 (by decide) rfl;have y12_:sl ac 125 = .pointer (some ⟨g,q*6,none⟩):=hM 12 (by decide) rfl;have y13_:sl ac 126 = .agg #[.int .u8 (k1:Int),.int .i64 n1,.slice p1 a1 b1,.bool s1,.slice r1 c1 d1,.slice u1 e1 f1]:=hM 13 (by decide) rfl;have y14_:sl ac 127 = .pointer (some ⟨g,q*6,none⟩):=hM 14 (by decide) rfl;have y16_:sl ac 128 = .pointer (some ⟨g,q1*6,none⟩):=hM 16 (by decide) rfl;rw[hag.lay];simp only[lay,List.foldl_cons,List.foldl_nil,List.setIfInBounds_toArray,List.set_cons_zero,List.set_cons_succ,y0_,y1_,y2_,y3_,y4_,y5_,y6_,y7_,y8_,y9_,y10_,y11_,y12_,y13_,y14_,y16_];clear hwz hag hM hwd hw6 y0_ y1_ y2_ y3_ y4_ y5_ y6_ y7_ y8_ y9_ y10_ y11_ y12_ y13_ y14_ y16_;clear D10 D11 D12 D13 D14 D15 D20 D21 D22 D23 D24 D25;have hsw:=RZ.out;rw[HNX.out]at hsw
      go_wp2_with fail;exact⟨⟨q1,_,X3,x :: X2,by first | rfl | rw[hwq],(by have:=LT.out;have:=HQ1.out;omega),(by have:=HQK.out;have:=HQ1.out;omega),by show _=_;rw[HXX.out];simp,by show _=_;have h2:=HQ.out;rw[List.length_append]at h2;have:=HQ1.out;simp at h2;omega,rfl,hsw,BZ.out⟩,by simp only[intOf];have:=HQ1.out;omega⟩
    ·have hi:q=ix:=by omega
     have t1:¬ (ix:Int)<(q:Int):=by omega
     have hlen1:a+X1.length=ix:=by have:=HQ.out;omega
     have hfin:SortedS (X1 ++ y :: X2):=by
      refine put_sorted (by rw[←HXX.out];exact HS.out) (fun A z e=>?_) (fun z B e=>?_)
      ·refine leS_of_nlt (HLO.out (by rw[←hlen1,e];simp) z ?_);refine get_mid (A:=P ++ A) (B:=X2 ++ y :: T) (by rw[HE.out,HXX.out,e];simp) ?_;rw[e]at hlen1;simp at hlen1 ⊢;have:=HA.out;omega
      ·have h5:=HHI.out (by have h5:=HK.out;rw[HXX.out,e,List.length_append,List.length_cons]at h5;omega) z (get_mid (A:=P ++ X1) (B:=B ++ y :: T) (by rw[HE.out,HXX.out,e];simp) (by simp;have:=HA.out;omega));exact leS_of_lt h5
     have HF:=Hd hfin;clear bm m5 h3 hlt hq hlen1 hfin hi h1 hkb hqk;go_wp2_with fail
     ((try simp only[Exit.inBlock,Exit.then]);refine bodyPost_ret (results_none rfl _ _ _) rfl ?_)
     refine⟨rfl,X1 ++ y :: X2,?_,HBL.out,?_,HF.out⟩
     ·have h:=RL.out;rw[HL.out]at h;simpa using h
     ·rw[HXX.out];exact List.perm_middle.trans (List.perm_append_comm (l₁:=[y]))
end Go.Proofs.YtfofjalebhajhaaGreatDoor
