/- symMergeCmpFunc of shares: one share ahead. -/
import Derived.Test.YtfofjalebhajhaaGreatDoorShare5
namespace Go.Proofs.YtfofjalebhajhaaGreatDoor
open Go Go.RowKit
theorem put_sorted {Y1 Y2:List Sh}{x:Sh}(hs:SortedS (Y1 ++ Y2)) (hlo:∀ A y,Y1=A ++ [y]→leS y x) (hhi:∀ y B,Y2=y :: B→leS x y):SortedS (Y1 ++ x :: Y2):=by
 have h:=List.pairwise_append.1 hs
 have h2:∀ z∈Y2,leS x z:=by
  intro z hz
  cases Y2 with
  | nil=>cases hz
  | cons y B =>
   have h1:=hhi y B rfl
   rcases List.mem_cons.1 hz with e | hz
   ·rw[e];exact h1
   ·exact leS_trans h1 ((List.pairwise_cons.1 h.2.1).1 z hz)
 have h3:∀ z∈Y1,leS z x:=by
  intro z hz
  rcases List.eq_nil_or_concat Y1 with e | ⟨A,y,e⟩
  ·rw[e]at hz;cases hz
  ·rw[List.concat_eq_append]at e;have h1:=hlo A y e;rw[e]at hz
   rcases List.mem_append.1 hz with hz | hz
   ·have h4:=h.1;rw[e]at h4;exact leS_trans ((List.pairwise_append.1 h4).2.2 z hz y (by simp)) h1
   ·simp at hz;rw[hz];exact h1
 refine List.pairwise_append.2 ⟨h.1,List.pairwise_cons.2 ⟨h2,h.2.1⟩,fun y hy z hz=>?_⟩
 rcases List.mem_cons.1 hz with e | hz
 ·rw[e];exact h3 y hy
 ·exact leS_trans (h3 y hy) (h2 z hz)
theorem leS_of_lt {x y:Sh}(h:cmpS x y<0):leS x y:=Int.le_of_lt h
theorem leS_of_nlt {x y:Sh}(h:0≤cmpS y x):leS x y:=by have:=cmpS_swap y x;show cmpS x y≤0;omega
set_option maxHeartbeats 2000000 in
set_option maxRecDepth 1000000 in
theorem symm1_calls {g cap:Nat}{R:List Sh}{w:World}(hR:RowS g cap R w) (hlen:R.length≤100000){P Y T:List Sh}{x:Sh}(he:R=P ++ x :: Y ++ T){m a k b:Nat}(hm:R.length=m) (ha:P.length=a) (hk:a+1=k) (hb:k+Y.length=b) (hy:1≤Y.length) (hs:SortedS Y) :
  Calls Tryz.prog 135 #[.slice (some ⟨g,0,none⟩) m cap,.int .i64 (a:Int),.int .i64 (k:Int),.int .i64 (b:Int),.func (.func 53) #[] #[]] w fun e w'=>e = .returned (.tuple #[]) ∧ ∃ Z,RowS g cap (P ++ Z ++ T) w'∧Below g w w'∧Z.Perm (x :: Y)∧SortedS Z:=by
 have HM:=Hd hm;have HR:=Hd hR;have HE:=Hd he;have HA:=Hd ha;have HK:=Hd hk;have HB:=Hd hb;have HS:=Hd hs
 have BM:Hid (b≤m):=by show _≤_;rw[←hm,he];simp;omega
 have M5:Hid (m≤100000):=by show _≤_;rw[←hm];exact hlen
 have bm:=BM.out;have m5:=M5.out
 have hw1:IntKind.i64.wrap ((k:Int) - (a:Int))=1:=by rw[IntWalk.i64_in _ (by omega)];omega
 have HXA:Hid (R[a]? = some x):=get_mid (A:=P) (B:=Y ++ T) (by rw[he];simp) ha.symm
 have KB:Hid (k<b):=by show _<_;omega
 clear hR hm ha hb hk he hlen hy hs bm m5
 go_enter Tryz.func135,Tryz.ntmps135
 go_wp2_with fail
 go_loopw [10,11] (fun v10 v11 wr => ∃ (ix j:Nat),v10 = .int .i64 (ix:Int)∧v11 = .int .i64 (j:Int)∧k≤ix∧ix≤j∧j≤b∧Ext w wr∧Hid (k<ix → ∀ y,R[ix - 1]? = some y→cmpS y x<0)∧Hid (j<b → ∀ y,R[j]? = some y→0≤cmpS y x)) (fun v10 v11 _=>(intOf v11).toNat - (intOf v10).toNat)
 case atStart=>exact⟨k,b,rfl,rfl,Nat.le_refl _,Nat.le_of_lt KB.out,Nat.le_refl _,Ext.refl _,fun h=>absurd h (Nat.lt_irrefl _),fun h=>absurd h (Nat.lt_irrefl _)⟩
 case round =>
  rename World=>wr
  obtain⟨ix,j,rfl,rfl,h1,h2,h3,hx,HLO,HHI⟩:=hrel;have XX:=Hd hx;have RR:=Hd (HR.out.ext hx);have H1:=Hd h1;have H3:=Hd h3;clear hx;have bm:=BM.out;have m5:=M5.out
  by_cases hij:ix<j
  ·have IJ:=Hd hij
   obtain⟨h,hh⟩:∃ h,(ix+j) / 2=h:=⟨_,rfl⟩
   have ih:ix≤h:=by omega
   have hj:h<j:=by omega
   have IH:=Hd ih;have HJ:=Hd hj
   have hhm:h<m:=by omega
   have ham:a<m:=(by have:=KB.out;have:=HK.out;omega)
   have hm1:(h:Int)+1≤(m:Int):=by omega
   have am1:(a:Int)+1≤(m:Int):=by omega
   have hlt:(ix:Int)<(j:Int):=by omega
   have hwh:IntKind.i64.wrap ((h:Int)+1)=((h+1:Nat):Int):=by rw[IntWalk.i64_in _ (by omega)];omega
   have hws:IntKind.i64.wrap ((ix:Int)+(j:Int))=((ix+j:Nat):Int):=by rw[IntWalk.i64_in _ (by omega)];omega
   obtain⟨y,hy⟩:∃ y,R[h]? = some y:=⟨_,List.getElem?_eq_getElem (by rw[HM.out];exact hhm)⟩
   have HYH:=Hd hy
   obtain⟨r,hr⟩:∃ r,cmpS y x=r:=⟨_,rfl⟩
   obtain⟨cb,hcb⟩:∃ c,decide (r<0)=c:=⟨_,rfl⟩
   have HR2:=Hd hr;have HCB:=Hd hcb;have HE1:=Hd (RR.out.its y (List.mem_of_getElem? HYH.out));obtain⟨k1,n1,p1,a1,b1,s1,r1,c1,d1,u1,e1,f1,hx1⟩:=HE1.out.shape;have HX1:=Hd hx1;have D10:Hid (At g (h*6) (.int .u8 (k1:Int)) _):=RR.out.cell HYH.out (j:=0) (u:=.int .u8 (k1:Int)) (by rw[hx1];rfl);have D11:Hid (At g (h*6+1) (.int .i64 n1) _):=RR.out.cell HYH.out (j:=1) (u:=.int .i64 n1) (by rw[hx1];rfl);have D12:Hid (At g (h*6+2) (.slice p1 a1 b1) _):=RR.out.cell HYH.out (j:=2) (u:=.slice p1 a1 b1) (by rw[hx1];rfl);have D13:Hid (At g (h*6+3) (.bool s1) _):=RR.out.cell HYH.out (j:=3) (u:=.bool s1) (by rw[hx1];rfl);have D14:Hid (At g (h*6+4) (.slice r1 c1 d1) _):=RR.out.cell HYH.out (j:=4) (u:=.slice r1 c1 d1) (by rw[hx1];rfl);have D15:Hid (At g (h*6+5) (.slice u1 e1 f1) _):=RR.out.cell HYH.out (j:=5) (u:=.slice u1 e1 f1) (by rw[hx1];rfl);clear hx1;have HE2:=Hd (RR.out.its x (List.mem_of_getElem? HXA.out));obtain⟨k2,n2,p2,a2,b2,s2,r2,c2,d2,u2,e2,f2,hx2⟩:=HE2.out.shape;have HX2:=Hd hx2;have D20:Hid (At g (a*6) (.int .u8 (k2:Int)) _):=RR.out.cell HXA.out (j:=0) (u:=.int .u8 (k2:Int)) (by rw[hx2];rfl);have D21:Hid (At g (a*6+1) (.int .i64 n2) _):=RR.out.cell HXA.out (j:=1) (u:=.int .i64 n2) (by rw[hx2];rfl);have D22:Hid (At g (a*6+2) (.slice p2 a2 b2) _):=RR.out.cell HXA.out (j:=2) (u:=.slice p2 a2 b2) (by rw[hx2];rfl);have D23:Hid (At g (a*6+3) (.bool s2) _):=RR.out.cell HXA.out (j:=3) (u:=.bool s2) (by rw[hx2];rfl);have D24:Hid (At g (a*6+4) (.slice r2 c2 d2) _):=RR.out.cell HXA.out (j:=4) (u:=.slice r2 c2 d2) (by rw[hx2];rfl)
   have D25:Hid (At g (a*6+5) (.slice u2 e2 f2) _):=RR.out.cell HXA.out (j:=5) (u:=.slice u2 e2 f2) (by rw[hx2];rfl);clear hx2;have HHH:Hid (h=(ix+j) / 2):=hh.symm
   have hu0:IntKind.u64.wrap ((ix:Int)+(j:Int))=(ix:Int)+(j:Int):=by rw[IntWalk.u64_in _ (by omega)]
   have hu1:IntKind.i64.wrap (((ix:Int)+(j:Int)) / 2)=(h:Int):=by rw[IntWalk.i64_in _ (by omega)];omega
   clear hr hcb hy hh bm m5 h1 h2 h3 hij ih hj;go_wp2_with fail;go_wp2_with fail;have hkeep51:AllAt' ([]:List (Nat × Nat × Value)) wr:=AllAt'.nil _;have hob51:ObOk wr.heap.size wr (([]:List (Nat × Nat × Value)).map (·.1)) ([]:List (Nat × List (Nat × Value))):=trivial;have hne51:AllNe (([]:List (Nat × List (Nat × Value))).map (·.1)):=trivial
   (try simp only[List.append_eq,List.cons_append,List.nil_append])
   refine wp_region_gen ⟨[40,41,42,43,44,45,46,47,48,49,50],fun i=>false,fun i=>([none,none,none,none,none,none,none,none,none,none,none]:List (Option (BoxRef × Nat))).getD i none,fun i=>([Sg.val (.func (.func 53) #[] #[]),Sg.val (.slice (some ⟨g,0,none⟩) m cap),Sg.val (.int .i64 (h:Int)),Sg.val (.pointer (some ⟨g,h*6,none⟩)),Sg.val (.agg #[.int .u8 (k1:Int),.int .i64 n1,.slice p1 a1 b1,.bool s1,.slice r1 c1 d1,.slice u1 e1 f1]),Sg.val (.slice (some ⟨g,0,none⟩) m cap),Sg.val (.int .i64 (a:Int)),Sg.val (.pointer (some ⟨g,a*6,none⟩)),Sg.val (.agg #[.int .u8 (k2:Int),.int .i64 n2,.slice p2 a2 b2,.bool s2,.slice r2 c2 d2,.slice u2 e2 f2]),Sg.val (.int .i64 r),Sg.val (.bool cb)]:List Sg).getD i Sg.any,[],[]⟩ wr.heap.size (by kernel_rfl) (by kernel_rfl) (Ext.refl wr).size ?hfr hkeep51 hob51 hne51 ?hs ?he
   case hfr =>
    intro i v wk hi hst hv;exact absurd hi (by simp)
   case hs =>
    refine⟨?_,?_,?_,?_,?_,?_,?_,?_,?_,?_,?_,trivial⟩
    ·refine RStep.op rfl rfl fun ac wk hp K hK=>?_;have t4_:ac.tmps[4]?.getD undef = .func (.func 53) #[] #[]:=hp.slot 4 rfl rfl;have HP:=Hd hp;clear hp;go_simp;refine hK.out _ _ ?_ eR (fun h=>absurd h (by simp));exact rfl
    ·refine RStep.op rfl rfl fun ac wk hp K hK=>?_;have t0_:ac.tmps[0]?.getD undef = .slice (some ⟨g,0,none⟩) m cap:=hp.slot 0 rfl rfl;have HP:=Hd hp;clear hp;go_simp;refine hK.out _ _ ?_ eR (fun h=>absurd h (by simp));exact rfl
    ·refine RStep.op rfl rfl fun ac wk hp K hK=>?_;have t12_:ac.tmps[12]?.getD undef = .int .i64 (h:Int):=hp.slot 12 rfl rfl;have HP:=Hd hp;clear hp;go_simp;refine hK.out _ _ ?_ eR (fun h=>absurd h (by simp));exact rfl
    ·refine RStep.op rfl rfl fun ac wk hp K hK=>?_;have u1e:=hp.g 1;have t41_:ac.tmps[41]?.getD undef = .slice (some ⟨g,0,none⟩) m cap:=slot_is' u1e;have u2e:=hp.g 2;have t42_:ac.tmps[42]?.getD undef = .int .i64 (h:Int):=slot_is' u2e;have HP:=Hd hp;clear hp;go_simp;refine hK.out _ _ ?_ eR (fun h=>absurd h (by simp));exact (by first | rfl | (apply congrArg Value.bool;simp;done) | (apply congrArg Value.bool;simp;omega) | (simp [*];done))
    ·refine RStep.op rfl rfl fun ac wk hp K hK=>?_;have u3e:=hp.g 3;have t43_:ac.tmps[43]?.getD undef = .pointer (some ⟨g,h*6,none⟩):=slot_is' u3e;have HP:=Hd hp;clear hp;have q0:=(D10.out.ext HP.out.blw).1;have q1:=(D11.out.ext HP.out.blw).1;have q2:=(D12.out.ext HP.out.blw).1;have q3:=(D13.out.ext HP.out.blw).1;have q4:=(D14.out.ext HP.out.blw).1;have q5:=(D15.out.ext HP.out.blw).1;go_simp;refine hK.out _ _ ?_ eR (fun h=>absurd h (by simp));exact (by first | rfl | (apply congrArg Value.bool;simp;done) | (apply congrArg Value.bool;simp;omega) | (simp [*];done))
    ·refine RStep.op rfl rfl fun ac wk hp K hK=>?_;have t0_:ac.tmps[0]?.getD undef = .slice (some ⟨g,0,none⟩) m cap:=hp.slot 0 rfl rfl;have HP:=Hd hp;clear hp;go_simp;refine hK.out _ _ ?_ eR (fun h=>absurd h (by simp));exact rfl
    ·refine RStep.op rfl rfl fun ac wk hp K hK=>?_;have t1_:ac.tmps[1]?.getD undef = .int .i64 (a:Int):=hp.slot 1 rfl rfl;have HP:=Hd hp;clear hp;go_simp;refine hK.out _ _ ?_ eR (fun h=>absurd h (by simp));exact rfl
    ·refine RStep.op rfl rfl fun ac wk hp K hK=>?_;have u5e:=hp.g 5;have t45_:ac.tmps[45]?.getD undef = .slice (some ⟨g,0,none⟩) m cap:=slot_is' u5e;have u6e:=hp.g 6;have t46_:ac.tmps[46]?.getD undef = .int .i64 (a:Int):=slot_is' u6e;have HP:=Hd hp;clear hp;go_simp;refine hK.out _ _ ?_ eR (fun h=>absurd h (by simp));exact (by first | rfl | (apply congrArg Value.bool;simp;done) | (apply congrArg Value.bool;simp;omega) | (simp [*];done))
    ·refine RStep.op rfl rfl fun ac wk hp K hK=>?_;have u7e:=hp.g 7;have t47_:ac.tmps[47]?.getD undef = .pointer (some ⟨g,a*6,none⟩):=slot_is' u7e;have HP:=Hd hp;clear hp;have q0:=(D20.out.ext HP.out.blw).1;have q1:=(D21.out.ext HP.out.blw).1;have q2:=(D22.out.ext HP.out.blw).1;have q3:=(D23.out.ext HP.out.blw).1;have q4:=(D24.out.ext HP.out.blw).1;have q5:=(D25.out.ext HP.out.blw).1;go_simp;refine hK.out _ _ ?_ eR (fun h=>absurd h (by simp));exact (by first | rfl | (apply congrArg Value.bool;simp;done) | (apply congrArg Value.bool;simp;omega) | (simp [*];done))
    ·refine RStep.op rfl rfl fun ac wk hp K hK=>?_;have u0e:=hp.g 0;have t40_:ac.tmps[40]?.getD undef = .func (.func 53) #[] #[]:=slot_is' u0e;have u4e:=hp.g 4;have t44_:ac.tmps[44]?.getD undef = .agg #[.int .u8 (k1:Int),.int .i64 n1,.slice p1 a1 b1,.bool s1,.slice r1 c1 d1,.slice u1 e1 f1]:=slot_is' u4e;have u8e:=hp.g 8;have t48_:ac.tmps[48]?.getD undef = .agg #[.int .u8 (k2:Int),.int .i64 n2,.slice p2 a2 b2,.bool s2,.slice r2 c2 d2,.slice u2 e2 f2]:=slot_is' u8e;have HP:=Hd hp;clear hp;go_simp;refine (less_at HX1.out HX2.out HR2.out (HE1.out.ext HP.out.blw) (HE2.out.ext HP.out.blw)).mono ?_;rintro e wk' ⟨rfl,ix⟩;refine hK.out _ _ ?_ ix (fun h=>absurd h (by simp));exact rfl
    ·refine RStep.op rfl rfl fun ac wk hp K hK=>?_;have u9e:=hp.g 9;have t49_:ac.tmps[49]?.getD undef = .int .i64 r:=slot_is' u9e;have HP:=Hd hp;clear hp;have q0:=HCB.out;go_simp;refine hK.out _ _ ?_ eR (fun h=>absurd h (by simp));exact (by first | rfl | (apply congrArg Value.bool;simp;done) | (apply congrArg Value.bool;simp;omega) | (simp [*];done))
   case he =>
    intro ac v1 hM;have y51_0e:=hM.post 0 rfl rfl;have y51_1e:=hM.post 1 rfl rfl;have y51_2e:=hM.post 2 rfl rfl;have y51_3e:=hM.post 3 rfl rfl;have y51_4e:=hM.post 4 rfl rfl;have y51_5e:=hM.post 5 rfl rfl;have y51_6e:=hM.post 6 rfl rfl;have y51_7e:=hM.post 7 rfl rfl;have y51_8e:=hM.post 8 rfl rfl;have y51_9e:=hM.post 9 rfl rfl;have y51_10e:=hM.post 10 rfl rfl;have gv1:Gr wr v1:=hM.gr;have e1_:Ext wr v1:=Ext.below (Ext.refl wr) hM.blw;have z0_:sl ac 40 = .func (.func 53) #[] #[]:=y51_0e;have z1_:sl ac 41 = .slice (some ⟨g,0,none⟩) m cap:=y51_1e;have z2_:sl ac 42 = .int .i64 (h:Int):=y51_2e;have z3_:sl ac 43 = .pointer (some ⟨g,h*6,none⟩):=y51_3e;have z4_:sl ac 44 = .agg #[.int .u8 (k1:Int),.int .i64 n1,.slice p1 a1 b1,.bool s1,.slice r1 c1 d1,.slice u1 e1 f1]:=y51_4e;have z5_:sl ac 45 = .slice (some ⟨g,0,none⟩) m cap:=y51_5e;have z6_:sl ac 46 = .int .i64 (a:Int):=y51_6e;have z7_:sl ac 47 = .pointer (some ⟨g,a*6,none⟩):=y51_7e;have z8_:sl ac 48 = .agg #[.int .u8 (k2:Int),.int .i64 n2,.slice p2 a2 b2,.bool s2,.slice r2 c2 d2,.slice u2 e2 f2]:=y51_8e;have z9_:sl ac 49 = .int .i64 r:=y51_9e;have z10_:sl ac 50 = .bool cb:=y51_10e;rw[hM.ag.lay];simp only[lay,List.foldl_cons,List.foldl_nil,List.setIfInBounds_toArray,List.set_cons_zero,List.set_cons_succ,z0_,z1_,z2_,z3_,z4_,z5_,z6_,z7_,z8_,z9_,z10_];clear hM hkeep51 hob51 hne51 z0_ z1_ z2_ z3_ z4_ z5_ z6_ z7_ z8_ z9_ z10_ y51_0e y51_1e y51_2e y51_3e y51_4e y51_5e y51_6e y51_7e y51_8e y51_9e y51_10e
    cases cb
    case false =>
     have hr0:¬ r<0:=of_decide_eq_false HCB.out;go_wp2_with fail;exact⟨⟨ix,h,rfl,rfl,H1.out,IH.out,(by have:=H3.out;have:=HJ.out;omega),XX.out.trans e1_,HLO,fun _ z hz=>(by rw[HYH.out]at hz;injection hz with hz;rw[←hz,HR2.out];omega)⟩,by simp only[intOf];have:=HJ.out;have:=IH.out;omega⟩
    case true =>
     have hr0:r<0:=of_decide_eq_true HCB.out;go_wp2_with fail;exact⟨⟨h+1,j,by first | rfl | (rw[hwh]) | simp,rfl,(by have:=H1.out;have:=IH.out;omega),HJ.out,H3.out,XX.out.trans e1_,fun _ z hz=>(by rw[Nat.add_sub_cancel,HYH.out]at hz;injection hz with hz;rw[←hz,HR2.out];exact hr0),HHI⟩,by simp only[intOf];have:=HJ.out;have:=IH.out;omega⟩
  ·have hi:ix=j:=by omega
   subst hi
   have n1:¬ (ix:Int)<(ix:Int):=by omega
   have hwi:IntKind.i64.wrap ((ix:Int) - 1)=((ix - 1:Nat):Int):=by have:=HK.out;rw[IntWalk.i64_in _ (by omega)];omega
   clear h1 h2 h3 bm m5 hij;go_wp2_with fail
   go_loopw [13] (fun v13 wr => ∃ (q:Nat) (L Y1 Y2:List Sh),v13 = .int .i64 (q:Int)∧q+1≤ix∧Hid (Y=Y1 ++ Y2)∧Hid (a+Y1.length=q)∧Hid (L=P ++ Y1 ++ x :: Y2 ++ T)∧RowS g cap L wr∧Below g w wr) (fun v13 _=>ix - (intOf v13).toNat)
   case atStart=>exact⟨a,R,[],Y,rfl,(by have:=H1.out;have:=HK.out;omega),rfl,rfl,by show _=_;rw[HE.out];simp,RR.out,(XX.out.mono (Nat.le_of_lt HR.out.lt))⟩
   case round =>
    rename World=>wq
    obtain⟨q,L,Y1,Y2,rfl,hq,HYY,HQ,HL,hRow,hBl⟩:=hrel;have RL:=Hd hRow;have HBL:=Hd hBl;have HQI:=Hd hq;clear hRow hBl;have bm:=BM.out;have m5:=M5.out;have h3:=H3.out
    by_cases hlt:q+1<ix
    ·have hlt1:(q:Int)<((ix - 1:Nat):Int):=by omega
     obtain⟨q1,hq1⟩:∃ q1,q+1=q1:=⟨_,rfl⟩
     have hwq:IntKind.i64.wrap ((q:Int)+1)=(q1:Int):=by rw[IntWalk.i64_in _ (by omega)];omega
     have hqm:q<m:=by omega
     have hqm1:q1<m:=by omega
     have hm1:(q:Int)+1≤(m:Int):=by omega
     have hm2:(q1:Int)+1≤(m:Int):=by omega
     have HY2L:Hid (1≤Y2.length):=by
      show 1≤_
      have h1:=HB.out;have h2:=HQ.out;have h4:=HK.out;rw[HYY.out,List.length_append]at h1;omega
     obtain⟨y,Y3,hY⟩:∃ x T1,Y2=x :: T1:=by
      cases Y2 with
      | nil=>exact absurd HY2L.out (by simp)
      | cons x T1=>exact⟨x,T1,rfl⟩
     subst hY
     have hl1:q=(P ++ Y1).length:=by rw[List.length_append,HA.out,HQ.out]
     have hl2:q1=(P ++ Y1).length+1+([]:List Sh).length:=by rw[←hl1];simp;omega
     have HLI:Hid (L[q]? = some x):=get_mid (B:=y :: Y3 ++ T) (by rw[HL.out];simp) hl1;have HLJ:Hid (L[q1]? = some y):=get_mid (A:=P ++ Y1 ++ [x]) (B:=Y3 ++ T) (by rw[HL.out];simp) (by rw[hl2];simp;omega)
     have HNX:Hid ((L.set q y).set q1 x=P ++ (Y1 ++ [y]) ++ x :: Y3 ++ T):=by
      show _=_
      rw[HL.out,show P ++ Y1 ++ x :: (y :: Y3) ++ T=(P ++ Y1) ++ x :: [] ++ y :: (Y3 ++ T) by simp,set_two hl1 hl2];simp
     have HQ1:=Hd hq1;have LT:=Hd hlt
     have hne:q<q1:=by omega
     clear hl1 hl2 hq1 bm m5 h3 hlt hq;go_wp2_with fail
     obtain⟨wd,hwd⟩:∃ wd,World.drew wq=wd:=⟨_,rfl⟩
     have RD:Hid (RowS g cap L wd):=hwd ▸ RL.out.ext eR.drew;have BD:Hid (Below g w wd):=hwd ▸ HBL.out.drew;have HE1:=Hd (RD.out.its x (List.mem_of_getElem? HLI.out));obtain⟨k1,n1,p1,a1,b1,s1,r1,c1,d1,u1,e1,f1,hx1⟩:=HE1.out.shape;have HX1:=Hd hx1;have D10:Hid (At g (q*6) (.int .u8 (k1:Int)) _):=RD.out.cell HLI.out (j:=0) (u:=.int .u8 (k1:Int)) (by rw[hx1];rfl);have D11:Hid (At g (q*6+1) (.int .i64 n1) _):=RD.out.cell HLI.out (j:=1) (u:=.int .i64 n1) (by rw[hx1];rfl);have D12:Hid (At g (q*6+2) (.slice p1 a1 b1) _):=RD.out.cell HLI.out (j:=2) (u:=.slice p1 a1 b1) (by rw[hx1];rfl);have D13:Hid (At g (q*6+3) (.bool s1) _):=RD.out.cell HLI.out (j:=3) (u:=.bool s1) (by rw[hx1];rfl);have D14:Hid (At g (q*6+4) (.slice r1 c1 d1) _):=RD.out.cell HLI.out (j:=4) (u:=.slice r1 c1 d1) (by rw[hx1];rfl);have D15:Hid (At g (q*6+5) (.slice u1 e1 f1) _):=RD.out.cell HLI.out (j:=5) (u:=.slice u1 e1 f1) (by rw[hx1];rfl);clear hx1;have HE2:=Hd (RD.out.its y (List.mem_of_getElem? HLJ.out));obtain⟨k2,n2,p2,a2,b2,s2,r2,c2,d2,u2,e2,f2,hx2⟩:=HE2.out.shape;have HX2:=Hd hx2;have D20:Hid (At g (q1*6) (.int .u8 (k2:Int)) _):=RD.out.cell HLJ.out (j:=0) (u:=.int .u8 (k2:Int)) (by rw[hx2];rfl);have D21:Hid (At g (q1*6+1) (.int .i64 n2) _):=RD.out.cell HLJ.out (j:=1) (u:=.int .i64 n2) (by rw[hx2];rfl);have D22:Hid (At g (q1*6+2) (.slice p2 a2 b2) _):=RD.out.cell HLJ.out (j:=2) (u:=.slice p2 a2 b2) (by rw[hx2];rfl);have D23:Hid (At g (q1*6+3) (.bool s2) _):=RD.out.cell HLJ.out (j:=3) (u:=.bool s2) (by rw[hx2];rfl)
     have D24:Hid (At g (q1*6+4) (.slice r2 c2 d2) _):=RD.out.cell HLJ.out (j:=4) (u:=.slice r2 c2 d2) (by rw[hx2];rfl);have D25:Hid (At g (q1*6+5) (.slice u2 e2 f2) _):=RD.out.cell HLJ.out (j:=5) (u:=.slice u2 e2 f2) (by rw[hx2];rfl);clear hx2
     obtain⟨w6,hw6⟩:∃ w6,((((((wd.setCell ⟨g,q*6,none⟩ (.int .u8 (k2:Int))).setCell ⟨g,q*6+1,none⟩ (.int .i64 n2)).setCell ⟨g,q*6+2,none⟩ (.slice p2 a2 b2)).setCell ⟨g,q*6+3,none⟩ (.bool s2)).setCell ⟨g,q*6+4,none⟩ (.slice r2 c2 d2)).setCell ⟨g,q*6+5,none⟩ (.slice u2 e2 f2))=w6:=⟨_,rfl⟩
     have RS6:Hid (RowS g cap (List.set L q y) w6):=hw6 ▸ sw_row RD.out HLI.out HX2.out (RD.out.its y (List.mem_of_getElem? HLJ.out));have BS6:Hid (Below g w w6):=hw6 ▸ below6 BD.out _ _ _ _ _ _ _ _ _ _ _ _;have EX6:Hid (ElO w6 x):=hw6 ▸ (RD.out.its x (List.mem_of_getElem? HLI.out)).set6 RD.out.ty (q*6) (q*6+1) (q*6+2) (q*6+3) (q*6+4) (q*6+5) (.int .u8 (k2:Int)) (.int .i64 n2) (.slice p2 a2 b2) (.bool s2) (.slice r2 c2 d2) (.slice u2 e2 f2)
     have HJ3:Hid ((List.set L q y)[q1]? = some y):=by show _=_;rw[List.getElem?_set_ne (by omega)];exact HLJ.out
     (try simp only[List.append_eq,List.cons_append,List.nil_append])
     refine wp_region_fix ⟨[61,62,63,64,65,66,67,68,69,70,71,72,73,74,75,76],fun ix=>([.slice (some ⟨g,0,none⟩) m cap,.int .i64 (q:Int),.slice (some ⟨g,0,none⟩) m cap,.int .i64 (q:Int),.int .i64 (q1:Int),.slice (some ⟨g,0,none⟩) m cap,.int .i64 (q:Int),.int .i64 (q1:Int),.pointer (some ⟨g,q1*6,none⟩),.agg #[.int .u8 (k2:Int),.int .i64 n2,.slice p2 a2 b2,.bool s2,.slice r2 c2 d2,.slice u2 e2 f2],.slice (some ⟨g,0,none⟩) m cap,.int .i64 (q:Int),.pointer (some ⟨g,q*6,none⟩),.agg #[.int .u8 (k1:Int),.int .i64 n1,.slice p1 a1 b1,.bool s1,.slice r1 c1 d1,.slice u1 e1 f1],.pointer (some ⟨g,q*6,none⟩),undef,.pointer (some ⟨g,q1*6,none⟩),undef]:List Value).getD ix undef,[15,17],fun ix=>([none,none,none,none,none,none,none,none,none,none,none,none,none,none,none,some 0,none,some 1]:List (Option Nat)).getD ix none,fun ix=>([true,true,true,true,true,true,true,true,true,false,true,true,true,false,true,false,true,false]:List Bool).getD ix false,fun ix=>([wd,w6,((((((w6.setCell ⟨g,q1*6,none⟩ (.int .u8 (k1:Int))).setCell ⟨g,q1*6+1,none⟩ (.int .i64 n1)).setCell ⟨g,q1*6+2,none⟩ (.slice p1 a1 b1)).setCell ⟨g,q1*6+3,none⟩ (.bool s1)).setCell ⟨g,q1*6+4,none⟩ (.slice r1 c1 d1)).setCell ⟨g,q1*6+5,none⟩ (.slice u1 e1 f1))]:List World).getD ix wd⟩ hwd.symm (by kernel_rfl) (by kernel_rfl) ?hs ?he
     case hs =>
      refine⟨?_,?_,?_,?_,?_,?_,?_,?_,?_,?_,?_,?_,?_,?_,?_,?_,?_,?_,trivial⟩
      ·refine FStep.late rfl rfl fun ac hp wk K hK=>?_;have t0_:ac.tmps[0]?.getD undef = .slice (some ⟨g,0,none⟩) m cap:=hp.slot 0 rfl rfl;clear hp;go_simp;exact hK.out _ (by first | rfl | simp [*])
      ·refine FStep.late rfl rfl fun ac hp wk K hK=>?_;have t13_:ac.tmps[13]?.getD undef = .int .i64 (q:Int):=hp.slot 13 rfl rfl;clear hp;go_simp;exact hK.out _ (by first | rfl | simp [*])
      ·refine FStep.late rfl rfl fun ac hp wk K hK=>?_;have t0_:ac.tmps[0]?.getD undef = .slice (some ⟨g,0,none⟩) m cap:=hp.slot 0 rfl rfl;clear hp;go_simp;exact hK.out _ (by first | rfl | simp [*])
      ·refine FStep.late rfl rfl fun ac hp wk K hK=>?_;have t13_:ac.tmps[13]?.getD undef = .int .i64 (q:Int):=hp.slot 13 rfl rfl;clear hp;go_simp;exact hK.out _ (by first | rfl | simp [*])
      ·refine FStep.late rfl rfl fun ac hp wk K hK=>?_;have u3e:=hp.g 3;have t64_:ac.tmps[64]?.getD undef = .int .i64 (q:Int):=slot_is' u3e;clear hp;go_simp;exact hK.out _ (by first | rfl | simp [*])
      ·refine FStep.late rfl rfl fun ac hp wk K hK=>?_;have t0_:ac.tmps[0]?.getD undef = .slice (some ⟨g,0,none⟩) m cap:=hp.slot 0 rfl rfl;clear hp;go_simp;exact hK.out _ (by first | rfl | simp [*])
      ·refine FStep.late rfl rfl fun ac hp wk K hK=>?_;have t13_:ac.tmps[13]?.getD undef = .int .i64 (q:Int):=hp.slot 13 rfl rfl;clear hp;go_simp;exact hK.out _ (by first | rfl | simp [*])
      ·refine FStep.late rfl rfl fun ac hp wk K hK=>?_;have u6e:=hp.g 6;have t67_:ac.tmps[67]?.getD undef = .int .i64 (q:Int):=slot_is' u6e;clear hp;go_simp;exact hK.out _ (by first | rfl | simp [*])
      ·refine FStep.late rfl rfl fun ac hp wk K hK=>?_;have u5e:=hp.g 5;have t66_:ac.tmps[66]?.getD undef = .slice (some ⟨g,0,none⟩) m cap:=slot_is' u5e;have u7e:=hp.g 7;have t68_:ac.tmps[68]?.getD undef = .int .i64 (q1:Int):=slot_is' u7e;clear hp;go_simp;exact hK.out _ (by first | rfl | simp [*])
      ·refine FStep.read rfl rfl rfl (fun ac hp wk K hw hK=>?_);have u8e:=hp.g 8;have t69_:ac.tmps[69]?.getD undef = .pointer (some ⟨g,q1*6,none⟩):=slot_is' u8e;clear hp;have hw2:wk=wd:=hw;clear hw;rw[hw2]at hK ⊢;clear hw2;have h0:=D20.out.1;have h1:=D21.out.1;have h2:=D22.out.1;have h3:=D23.out.1;have h4:=D24.out.1;have h5:=D25.out.1;clear hwd hw6;go_simp;exact hK.out _ (by first | rfl | simp [*])
      ·refine FStep.late rfl rfl fun ac hp wk K hK=>?_;have t0_:ac.tmps[0]?.getD undef = .slice (some ⟨g,0,none⟩) m cap:=hp.slot 0 rfl rfl;clear hp;go_simp;exact hK.out _ (by first | rfl | simp [*])
      ·refine FStep.late rfl rfl fun ac hp wk K hK=>?_;have t13_:ac.tmps[13]?.getD undef = .int .i64 (q:Int):=hp.slot 13 rfl rfl;clear hp;go_simp;exact hK.out _ (by first | rfl | simp [*])
      ·refine FStep.late rfl rfl fun ac hp wk K hK=>?_;have u10e:=hp.g 10;have t71_:ac.tmps[71]?.getD undef = .slice (some ⟨g,0,none⟩) m cap:=slot_is' u10e;have u11e:=hp.g 11;have t72_:ac.tmps[72]?.getD undef = .int .i64 (q:Int):=slot_is' u11e;clear hp;go_simp;exact hK.out _ (by first | rfl | simp [*])
      ·refine FStep.read rfl rfl rfl (fun ac hp wk K hw hK=>?_);have u12e:=hp.g 12;have t73_:ac.tmps[73]?.getD undef = .pointer (some ⟨g,q*6,none⟩):=slot_is' u12e;clear hp;have hw2:wk=wd:=hw;clear hw;rw[hw2]at hK ⊢;clear hw2;have h0:=D10.out.1;have h1:=D11.out.1;have h2:=D12.out.1;have h3:=D13.out.1;have h4:=D14.out.1;have h5:=D15.out.1;clear hwd hw6;go_simp;exact hK.out _ (by first | rfl | simp [*])
      ·refine FStep.late rfl rfl fun ac hp wk K hK=>?_;have u0e:=hp.g 0;have t61_:ac.tmps[61]?.getD undef = .slice (some ⟨g,0,none⟩) m cap:=slot_is' u0e;have u1e:=hp.g 1;have t62_:ac.tmps[62]?.getD undef = .int .i64 (q:Int):=slot_is' u1e;clear hp;go_simp;exact hK.out _ (by first | rfl | simp [*])
      ·refine FStep.store 0 rfl rfl (fun ac hp wk K hw hK=>?_);have u14e:=hp.g 14;have t75_:ac.tmps[75]?.getD undef = .pointer (some ⟨g,q*6,none⟩):=slot_is' u14e;have u9e:=hp.g 9;have t70_:ac.tmps[70]?.getD undef = .agg #[.int .u8 (k2:Int),.int .i64 n2,.slice p2 a2 b2,.bool s2,.slice r2 c2 d2,.slice u2 e2 f2]:=slot_is' u9e;clear hp;have hw2:wk=wd:=hw;clear hw;rw[hw2];clear hw2;have h0:=D10.out.1;have z0:=RD.out.free (q*6);have h1:=D11.out.1;have z1:=RD.out.free (q*6+1);have h2:=D12.out.1;have z2:=RD.out.free (q*6+2);have h3:=D13.out.1;have z3:=RD.out.free (q*6+3);have h4:=D14.out.1;have z4:=RD.out.free (q*6+4);have h5:=D15.out.1;have z5:=RD.out.free (q*6+5);have hw6:=Hd hw6;clear hwd;go_simp;exact hK.out _ (by first | exact hw6.out | rfl)
      ·refine FStep.late rfl rfl fun ac hp wk K hK=>?_;have u2e:=hp.g 2;have t63_:ac.tmps[63]?.getD undef = .slice (some ⟨g,0,none⟩) m cap:=slot_is' u2e;have u4e:=hp.g 4;have t65_:ac.tmps[65]?.getD undef = .int .i64 (q1:Int):=slot_is' u4e;clear hp;go_simp;exact hK.out _ (by first | rfl | simp [*])
      ·refine FStep.store 1 rfl rfl (fun ac hp wk K hw hK=>?_);have u16e:=hp.g 16;have t76_:ac.tmps[76]?.getD undef = .pointer (some ⟨g,q1*6,none⟩):=slot_is' u16e;have u13e:=hp.g 13;have t74_:ac.tmps[74]?.getD undef = .agg #[.int .u8 (k1:Int),.int .i64 n1,.slice p1 a1 b1,.bool s1,.slice r1 c1 d1,.slice u1 e1 f1]:=slot_is' u13e;clear hp;have hw2:wk=w6:=hw;clear hw;rw[hw2];clear hw2;have h0:World.cell? w6 ⟨g,q1*6,none⟩=(some (.int .u8 (k2:Int)):Option Value):=(RS6.out.cell HJ3.out (j:=0) (u:=.int .u8 (k2:Int)) (by rw[HX2.out];rfl)).1;have z0:=RS6.out.free (q1*6);have h1:World.cell? w6 ⟨g,q1*6+1,none⟩=(some (.int .i64 n2):Option Value):=(RS6.out.cell HJ3.out (j:=1) (u:=.int .i64 n2) (by rw[HX2.out];rfl)).1;have z1:=RS6.out.free (q1*6+1);have h2:World.cell? w6 ⟨g,q1*6+2,none⟩=(some (.slice p2 a2 b2):Option Value):=(RS6.out.cell HJ3.out (j:=2) (u:=.slice p2 a2 b2) (by rw[HX2.out];rfl)).1;have z2:=RS6.out.free (q1*6+2);have h3:World.cell? w6 ⟨g,q1*6+3,none⟩=(some (.bool s2):Option Value):=(RS6.out.cell HJ3.out (j:=3) (u:=.bool s2) (by rw[HX2.out];rfl)).1;have z3:=RS6.out.free (q1*6+3);have h4:World.cell? w6 ⟨g,q1*6+4,none⟩=(some (.slice r2 c2 d2):Option Value):=(RS6.out.cell HJ3.out (j:=4) (u:=.slice r2 c2 d2) (by rw[HX2.out];rfl)).1;have z4:=RS6.out.free (q1*6+4);have h5:World.cell? w6 ⟨g,q1*6+5,none⟩=(some (.slice u2 e2 f2):Option Value):=(RS6.out.cell HJ3.out (j:=5) (u:=.slice u2 e2 f2) (by rw[HX2.out];rfl)).1;have z5:=RS6.out.free (q1*6+5);clear hwd;go_simp;exact hK.out _ (by first | exact hw6.out | rfl)
     case he =>
      intro ac wz hwz hag hM
      have RZ:Hid (RowS g cap (List.set (List.set L q y) q1 x) wz):=by rw[hwz];exact sw_row RS6.out HJ3.out HX1.out EX6.out
      have BZ:Hid (Below g w wz):=by rw[hwz];exact below6 BS6.out _ _ _ _ _ _ _ _ _ _ _ _
      have y0_:sl ac 61 = .slice (some ⟨g,0,none⟩) m cap:=hM 0 (by decide) rfl;have y1_:sl ac 62 = .int .i64 (q:Int):=hM 1 (by decide) rfl;have y2_:sl ac 63 = .slice (some ⟨g,0,none⟩) m cap:=hM 2 (by decide) rfl;have y3_:sl ac 64 = .int .i64 (q:Int):=hM 3 (by decide) rfl;have y4_:sl ac 65 = .int .i64 (q1:Int):=hM 4 (by decide) rfl;have y5_:sl ac 66 = .slice (some ⟨g,0,none⟩) m cap:=hM 5 (by decide) rfl;have y6_:sl ac 67 = .int .i64 (q:Int):=hM 6 (by decide) rfl;have y7_:sl ac 68 = .int .i64 (q1:Int):=hM 7 (by decide) rfl;have y8_:sl ac 69 = .pointer (some ⟨g,q1*6,none⟩):=hM 8 (by decide) rfl;have y9_:sl ac 70 = .agg #[.int .u8 (k2:Int),.int .i64 n2,.slice p2 a2 b2,.bool s2,.slice r2 c2 d2,.slice u2 e2 f2]:=hM 9 (by decide) rfl;have y10_:sl ac 71 = .slice (some ⟨g,0,none⟩) m cap:=hM 10 (by decide) rfl;have y11_:sl ac 72 = .int .i64 (q:Int):=hM 11 (by decide) rfl;have y12_:sl ac 73 = .pointer (some ⟨g,q*6,none⟩):=hM 12 (by decide) rfl;have y13_:sl ac 74 = .agg #[.int .u8 (k1:Int),.int .i64 n1,.slice p1 a1 b1,.bool s1,.slice r1 c1 d1,.slice u1 e1 f1]:=hM 13 (by decide) rfl;have y14_:sl ac 75 = .pointer (some ⟨g,q*6,none⟩):=hM 14 (by decide) rfl;have y16_:sl ac 76 = .pointer (some ⟨g,q1*6,none⟩):=hM 16 (by decide) rfl;rw[hag.lay];simp only[lay,List.foldl_cons,List.foldl_nil,List.setIfInBounds_toArray,List.set_cons_zero,List.set_cons_succ,y0_,y1_,y2_,y3_,y4_,y5_,y6_,y7_,y8_,y9_,y10_,y11_,y12_,y13_,y14_,y16_];clear hwz hag hM hwd hw6 y0_ y1_ y2_ y3_ y4_ y5_ y6_ y7_ y8_ y9_ y10_ y11_ y12_ y13_ y14_ y16_;clear D10 D11 D12 D13 D14 D15 D20 D21 D22 D23 D24 D25;have hsw:=RZ.out;rw[HNX.out]at hsw;go_wp2_with fail
      exact⟨⟨q1,_,Y1 ++ [y],Y3,by first | rfl | rw[hwq],(by have:=LT.out;have:=HQ1.out;omega),by show _=_;rw[HYY.out];simp,by show _=_;rw[List.length_append];have:=HQ.out;have:=HQ1.out;simp;omega,rfl,hsw,BZ.out⟩,by simp only[intOf];have:=LT.out;have:=HQ1.out;omega⟩
    ·have hi:ix=q+1:=by omega
     have t1:¬ (q:Int)<((ix - 1:Nat):Int):=by omega
     have hlen1:Y1.length+k=ix:=by have:=HQ.out;have:=HK.out;omega
     have hfin:SortedS (Y1 ++ x :: Y2):=by
      refine put_sorted (by rw[←HYY.out];exact HS.out) (fun A y e=>?_) (fun y B e=>?_)
      ·refine leS_of_lt (HLO.out (by rw[←hlen1,e];simp) y ?_);refine get_mid (A:=P ++ x :: A) (B:=Y2 ++ T) (by rw[HE.out,HYY.out,e];simp) ?_;rw[e]at hlen1;simp at hlen1 ⊢;have:=HA.out;have:=HK.out;omega
      ·refine leS_of_nlt (HHI.out ?_ y ?_)
       ·have h1:=HB.out;rw[HYY.out,e,List.length_append,List.length_cons]at h1;omega
       ·refine get_mid (A:=P ++ x :: Y1) (B:=B ++ T) (by rw[HE.out,HYY.out,e];simp) ?_
        simp;have:=HA.out;have:=HK.out;omega
     have HF:=Hd hfin;clear bm m5 h3 hlt hq hlen1 hfin hi;go_wp2_with fail
     ((try simp only[Exit.inBlock,Exit.then]);refine bodyPost_ret (results_none rfl _ _ _) rfl ?_)
     refine⟨rfl,Y1 ++ x :: Y2,?_,HBL.out,?_,HF.out⟩
     ·have h:=RL.out;rw[HL.out]at h;simpa using h
     ·rw[HYY.out];exact List.perm_middle
end Go.Proofs.YtfofjalebhajhaaGreatDoor
