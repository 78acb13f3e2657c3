/- Rows of shares: two change places; swapRangeCmpFunc, rotateCmpFunc. -/
import Derived.Test.YtfofjalebhajhaaGreatDoorRegFix
namespace Go.Proofs.YtfofjalebhajhaaGreatDoor
open Go Go.RowKit
theorem sw_row {g cap:Nat}{L:List Sh}{w:World}(h:RowS g cap L w){i:Nat}{x y:Sh}{k2:Nat}{n2:Int}{p2:Option Addr}{a2 b2:Nat}{s2:Bool}{r2:Option Addr}{c2 d2:Nat}{u2:Option Addr}{e2 f2:Nat}(hi:L[i]? = some x) (hy:y=([.int .u8 (k2:Int),.int .i64 n2,.slice p2 a2 b2,.bool s2,.slice r2 c2 d2,.slice u2 e2 f2],y.2.1,y.2.2)) (ey:ElO w y) :
  RowS g cap (L.set i y) ((((((w.setCell ⟨g,i*6,none⟩ (.int .u8 (k2:Int))).setCell ⟨g,i*6+1,none⟩ (.int .i64 n2)).setCell ⟨g,i*6+2,none⟩ (.slice p2 a2 b2)).setCell ⟨g,i*6+3,none⟩ (.bool s2)).setCell ⟨g,i*6+4,none⟩ (.slice r2 c2 d2)).setCell ⟨g,i*6+5,none⟩ (.slice u2 e2 f2)):=by
 have h2:=h.set (i:=i) (List.getElem?_eq_some_iff.1 hi).1 (hy ▸ ey);rw[←hy]at h2;exact h2
theorem set_two {A B C:List Sh}{x y:Sh}{i j:Nat}(hi:i=A.length) (hj:j=A.length+1+B.length):((A ++ x :: B ++ y :: C).set i y).set j x=A ++ y :: B ++ x :: C:=by
 subst hi hj
 have e:A ++ x :: B ++ y :: C=A ++ (x :: (B ++ y :: C)):=by simp
 rw[e,List.set_append_right _ _ (Nat.le_refl _),Nat.sub_self,List.set_cons_zero,List.set_append_right _ _ (by omega),show A.length+1+B.length - A.length=(B.length)+1 by omega,List.set_cons_succ,List.set_append_right _ _ (Nat.le_refl _),Nat.sub_self,List.set_cons_zero]
 simp
theorem set_two' {A B C:List Sh}{x y:Sh}{i j:Nat}(hi:i=A.length) (hj:j=A.length+1+B.length):((A ++ x :: B ++ y :: C).set j x).set i y=A ++ y :: B ++ x :: C:=by
 rw[List.set_comm _ _ (by omega)];exact set_two hi hj
theorem get_mid {A B:List Sh}{x:Sh}{L:List Sh}{i:Nat}(hL:L=A ++ x :: B) (hi:i=A.length):L[i]? = some x:=by
 subst hL hi;rw[List.getElem?_append_right (Nat.le_refl _),Nat.sub_self];rfl
set_option maxHeartbeats 4000000 in
set_option maxRecDepth 1000000 in
theorem swapRange_calls {g cap:Nat}{R:List Sh}{w:World}(hR:RowS g cap R w) (hlen:R.length≤100000){P X M Y T:List Sh}(he:R=P ++ X ++ M ++ Y ++ T){m a b n:Nat}(hm:R.length=m) (ha:P.length=a) (hb:a+n+M.length=b) (hn:X.length=n) (hn2:Y.length=n) :
  Calls Tryz.prog 153 #[.slice (some ⟨g,0,none⟩) m cap,.int .i64 (a:Int),.int .i64 (b:Int),.int .i64 (n:Int),.func (.func 53) #[] #[]] w fun e w'=>e = .returned (.tuple #[])∧RowS g cap (P ++ Y ++ M ++ X ++ T) w'∧Below g w w':=by
 have HM:=Hd hm;have HR:=Hd hR;have HE:=Hd he;have HA:=Hd ha;have HB:=Hd hb;have HN:=Hd hn;have HN2:=Hd hn2
 have hbn:Hid (b+n≤m):=by show _≤_;rw[←hm,he];simp;omega
 have hm5:Hid (m≤100000):=by show _≤_;rw[←hm];exact hlen
 clear hR hm ha hb hn hn2 he hlen
 go_enter Tryz.func153,Tryz.ntmps153
 go_wp2_with fail
 go_loopw [10] (fun v10 wr => ∃ (i:Nat) (L X1 X2 Y1 Y2:List Sh),v10 = .int .i64 (i:Int)∧i≤n∧Hid (L=P ++ Y1 ++ X2 ++ M ++ X1 ++ Y2 ++ T)∧Hid (X=X1 ++ X2)∧Hid (Y=Y1 ++ Y2)∧Hid (X1.length=i)∧Hid (Y1.length=i)∧RowS g cap L wr∧Below g w wr) (fun v10 _=>n - (intOf v10).toNat)
 case atStart=>exact⟨0,R,[],X,[],Y,rfl,Nat.zero_le _,by show _=_;rw[HE.out];simp,rfl,rfl,rfl,rfl,HR.out,Below.refl _ _⟩
 case round =>
  rename World=>wr
  obtain⟨i,L,X1,X2,Y1,Y2,rfl,hin,HL,HXS,HYS,HX1L,HY1L,hRow,hBl⟩:=hrel;have RR:=Hd hRow;have HBL:=Hd hBl;clear hRow hBl
  by_cases hlt:i<n
  ·have LT:=Hd hlt;have bn:=hbn.out;have m5:=hm5.out;have bb:=HB.out
   have hwi:IntKind.i64.wrap ((i:Int)+1)=((i+1:Nat):Int):=by rw[IntWalk.i64_in _ (by omega)];omega
   obtain⟨I,hI⟩:∃ I,a+i=I:=⟨_,rfl⟩
   obtain⟨J,hJ⟩:∃ J,b+i=J:=⟨_,rfl⟩
   have hwI:IntKind.i64.wrap ((a:Int)+(i:Int))=(I:Int):=by rw[IntWalk.i64_in _ (by omega)];omega
   have hwJ:IntKind.i64.wrap ((b:Int)+(i:Int))=(J:Int):=by rw[IntWalk.i64_in _ (by omega)];omega
   have hIJ:I<J:=by omega
   have hIm:I<m:=by omega
   have hJm:J<m:=by omega
   have Im:(I:Int)+1≤(m:Int):=by omega
   have Jm:(J:Int)+1≤(m:Int):=by omega
   have inn:(i:Int)+1≤(n:Int):=by omega
   have HX2L:Hid (1≤X2.length):=by show 1≤_;have h1:=HN.out;have h2:=HX1L.out;rw[HXS.out,List.length_append]at h1;omega
   have HY2L:Hid (1≤Y2.length):=by show 1≤_;have h1:=HN2.out;have h2:=HY1L.out;rw[HYS.out,List.length_append]at h1;omega
   obtain⟨x,X3,hX⟩:∃ x T1,X2=x :: T1:=by
    cases X2 with
    | nil=>exact absurd HX2L.out (by simp)
    | cons x T1=>exact⟨x,T1,rfl⟩
   obtain⟨y,Y3,hY⟩:∃ x T1,Y2=x :: T1:=by
    cases Y2 with
    | nil=>exact absurd HY2L.out (by simp)
    | cons x T1=>exact⟨x,T1,rfl⟩
   subst hX hY
   have hlI:I=(P ++ Y1).length:=by rw[List.length_append,HA.out,HY1L.out];omega
   have hlJ:J=(P ++ Y1).length+1+(X3 ++ M ++ X1).length:=by
    have h1:=HN.out;rw[HXS.out,List.length_append,List.length_cons,HX1L.out]at h1;rw[List.length_append,List.length_append,List.length_append,HA.out,HY1L.out,HX1L.out];omega
   have HLI:Hid (L[I]? = some x):=get_mid (B:=X3 ++ M ++ X1 ++ y :: Y3 ++ T) (by rw[HL.out];simp) hlI;have HLJ:Hid (L[J]? = some y):=get_mid (A:=P ++ Y1 ++ x :: X3 ++ M ++ X1) (B:=Y3 ++ T) (by rw[HL.out];simp) (by rw[hlJ];simp;omega)
   have HNX:Hid ((L.set I y).set J x=P ++ (Y1 ++ [y]) ++ X3 ++ M ++ (X1 ++ [x]) ++ Y3 ++ T):=by
    show _=_
    rw[HL.out,show P ++ Y1 ++ x :: X3 ++ M ++ X1 ++ y :: Y3 ++ T=(P ++ Y1) ++ x :: (X3 ++ M ++ X1) ++ y :: (Y3 ++ T) by simp,set_two hlI hlJ];simp
   clear hlI hlJ hI hJ bb bn m5 hlt;go_wp2_with fail
   obtain⟨wd,hwd⟩:∃ wd,World.drew wr=wd:=⟨_,rfl⟩
   have RD:Hid (RowS g cap L wd):=hwd ▸ RR.out.ext eR.drew;have BD:Hid (Below g w wd):=hwd ▸ HBL.out.drew;have HE1:=Hd (RD.out.its x (List.mem_of_getElem? HLI.out));obtain⟨k1,n1,p1,a1,b1,s1,r1,c1,d1,u1,e1,f1,hx1⟩:=HE1.out.shape;have HX1:=Hd hx1;have D10:Hid (At g (I*6) (.int .u8 (k1:Int)) _):=RD.out.cell HLI.out (j:=0) (u:=.int .u8 (k1:Int)) (by rw[hx1];rfl);have D11:Hid (At g (I*6+1) (.int .i64 n1) _):=RD.out.cell HLI.out (j:=1) (u:=.int .i64 n1) (by rw[hx1];rfl);have D12:Hid (At g (I*6+2) (.slice p1 a1 b1) _):=RD.out.cell HLI.out (j:=2) (u:=.slice p1 a1 b1) (by rw[hx1];rfl);have D13:Hid (At g (I*6+3) (.bool s1) _):=RD.out.cell HLI.out (j:=3) (u:=.bool s1) (by rw[hx1];rfl);have D14:Hid (At g (I*6+4) (.slice r1 c1 d1) _):=RD.out.cell HLI.out (j:=4) (u:=.slice r1 c1 d1) (by rw[hx1];rfl);have D15:Hid (At g (I*6+5) (.slice u1 e1 f1) _):=RD.out.cell HLI.out (j:=5) (u:=.slice u1 e1 f1) (by rw[hx1];rfl);clear hx1;have HE2:=Hd (RD.out.its y (List.mem_of_getElem? HLJ.out));obtain⟨k2,n2,p2,a2,b2,s2,r2,c2,d2,u2,e2,f2,hx2⟩:=HE2.out.shape;have HX2:=Hd hx2;have D20:Hid (At g (J*6) (.int .u8 (k2:Int)) _):=RD.out.cell HLJ.out (j:=0) (u:=.int .u8 (k2:Int)) (by rw[hx2];rfl);have D21:Hid (At g (J*6+1) (.int .i64 n2) _):=RD.out.cell HLJ.out (j:=1) (u:=.int .i64 n2) (by rw[hx2];rfl);have D22:Hid (At g (J*6+2) (.slice p2 a2 b2) _):=RD.out.cell HLJ.out (j:=2) (u:=.slice p2 a2 b2) (by rw[hx2];rfl);have D23:Hid (At g (J*6+3) (.bool s2) _):=RD.out.cell HLJ.out (j:=3) (u:=.bool s2) (by rw[hx2];rfl)
   have D24:Hid (At g (J*6+4) (.slice r2 c2 d2) _):=RD.out.cell HLJ.out (j:=4) (u:=.slice r2 c2 d2) (by rw[hx2];rfl);have D25:Hid (At g (J*6+5) (.slice u2 e2 f2) _):=RD.out.cell HLJ.out (j:=5) (u:=.slice u2 e2 f2) (by rw[hx2];rfl);clear hx2
   obtain⟨w6,hw6⟩:∃ w6,((((((wd.setCell ⟨g,I*6,none⟩ (.int .u8 (k2:Int))).setCell ⟨g,I*6+1,none⟩ (.int .i64 n2)).setCell ⟨g,I*6+2,none⟩ (.slice p2 a2 b2)).setCell ⟨g,I*6+3,none⟩ (.bool s2)).setCell ⟨g,I*6+4,none⟩ (.slice r2 c2 d2)).setCell ⟨g,I*6+5,none⟩ (.slice u2 e2 f2))=w6:=⟨_,rfl⟩
   have RS6:Hid (RowS g cap (List.set L I y) w6):=hw6 ▸ sw_row RD.out HLI.out HX2.out (RD.out.its y (List.mem_of_getElem? HLJ.out));have BS6:Hid (Below g w w6):=hw6 ▸ below6 BD.out _ _ _ _ _ _ _ _ _ _ _ _;have EX6:Hid (ElO w6 x):=hw6 ▸ (RD.out.its x (List.mem_of_getElem? HLI.out)).set6 RD.out.ty (I*6) (I*6+1) (I*6+2) (I*6+3) (I*6+4) (I*6+5) (.int .u8 (k2:Int)) (.int .i64 n2) (.slice p2 a2 b2) (.bool s2) (.slice r2 c2 d2) (.slice u2 e2 f2)
   have HJ3:Hid ((List.set L I y)[J]? = some y):=by show _=_;rw[List.getElem?_set_ne (by omega)];exact HLJ.out
   (try simp only[List.append_eq,List.cons_append,List.nil_append])
   refine wp_region_fix ⟨[16,17,18,19,20,21,22,23,24,25,26,27,28,29,30,31,32,33,34,35,36,37],fun ix=>([.slice (some ⟨g,0,none⟩) m cap,.int .i64 (a:Int),.int .i64 (i:Int),.int .i64 (I:Int),.slice (some ⟨g,0,none⟩) m cap,.int .i64 (b:Int),.int .i64 (i:Int),.int .i64 (J:Int),.slice (some ⟨g,0,none⟩) m cap,.int .i64 (b:Int),.int .i64 (i:Int),.int .i64 (J:Int),.pointer (some ⟨g,J*6,none⟩),.agg #[.int .u8 (k2:Int),.int .i64 n2,.slice p2 a2 b2,.bool s2,.slice r2 c2 d2,.slice u2 e2 f2],.slice (some ⟨g,0,none⟩) m cap,.int .i64 (a:Int),.int .i64 (i:Int),.int .i64 (I:Int),.pointer (some ⟨g,I*6,none⟩),.agg #[.int .u8 (k1:Int),.int .i64 n1,.slice p1 a1 b1,.bool s1,.slice r1 c1 d1,.slice u1 e1 f1],.pointer (some ⟨g,I*6,none⟩),undef,.pointer (some ⟨g,J*6,none⟩),undef]:List Value).getD ix undef,[21,23],fun ix=>([none,none,none,none,none,none,none,none,none,none,none,none,none,none,none,none,none,none,none,none,none,some 0,none,some 1]:List (Option Nat)).getD ix none,fun ix=>([true,true,true,true,true,true,true,true,true,true,true,true,true,false,true,true,true,true,true,false,true,false,true,false]:List Bool).getD ix false,fun ix=>([wd,w6,((((((w6.setCell ⟨g,J*6,none⟩ (.int .u8 (k1:Int))).setCell ⟨g,J*6+1,none⟩ (.int .i64 n1)).setCell ⟨g,J*6+2,none⟩ (.slice p1 a1 b1)).setCell ⟨g,J*6+3,none⟩ (.bool s1)).setCell ⟨g,J*6+4,none⟩ (.slice r1 c1 d1)).setCell ⟨g,J*6+5,none⟩ (.slice u1 e1 f1))]:List World).getD ix wd⟩ hwd.symm (by kernel_rfl) (by kernel_rfl) ?hs ?he
   case hs =>
    refine⟨?_,?_,?_,?_,?_,?_,?_,?_,?_,?_,?_,?_,?_,?_,?_,?_,?_,?_,?_,?_,?_,?_,?_,?_,trivial⟩
    ·refine FStep.late rfl rfl fun ac hp wk K hK=>?_;have t0_:ac.tmps[0]?.getD undef = .slice (some ⟨g,0,none⟩) m cap:=hp.slot 0 rfl rfl;clear hp;go_simp;exact hK.out _ (by first | rfl | simp [*])
    ·refine FStep.late rfl rfl fun ac hp wk K hK=>?_;have t1_:ac.tmps[1]?.getD undef = .int .i64 (a:Int):=hp.slot 1 rfl rfl;clear hp;go_simp;exact hK.out _ (by first | rfl | simp [*])
    ·refine FStep.late rfl rfl fun ac hp wk K hK=>?_;have t10_:ac.tmps[10]?.getD undef = .int .i64 (i:Int):=hp.slot 10 rfl rfl;clear hp;go_simp;exact hK.out _ (by first | rfl | simp [*])
    ·refine FStep.late rfl rfl fun ac hp wk K hK=>?_;have u1e:=hp.g 1;have t17_:ac.tmps[17]?.getD undef = .int .i64 (a:Int):=slot_is' u1e;have u2e:=hp.g 2;have t18_:ac.tmps[18]?.getD undef = .int .i64 (i:Int):=slot_is' u2e;clear hp;go_simp;exact hK.out _ (by first | rfl | simp [*])
    ·refine FStep.late rfl rfl fun ac hp wk K hK=>?_;have t0_:ac.tmps[0]?.getD undef = .slice (some ⟨g,0,none⟩) m cap:=hp.slot 0 rfl rfl;clear hp;go_simp;exact hK.out _ (by first | rfl | simp [*])
    ·refine FStep.late rfl rfl fun ac hp wk K hK=>?_;have t2_:ac.tmps[2]?.getD undef = .int .i64 (b:Int):=hp.slot 2 rfl rfl;clear hp;go_simp;exact hK.out _ (by first | rfl | simp [*])
    ·refine FStep.late rfl rfl fun ac hp wk K hK=>?_;have t10_:ac.tmps[10]?.getD undef = .int .i64 (i:Int):=hp.slot 10 rfl rfl;clear hp;go_simp;exact hK.out _ (by first | rfl | simp [*])
    ·refine FStep.late rfl rfl fun ac hp wk K hK=>?_;have u5e:=hp.g 5;have t21_:ac.tmps[21]?.getD undef = .int .i64 (b:Int):=slot_is' u5e;have u6e:=hp.g 6;have t22_:ac.tmps[22]?.getD undef = .int .i64 (i:Int):=slot_is' u6e;clear hp;go_simp;exact hK.out _ (by first | rfl | simp [*])
    ·refine FStep.late rfl rfl fun ac hp wk K hK=>?_;have t0_:ac.tmps[0]?.getD undef = .slice (some ⟨g,0,none⟩) m cap:=hp.slot 0 rfl rfl;clear hp;go_simp;exact hK.out _ (by first | rfl | simp [*])
    ·refine FStep.late rfl rfl fun ac hp wk K hK=>?_;have t2_:ac.tmps[2]?.getD undef = .int .i64 (b:Int):=hp.slot 2 rfl rfl;clear hp;go_simp;exact hK.out _ (by first | rfl | simp [*])
    ·refine FStep.late rfl rfl fun ac hp wk K hK=>?_;have t10_:ac.tmps[10]?.getD undef = .int .i64 (i:Int):=hp.slot 10 rfl rfl;clear hp;go_simp;exact hK.out _ (by first | rfl | simp [*])
    ·refine FStep.late rfl rfl fun ac hp wk K hK=>?_;have u9e:=hp.g 9;have t25_:ac.tmps[25]?.getD undef = .int .i64 (b:Int):=slot_is' u9e;have u10e:=hp.g 10;have t26_:ac.tmps[26]?.getD undef = .int .i64 (i:Int):=slot_is' u10e;clear hp;go_simp;exact hK.out _ (by first | rfl | simp [*])
    ·refine FStep.late rfl rfl fun ac hp wk K hK=>?_;have u8e:=hp.g 8;have t24_:ac.tmps[24]?.getD undef = .slice (some ⟨g,0,none⟩) m cap:=slot_is' u8e;have u11e:=hp.g 11;have t27_:ac.tmps[27]?.getD undef = .int .i64 (J:Int):=slot_is' u11e;clear hp;go_simp;exact hK.out _ (by first | rfl | simp [*])
    ·refine FStep.read rfl rfl rfl (fun ac hp wk K hw hK=>?_);have u12e:=hp.g 12;have t28_:ac.tmps[28]?.getD undef = .pointer (some ⟨g,J*6,none⟩):=slot_is' u12e;clear hp;have hw2:wk=wd:=hw;clear hw;rw[hw2]at hK ⊢;clear hw2;have h0:=D20.out.1;have h1:=D21.out.1;have h2:=D22.out.1;have h3:=D23.out.1;have h4:=D24.out.1;have h5:=D25.out.1;clear hwd hw6;go_simp;exact hK.out _ (by first | rfl | simp [*])
    ·refine FStep.late rfl rfl fun ac hp wk K hK=>?_;have t0_:ac.tmps[0]?.getD undef = .slice (some ⟨g,0,none⟩) m cap:=hp.slot 0 rfl rfl;clear hp;go_simp;exact hK.out _ (by first | rfl | simp [*])
    ·refine FStep.late rfl rfl fun ac hp wk K hK=>?_;have t1_:ac.tmps[1]?.getD undef = .int .i64 (a:Int):=hp.slot 1 rfl rfl;clear hp;go_simp;exact hK.out _ (by first | rfl | simp [*])
    ·refine FStep.late rfl rfl fun ac hp wk K hK=>?_;have t10_:ac.tmps[10]?.getD undef = .int .i64 (i:Int):=hp.slot 10 rfl rfl;clear hp;go_simp;exact hK.out _ (by first | rfl | simp [*])
    ·refine FStep.late rfl rfl fun ac hp wk K hK=>?_;have u15e:=hp.g 15;have t31_:ac.tmps[31]?.getD undef = .int .i64 (a:Int):=slot_is' u15e;have u16e:=hp.g 16;have t32_:ac.tmps[32]?.getD undef = .int .i64 (i:Int):=slot_is' u16e;clear hp;go_simp;exact hK.out _ (by first | rfl | simp [*])
    ·refine FStep.late rfl rfl fun ac hp wk K hK=>?_;have u14e:=hp.g 14;have t30_:ac.tmps[30]?.getD undef = .slice (some ⟨g,0,none⟩) m cap:=slot_is' u14e;have u17e:=hp.g 17;have t33_:ac.tmps[33]?.getD undef = .int .i64 (I:Int):=slot_is' u17e;clear hp;go_simp;exact hK.out _ (by first | rfl | simp [*])
    ·refine FStep.read rfl rfl rfl (fun ac hp wk K hw hK=>?_);have u18e:=hp.g 18;have t34_:ac.tmps[34]?.getD undef = .pointer (some ⟨g,I*6,none⟩):=slot_is' u18e;clear hp;have hw2:wk=wd:=hw;clear hw;rw[hw2]at hK ⊢;clear hw2;have h0:=D10.out.1;have h1:=D11.out.1;have h2:=D12.out.1;have h3:=D13.out.1;have h4:=D14.out.1;have h5:=D15.out.1;clear hwd hw6;go_simp;exact hK.out _ (by first | rfl | simp [*])
    ·refine FStep.late rfl rfl fun ac hp wk K hK=>?_;have u0e:=hp.g 0;have t16_:ac.tmps[16]?.getD undef = .slice (some ⟨g,0,none⟩) m cap:=slot_is' u0e;have u3e:=hp.g 3;have t19_:ac.tmps[19]?.getD undef = .int .i64 (I:Int):=slot_is' u3e;clear hp;go_simp;exact hK.out _ (by first | rfl | simp [*])
    ·refine FStep.store 0 rfl rfl (fun ac hp wk K hw hK=>?_);have u20e:=hp.g 20;have t36_:ac.tmps[36]?.getD undef = .pointer (some ⟨g,I*6,none⟩):=slot_is' u20e;have u13e:=hp.g 13;have t29_:ac.tmps[29]?.getD undef = .agg #[.int .u8 (k2:Int),.int .i64 n2,.slice p2 a2 b2,.bool s2,.slice r2 c2 d2,.slice u2 e2 f2]:=slot_is' u13e;clear hp;have hw2:wk=wd:=hw;clear hw;rw[hw2];clear hw2;have h0:=D10.out.1;have z0:=RD.out.free (I*6);have h1:=D11.out.1;have z1:=RD.out.free (I*6+1);have h2:=D12.out.1;have z2:=RD.out.free (I*6+2);have h3:=D13.out.1;have z3:=RD.out.free (I*6+3);have h4:=D14.out.1;have z4:=RD.out.free (I*6+4);have h5:=D15.out.1;have z5:=RD.out.free (I*6+5);have hw6:=Hd hw6;clear hwd;go_simp;exact hK.out _ (by first | exact hw6.out | rfl)
    ·refine FStep.late rfl rfl fun ac hp wk K hK=>?_;have u4e:=hp.g 4;have t20_:ac.tmps[20]?.getD undef = .slice (some ⟨g,0,none⟩) m cap:=slot_is' u4e;have u7e:=hp.g 7;have t23_:ac.tmps[23]?.getD undef = .int .i64 (J:Int):=slot_is' u7e;clear hp;go_simp;exact hK.out _ (by first | rfl | simp [*])
    ·refine FStep.store 1 rfl rfl (fun ac hp wk K hw hK=>?_);have u22e:=hp.g 22;have t37_:ac.tmps[37]?.getD undef = .pointer (some ⟨g,J*6,none⟩):=slot_is' u22e;have u19e:=hp.g 19;have t35_:ac.tmps[35]?.getD undef = .agg #[.int .u8 (k1:Int),.int .i64 n1,.slice p1 a1 b1,.bool s1,.slice r1 c1 d1,.slice u1 e1 f1]:=slot_is' u19e;clear hp;have hw2:wk=w6:=hw;clear hw;rw[hw2];clear hw2;have h0:World.cell? w6 ⟨g,J*6,none⟩=(some (.int .u8 (k2:Int)):Option Value):=(RS6.out.cell HJ3.out (j:=0) (u:=.int .u8 (k2:Int)) (by rw[HX2.out];rfl)).1;have z0:=RS6.out.free (J*6);have h1:World.cell? w6 ⟨g,J*6+1,none⟩=(some (.int .i64 n2):Option Value):=(RS6.out.cell HJ3.out (j:=1) (u:=.int .i64 n2) (by rw[HX2.out];rfl)).1;have z1:=RS6.out.free (J*6+1);have h2:World.cell? w6 ⟨g,J*6+2,none⟩=(some (.slice p2 a2 b2):Option Value):=(RS6.out.cell HJ3.out (j:=2) (u:=.slice p2 a2 b2) (by rw[HX2.out];rfl)).1;have z2:=RS6.out.free (J*6+2);have h3:World.cell? w6 ⟨g,J*6+3,none⟩=(some (.bool s2):Option Value):=(RS6.out.cell HJ3.out (j:=3) (u:=.bool s2) (by rw[HX2.out];rfl)).1;have z3:=RS6.out.free (J*6+3);have h4:World.cell? w6 ⟨g,J*6+4,none⟩=(some (.slice r2 c2 d2):Option Value):=(RS6.out.cell HJ3.out (j:=4) (u:=.slice r2 c2 d2) (by rw[HX2.out];rfl)).1;have z4:=RS6.out.free (J*6+4);have h5:World.cell? w6 ⟨g,J*6+5,none⟩=(some (.slice u2 e2 f2):Option Value):=(RS6.out.cell HJ3.out (j:=5) (u:=.slice u2 e2 f2) (by rw[HX2.out];rfl)).1;have z5:=RS6.out.free (J*6+5);clear hwd;go_simp;exact hK.out _ (by first | exact hw6.out | rfl)
   case he =>
    intro ac wz hwz hag hM
    have RZ:Hid (RowS g cap (List.set (List.set L I y) J x) wz):=by rw[hwz];exact sw_row RS6.out HJ3.out HX1.out EX6.out
    have BZ:Hid (Below g w wz):=by rw[hwz];exact below6 BS6.out _ _ _ _ _ _ _ _ _ _ _ _
    have y0_:sl ac 16 = .slice (some ⟨g,0,none⟩) m cap:=hM 0 (by decide) rfl;have y1_:sl ac 17 = .int .i64 (a:Int):=hM 1 (by decide) rfl;have y2_:sl ac 18 = .int .i64 (i:Int):=hM 2 (by decide) rfl;have y3_:sl ac 19 = .int .i64 (I:Int):=hM 3 (by decide) rfl;have y4_:sl ac 20 = .slice (some ⟨g,0,none⟩) m cap:=hM 4 (by decide) rfl;have y5_:sl ac 21 = .int .i64 (b:Int):=hM 5 (by decide) rfl;have y6_:sl ac 22 = .int .i64 (i:Int):=hM 6 (by decide) rfl;have y7_:sl ac 23 = .int .i64 (J:Int):=hM 7 (by decide) rfl;have y8_:sl ac 24 = .slice (some ⟨g,0,none⟩) m cap:=hM 8 (by decide) rfl;have y9_:sl ac 25 = .int .i64 (b:Int):=hM 9 (by decide) rfl;have y10_:sl ac 26 = .int .i64 (i:Int):=hM 10 (by decide) rfl;have y11_:sl ac 27 = .int .i64 (J:Int):=hM 11 (by decide) rfl;have y12_:sl ac 28 = .pointer (some ⟨g,J*6,none⟩):=hM 12 (by decide) rfl;have y13_:sl ac 29 = .agg #[.int .u8 (k2:Int),.int .i64 n2,.slice p2 a2 b2,.bool s2,.slice r2 c2 d2,.slice u2 e2 f2]:=hM 13 (by decide) rfl;have y14_:sl ac 30 = .slice (some ⟨g,0,none⟩) m cap:=hM 14 (by decide) rfl;have y15_:sl ac 31 = .int .i64 (a:Int):=hM 15 (by decide) rfl;have y16_:sl ac 32 = .int .i64 (i:Int):=hM 16 (by decide) rfl;have y17_:sl ac 33 = .int .i64 (I:Int):=hM 17 (by decide) rfl;have y18_:sl ac 34 = .pointer (some ⟨g,I*6,none⟩):=hM 18 (by decide) rfl;have y19_:sl ac 35 = .agg #[.int .u8 (k1:Int),.int .i64 n1,.slice p1 a1 b1,.bool s1,.slice r1 c1 d1,.slice u1 e1 f1]:=hM 19 (by decide) rfl;have y20_:sl ac 36 = .pointer (some ⟨g,I*6,none⟩):=hM 20 (by decide) rfl;have y22_:sl ac 37 = .pointer (some ⟨g,J*6,none⟩):=hM 22 (by decide) rfl;rw[hag.lay]
    simp only[lay,List.foldl_cons,List.foldl_nil,List.setIfInBounds_toArray,List.set_cons_zero,List.set_cons_succ,y0_,y1_,y2_,y3_,y4_,y5_,y6_,y7_,y8_,y9_,y10_,y11_,y12_,y13_,y14_,y15_,y16_,y17_,y18_,y19_,y20_,y22_];clear hwz hag hM hwd hw6 y0_ y1_ y2_ y3_ y4_ y5_ y6_ y7_ y8_ y9_ y10_ y11_ y12_ y13_ y14_ y15_ y16_ y17_ y18_ y19_ y20_ y22_;clear D10 D11 D12 D13 D14 D15 D20 D21 D22 D23 D24 D25;have hsw:=RZ.out;rw[HNX.out]at hsw;go_wp2_with fail;exact⟨⟨i+1,_,X1 ++ [x],X3,Y1 ++ [y],Y3,by first | rfl | rw[hwi],LT.out,rfl,by show _=_;rw[HXS.out];simp,by show _=_;rw[HYS.out];simp,by show _=_;rw[List.length_append,HX1L.out];rfl,by show _=_;rw[List.length_append,HY1L.out];rfl,hsw,BZ.out⟩,by simp [intOf];have:=LT.out;omega⟩
  ·have hi:i=n:=by omega
   have t1:¬ (i:Int)<(n:Int):=by omega
   have e1:X2 = []:=by
    have h1:=HN.out;rw[HXS.out,List.length_append,HX1L.out]at h1;exact List.eq_nil_of_length_eq_zero (by omega)
   have e2:Y2 = []:=by
    have h1:=HN2.out;rw[HYS.out,List.length_append,HY1L.out]at h1;exact List.eq_nil_of_length_eq_zero (by omega)
   subst hi e1 e2;clear hlt hin;go_wp2_with fail
   go_end0
   refine⟨rfl,?_,HBL.out⟩;have h:=RR.out;rw[HL.out]at h;rw[HXS.out,HYS.out]
   simpa using h
end Go.Proofs.YtfofjalebhajhaaGreatDoor
