/- symMergeCmpFunc of shares. -/
import Derived.Test.YtfofjalebhajhaaGreatDoorShare7
import Derived.Deep.DeepCutAuto
import Derived.Deep.CutRange
import Derived.Deep.CutBlock
namespace Go.Proofs.YtfofjalebhajhaaGreatDoor
open Go Go.RowKit
theorem all_le {A B:List Sh}(ha:SortedS A) (hb:SortedS B) (h:∀ A' x y B',A=A' ++ [x]→B=y :: B'→leS x y):∀ u∈A,∀ v∈B,leS u v:=by
 intro u hu v hv
 rcases List.eq_nil_or_concat A with e | ⟨A',x,e⟩
 ·rw[e]at hu;cases hu
 ·rw[List.concat_eq_append]at e
  cases B with
  | nil=>cases hv
  | cons y B' =>
   have h1:=h A' x y B' e rfl
   have h2:leS u x:=by
    rw[e]at hu ha
    rcases List.mem_append.1 hu with hu | hu
    ·exact (List.pairwise_append.1 ha).2.2 u hu x (by simp)
    ·simp at hu;rw[hu];show cmpV _ _≤0;rw[cmpV_refl];exact Int.le_refl _
   rcases List.mem_cons.1 hv with e2 | hv
   ·rw[e2];exact leS_trans h2 h1
   ·exact leS_trans h2 (leS_trans h1 ((List.pairwise_cons.1 hb).1 v hv))
theorem join_sorted {X1 X2 Y1 Y2 Z1 Z2:List Sh}(hx:SortedS (X1 ++ X2)) (hy:SortedS (Y1 ++ Y2)) (p1:Z1.Perm (X1 ++ Y1)) (p2:Z2.Perm (X2 ++ Y2)) (s1:SortedS Z1) (s2:SortedS Z2)
  (f1:∀ A x y B,X1=A ++ [x]→Y2=y :: B→leS x y) (f2:∀ A y x B,Y1=A ++ [y]→X2=x :: B→leS y x):SortedS (Z1 ++ Z2):=by
 have hx:=List.pairwise_append.1 hx;have hy:=List.pairwise_append.1 hy;refine List.pairwise_append.2 ⟨s1,s2,fun u hu v hv=>?_⟩
 rcases List.mem_append.1 (p1.mem_iff.1 hu) with hu | hu <;> rcases List.mem_append.1 (p2.mem_iff.1 hv) with hv | hv
 ·exact hx.2.2 u hu v hv
 ·exact all_le hx.1 hy.2.1 f1 u hu v hv
 ·exact all_le hy.1 hx.2.1 f2 u hu v hv
 ·exact hy.2.2 u hu v hv
theorem join_perm {X1 X2 Y1 Y2 Z1 Z2:List Sh}(p1:Z1.Perm (X1 ++ Y1)) (p2:Z2.Perm (X2 ++ Y2)):(Z1 ++ Z2).Perm ((X1 ++ X2) ++ (Y1 ++ Y2)):=by
 refine (p1.append p2).trans ?_;rw[List.append_assoc,List.append_assoc];refine List.Perm.append_left X1 ?_;rw[←List.append_assoc,←List.append_assoc];exact List.Perm.append_right Y2 List.perm_append_comm
def SymOk (N:Nat):Prop:=∀ (g cap:Nat) (R:List Sh) (w:World) (P X Y T:List Sh) (m a k b:Nat),RowS g cap R w→R.length≤100000→R=P ++ X ++ Y ++ T→R.length=m→P.length=a→a+X.length=k→k+Y.length=b→1≤X.length→1≤Y.length→SortedS X→SortedS Y→b≤a+N →
  Calls Tryz.prog 135 #[.slice (some ⟨g,0,none⟩) m cap,.int .i64 (a:Int),.int .i64 (k:Int),.int .i64 (b:Int),.func (.func 53) #[] #[]] w fun e w'=>e = .returned (.tuple #[]) ∧ ∃ Z,RowS g cap (P ++ Z ++ T) w'∧Below g w w'∧Z.Perm (X ++ Y)∧SortedS Z
set_option maxHeartbeats 4000000 in
set_option maxRecDepth 1000000 in
theorem symm3_calls {N:Nat}(IHN:SymOk N){g cap:Nat}{R:List Sh}{w:World}(hR:RowS g cap R w) (hlen:R.length≤100000){P X Y T:List Sh}(he:R=P ++ X ++ Y ++ T){m a k b:Nat}(hm:R.length=m) (ha:P.length=a) (hk:a+X.length=k) (hb:k+Y.length=b) (hx:2≤X.length) (hy:2≤Y.length) (hsx:SortedS X) (hsy:SortedS Y) (hN:b≤a+(N+1)) :
  Calls Tryz.prog 135 #[.slice (some ⟨g,0,none⟩) m cap,.int .i64 (a:Int),.int .i64 (k:Int),.int .i64 (b:Int),.func (.func 53) #[] #[]] w fun e w'=>e = .returned (.tuple #[]) ∧ ∃ Z,RowS g cap (P ++ Z ++ T) w'∧Below g w w'∧Z.Perm (X ++ Y)∧SortedS Z:=by
 have HM:=Hd hm;have HR:=Hd hR;have HE:=Hd he;have HA:=Hd ha;have HK:=Hd hk;have HB:=Hd hb;have HSX:=Hd hsx;have HSY:=Hd hsy;have HN:=Hd hN;have HXL:=Hd hx;have HYL:=Hd hy;have HIH:=Hd IHN
 have BM:Hid (b≤m):=by show _≤_;rw[←hm,he];simp;omega
 have M5:Hid (m≤100000):=by show _≤_;rw[←hm];exact hlen
 have bm:=BM.out;have m5:=M5.out
 obtain⟨c,hc⟩:∃ c,(a+b) / 2=c:=⟨_,rfl⟩
 obtain⟨lo,hi,hlohi⟩:∃ lo hi,(c<k∧lo+b=c+k∧hi=c)∨(k≤c∧lo=a∧hi=k):=by
  by_cases h:c<k
  ·exact⟨c+k - b,c,.inl ⟨h,by omega,rfl⟩⟩
  ·exact⟨a,k,.inr ⟨by omega,rfl,rfl⟩⟩
 obtain⟨d1,hd1⟩:∃ d,X.length=d:=⟨_,rfl⟩
 obtain⟨d2,hd2⟩:∃ d,Y.length=d:=⟨_,rfl⟩
 have hw0:IntKind.i64.wrap ((k:Int) - (a:Int))=(d1:Int):=by rw[IntWalk.i64_in _ (by omega)];omega
 have hw1:IntKind.i64.wrap ((b:Int) - (k:Int))=(d2:Int):=by rw[IntWalk.i64_in _ (by omega)];omega
 have hz1:¬ (d1:Int)=1:=by omega
 have hz2:((d1:Int) == 1)=false:=beq_eq_false_iff_ne.2 hz1
 have hz3:¬ (d2:Int)=1:=by omega
 have hz4:((d2:Int) == 1)=false:=beq_eq_false_iff_ne.2 hz3
 obtain⟨nn,hnn⟩:∃ nn,c+k=nn:=⟨_,rfl⟩
 obtain⟨pz,hpz⟩:∃ pz,pz+1=nn:=⟨nn - 1,by omega⟩
 have hws:IntKind.i64.wrap ((a:Int)+(b:Int))=(a:Int)+(b:Int):=by rw[IntWalk.i64_in _ (by omega)]
 have hu0:IntKind.u64.wrap ((a:Int)+(b:Int))=(a:Int)+(b:Int):=by rw[IntWalk.u64_in _ (by omega)]
 have hu1:IntKind.i64.wrap (((a:Int)+(b:Int)) / 2)=(c:Int):=by rw[IntWalk.i64_in _ (by omega)];omega
 have hwn:IntKind.i64.wrap ((c:Int)+(k:Int))=(nn:Int):=by rw[IntWalk.i64_in _ (by omega)];omega
 have hwp:IntKind.i64.wrap ((nn:Int) - 1)=(pz:Int):=by rw[IntWalk.i64_in _ (by omega)];omega
 have LH:Hid (a≤lo∧lo≤hi∧hi≤k∧hi≤c∧nn≤b+lo∧k+hi≤nn∧(lo=a∨nn=b+lo)∧(hi=k∨k+hi=nn)∧pz+1=nn∧c+k=nn∧a<c∧c<b):=by
  refine⟨?_,?_,?_,?_,?_,?_,?_,?_,?_,?_,?_,?_⟩ <;> omega
 have HLOHI:=Hd hlohi;clear hR hm ha hb hk he hlen hx hy hsx hsy hN IHN bm m5 hd1 hd2 hc hnn hpz hlohi
 go_enter Tryz.func135,Tryz.ntmps135
 go_upto_if 140 with (fail)
 go_cut [20,21] from 138 to 146 (fun v20 v21 wx=>w=wx∧v20 = .int .i64 (lo:Int)∧v21 = .int .i64 (hi:Int))
 case first =>
  have bm:=BM.out;have m5:=M5.out;have lh:=LH.out
  rcases HLOHI.out with⟨h1,h2,h3⟩ | ⟨h1,h2,h3⟩
  ·have hg:(c:Int)<(k:Int):=by omega
   have hwl:IntKind.i64.wrap ((nn:Int) - (b:Int))=(lo:Int):=by rw[IntWalk.i64_in _ (by omega)];omega
   subst h3;clear h1 h2 lh bm m5;go_wp2_with fail
   go_meet
   case rel=>exact⟨rfl,rfl,rfl⟩
  ·have hg:¬ (c:Int)<(k:Int):=by omega
   subst h2 h3;clear h1 lh bm m5;go_wp2_with fail
   go_meet
   case rel=>exact⟨rfl,rfl,rfl⟩
 case rest =>
  obtain⟨rfl,rfl,rfl⟩:=hcut;go_wp2_with fail
  go_loopw [20,21] (fun v20 v21 wr => ∃ (ix j:Nat),v20 = .int .i64 (ix:Int)∧v21 = .int .i64 (j:Int)∧Hid (lo≤ix)∧Hid (ix≤j)∧Hid (j≤hi)∧Ext w wr∧Hid (lo<ix → ∀ x y,R[ix - 1]? = some x→R[nn - ix]? = some y→0≤cmpS y x)∧Hid (j<hi → ∀ x y,R[j]? = some x→R[nn - 1 - j]? = some y→cmpS y x<0)) (fun v20 v21 _=>(intOf v21).toNat - (intOf v20).toNat)
  case atStart=>exact⟨lo,hi,rfl,rfl,Nat.le_refl _,LH.out.2.1,Nat.le_refl _,Ext.refl _,fun h=>absurd h (Nat.lt_irrefl _),fun h=>absurd h (Nat.lt_irrefl _)⟩
  case round =>
   rename World=>wr
   obtain⟨ix,j,rfl,rfl,H1,H2,H3,hx,HLO,HHI⟩:=hrel;have XX:=Hd hx;have RR:=Hd (HR.out.ext hx);clear hx;have bm:=BM.out;have m5:=M5.out;have lh:=LH.out;have h1:=H1.out;have h2:=H2.out;have h3:=H3.out
   by_cases hij:ix<j
   ·have IJ:=Hd hij
    obtain⟨h,hh⟩:∃ h,(ix+j) / 2=h:=⟨_,rfl⟩
    have ih:ix≤h:=by omega
    have hj:h<j:=by omega
    have IH:=Hd ih;have HJ:=Hd hj
    obtain⟨pi,hpi⟩:∃ pi,pi+h=pz:=⟨pz - h,by omega⟩
    have hhm:h<m:=by omega
    have ham:pi<m:=by omega
    have HPI:Hid (nn - 1 - h=pi):=by show _=_;omega
    have hm1:(h:Int)+1≤(m:Int):=by omega
    have am1:(pi:Int)+1≤(m:Int):=by omega
    have hlt:(ix:Int)<(j:Int):=by omega
    have hwh:IntKind.i64.wrap ((h:Int)+1)=((h+1:Nat):Int):=by rw[IntWalk.i64_in _ (by omega)];omega
    have hwi:IntKind.i64.wrap ((pz:Int) - (h:Int))=(pi:Int):=by rw[IntWalk.i64_in _ (by omega)];omega
    have hvs:IntKind.i64.wrap ((ix:Int)+(j:Int))=(ix:Int)+(j:Int):=by rw[IntWalk.i64_in _ (by omega)]
    have hv0:IntKind.u64.wrap ((ix:Int)+(j:Int))=(ix:Int)+(j:Int):=by rw[IntWalk.u64_in _ (by omega)]
    have hv1:IntKind.i64.wrap (((ix:Int)+(j:Int)) / 2)=(h:Int):=by rw[IntWalk.i64_in _ (by omega)];omega
    obtain⟨x,hx⟩:∃ y,R[h]? = some y:=⟨_,List.getElem?_eq_getElem (by rw[HM.out];exact hhm)⟩
    obtain⟨y,hy⟩:∃ y,R[pi]? = some y:=⟨_,List.getElem?_eq_getElem (by rw[HM.out];exact ham)⟩
    have HXH:=Hd hx;have HYH:=Hd hy
    obtain⟨r,hr⟩:∃ r,cmpS y x=r:=⟨_,rfl⟩
    obtain⟨cb,hcb⟩:∃ c,decide (r<0)=c:=⟨_,rfl⟩
    have HR2:=Hd hr;have HCB:=Hd hcb;have HE1:=Hd (RR.out.its y (List.mem_of_getElem? HYH.out));obtain⟨k1,n1,p1,a1,b1,s1,r1,c1,d1,u1,e1,f1,hx1⟩:=HE1.out.shape;have HX1:=Hd hx1;have D10:Hid (At g (pi*6) (.int .u8 (k1:Int)) _):=RR.out.cell HYH.out (j:=0) (u:=.int .u8 (k1:Int)) (by rw[hx1];rfl);have D11:Hid (At g (pi*6+1) (.int .i64 n1) _):=RR.out.cell HYH.out (j:=1) (u:=.int .i64 n1) (by rw[hx1];rfl);have D12:Hid (At g (pi*6+2) (.slice p1 a1 b1) _):=RR.out.cell HYH.out (j:=2) (u:=.slice p1 a1 b1) (by rw[hx1];rfl);have D13:Hid (At g (pi*6+3) (.bool s1) _):=RR.out.cell HYH.out (j:=3) (u:=.bool s1) (by rw[hx1];rfl);have D14:Hid (At g (pi*6+4) (.slice r1 c1 d1) _):=RR.out.cell HYH.out (j:=4) (u:=.slice r1 c1 d1) (by rw[hx1];rfl);have D15:Hid (At g (pi*6+5) (.slice u1 e1 f1) _):=RR.out.cell HYH.out (j:=5) (u:=.slice u1 e1 f1) (by rw[hx1];rfl);clear hx1;have HE2:=Hd (RR.out.its x (List.mem_of_getElem? HXH.out));obtain⟨k2,n2,p2,a2,b2,s2,r2,c2,d2,u2,e2,f2,hx2⟩:=HE2.out.shape;have HX2:=Hd hx2;have D20:Hid (At g (h*6) (.int .u8 (k2:Int)) _):=RR.out.cell HXH.out (j:=0) (u:=.int .u8 (k2:Int)) (by rw[hx2];rfl);have D21:Hid (At g (h*6+1) (.int .i64 n2) _):=RR.out.cell HXH.out (j:=1) (u:=.int .i64 n2) (by rw[hx2];rfl);have D22:Hid (At g (h*6+2) (.slice p2 a2 b2) _):=RR.out.cell HXH.out (j:=2) (u:=.slice p2 a2 b2) (by rw[hx2];rfl);have D23:Hid (At g (h*6+3) (.bool s2) _):=RR.out.cell HXH.out (j:=3) (u:=.bool s2) (by rw[hx2];rfl);have D24:Hid (At g (h*6+4) (.slice r2 c2 d2) _):=RR.out.cell HXH.out (j:=4) (u:=.slice r2 c2 d2) (by rw[hx2];rfl)
    have D25:Hid (At g (h*6+5) (.slice u2 e2 f2) _):=RR.out.cell HXH.out (j:=5) (u:=.slice u2 e2 f2) (by rw[hx2];rfl);clear hx2;clear hr hcb hy hx hh bm m5 lh h1 h2 h3 hij ih hj hpi;go_wp2_with fail;go_wp2_with fail;have hkeep51:AllAt' ([]:List (Nat × Nat × Value)) wr:=AllAt'.nil _;have hob51:ObOk wr.heap.size wr (([]:List (Nat × Nat × Value)).map (·.1)) ([]:List (Nat × List (Nat × Value))):=trivial;have hne51:AllNe (([]:List (Nat × List (Nat × Value))).map (·.1)):=trivial
    (try simp only[List.append_eq,List.cons_append,List.nil_append])
    refine wp_region_gen ⟨[158,159,160,161,162,163,164,165,166,167,168,169,170,171],fun i=>false,fun i=>([none,none,none,none,none,none,none,none,none,none,none,none,none,none]:List (Option (BoxRef × Nat))).getD i none,fun i=>([Sg.val (.func (.func 53) #[] #[]),Sg.val (.slice (some ⟨g,0,none⟩) m cap),Sg.val (.int .i64 (pz:Int)),Sg.val (.int .i64 (h:Int)),Sg.val (.int .i64 (pi:Int)),Sg.val (.pointer (some ⟨g,pi*6,none⟩)),Sg.val (.agg #[.int .u8 (k1:Int),.int .i64 n1,.slice p1 a1 b1,.bool s1,.slice r1 c1 d1,.slice u1 e1 f1]),Sg.val (.slice (some ⟨g,0,none⟩) m cap),Sg.val (.int .i64 (h:Int)),Sg.val (.pointer (some ⟨g,h*6,none⟩)),Sg.val (.agg #[.int .u8 (k2:Int),.int .i64 n2,.slice p2 a2 b2,.bool s2,.slice r2 c2 d2,.slice u2 e2 f2]),Sg.val (.int .i64 r),Sg.val (.bool cb),Sg.val (.bool (!cb))]:List Sg).getD i Sg.any,[],[]⟩ wr.heap.size (by kernel_rfl) (by kernel_rfl) (Ext.refl wr).size ?hfr hkeep51 hob51 hne51 ?hs ?he
    case hfr =>
     intro i v wk hi hst hv;exact absurd hi (by simp)
    case hs =>
     refine⟨?_,?_,?_,?_,?_,?_,?_,?_,?_,?_,?_,?_,?_,?_,trivial⟩
     ·refine RStep.op rfl rfl fun ac wk hp K hK=>?_;have t4_:ac.tmps[4]?.getD undef = .func (.func 53) #[] #[]:=hp.slot 4 rfl rfl;have HP:=Hd hp;clear hp;go_simp;refine hK.out _ _ ?_ eR (fun h=>absurd h (by simp));exact rfl
     ·refine RStep.op rfl rfl fun ac wk hp K hK=>?_;have t0_:ac.tmps[0]?.getD undef = .slice (some ⟨g,0,none⟩) m cap:=hp.slot 0 rfl rfl;have HP:=Hd hp;clear hp;go_simp;refine hK.out _ _ ?_ eR (fun h=>absurd h (by simp));exact rfl
     ·refine RStep.op rfl rfl fun ac wk hp K hK=>?_;have t22_:ac.tmps[22]?.getD undef = .int .i64 (pz:Int):=hp.slot 22 rfl rfl;have HP:=Hd hp;clear hp;go_simp;refine hK.out _ _ ?_ eR (fun h=>absurd h (by simp));exact rfl
     ·refine RStep.op rfl rfl fun ac wk hp K hK=>?_;have t23_:ac.tmps[23]?.getD undef = .int .i64 (h:Int):=hp.slot 23 rfl rfl;have HP:=Hd hp;clear hp;go_simp;refine hK.out _ _ ?_ eR (fun h=>absurd h (by simp));exact rfl
     ·refine RStep.op rfl rfl fun ac wk hp K hK=>?_;have u2e:=hp.g 2;have t160_:ac.tmps[160]?.getD undef = .int .i64 (pz:Int):=slot_is' u2e;have u3e:=hp.g 3;have t161_:ac.tmps[161]?.getD undef = .int .i64 (h:Int):=slot_is' u3e;have HP:=Hd hp;clear hp;go_simp;refine hK.out _ _ ?_ eR (fun h=>absurd h (by simp));exact (by first | rfl | (apply congrArg Value.bool;simp;done) | (apply congrArg Value.bool;simp;omega) | (simp [*];done))
     ·refine RStep.op rfl rfl fun ac wk hp K hK=>?_;have u1e:=hp.g 1;have t159_:ac.tmps[159]?.getD undef = .slice (some ⟨g,0,none⟩) m cap:=slot_is' u1e;have u4e:=hp.g 4;have t162_:ac.tmps[162]?.getD undef = .int .i64 (pi:Int):=slot_is' u4e;have HP:=Hd hp;clear hp;go_simp;refine hK.out _ _ ?_ eR (fun h=>absurd h (by simp));exact (by first | rfl | (apply congrArg Value.bool;simp;done) | (apply congrArg Value.bool;simp;omega) | (simp [*];done))
     ·refine RStep.op rfl rfl fun ac wk hp K hK=>?_;have u5e:=hp.g 5;have t163_:ac.tmps[163]?.getD undef = .pointer (some ⟨g,pi*6,none⟩):=slot_is' u5e;have HP:=Hd hp;clear hp;have q0:=(D10.out.ext HP.out.blw).1;have q1:=(D11.out.ext HP.out.blw).1;have q2:=(D12.out.ext HP.out.blw).1;have q3:=(D13.out.ext HP.out.blw).1;have q4:=(D14.out.ext HP.out.blw).1;have q5:=(D15.out.ext HP.out.blw).1;go_simp;refine hK.out _ _ ?_ eR (fun h=>absurd h (by simp));exact (by first | rfl | (apply congrArg Value.bool;simp;done) | (apply congrArg Value.bool;simp;omega) | (simp [*];done))
     ·refine RStep.op rfl rfl fun ac wk hp K hK=>?_;have t0_:ac.tmps[0]?.getD undef = .slice (some ⟨g,0,none⟩) m cap:=hp.slot 0 rfl rfl;have HP:=Hd hp;clear hp;go_simp;refine hK.out _ _ ?_ eR (fun h=>absurd h (by simp));exact rfl
     ·refine RStep.op rfl rfl fun ac wk hp K hK=>?_;have t23_:ac.tmps[23]?.getD undef = .int .i64 (h:Int):=hp.slot 23 rfl rfl;have HP:=Hd hp;clear hp;go_simp;refine hK.out _ _ ?_ eR (fun h=>absurd h (by simp));exact rfl
     ·refine RStep.op rfl rfl fun ac wk hp K hK=>?_;have u7e:=hp.g 7;have t165_:ac.tmps[165]?.getD undef = .slice (some ⟨g,0,none⟩) m cap:=slot_is' u7e;have u8e:=hp.g 8;have t166_:ac.tmps[166]?.getD undef = .int .i64 (h:Int):=slot_is' u8e;have HP:=Hd hp;clear hp;go_simp;refine hK.out _ _ ?_ eR (fun h=>absurd h (by simp));exact (by first | rfl | (apply congrArg Value.bool;simp;done) | (apply congrArg Value.bool;simp;omega) | (simp [*];done))
     ·refine RStep.op rfl rfl fun ac wk hp K hK=>?_;have u9e:=hp.g 9;have t167_:ac.tmps[167]?.getD undef = .pointer (some ⟨g,h*6,none⟩):=slot_is' u9e;have HP:=Hd hp;clear hp;have q0:=(D20.out.ext HP.out.blw).1;have q1:=(D21.out.ext HP.out.blw).1;have q2:=(D22.out.ext HP.out.blw).1;have q3:=(D23.out.ext HP.out.blw).1;have q4:=(D24.out.ext HP.out.blw).1;have q5:=(D25.out.ext HP.out.blw).1;go_simp;refine hK.out _ _ ?_ eR (fun h=>absurd h (by simp));exact (by first | rfl | (apply congrArg Value.bool;simp;done) | (apply congrArg Value.bool;simp;omega) | (simp [*];done))
     ·refine RStep.op rfl rfl fun ac wk hp K hK=>?_;have u0e:=hp.g 0;have t158_:ac.tmps[158]?.getD undef = .func (.func 53) #[] #[]:=slot_is' u0e;have u6e:=hp.g 6;have t164_:ac.tmps[164]?.getD undef = .agg #[.int .u8 (k1:Int),.int .i64 n1,.slice p1 a1 b1,.bool s1,.slice r1 c1 d1,.slice u1 e1 f1]:=slot_is' u6e;have u10e:=hp.g 10;have t168_:ac.tmps[168]?.getD undef = .agg #[.int .u8 (k2:Int),.int .i64 n2,.slice p2 a2 b2,.bool s2,.slice r2 c2 d2,.slice u2 e2 f2]:=slot_is' u10e;have HP:=Hd hp;clear hp;go_simp;refine (less_at HX1.out HX2.out HR2.out (HE1.out.ext HP.out.blw) (HE2.out.ext HP.out.blw)).mono ?_;rintro e wk' ⟨rfl,ix⟩;refine hK.out _ _ ?_ ix (fun h=>absurd h (by simp));exact rfl
     ·refine RStep.op rfl rfl fun ac wk hp K hK=>?_;have u11e:=hp.g 11;have t169_:ac.tmps[169]?.getD undef = .int .i64 r:=slot_is' u11e;have HP:=Hd hp;clear hp;have q0:=HCB.out;go_simp;refine hK.out _ _ ?_ eR (fun h=>absurd h (by simp));exact (by first | rfl | (apply congrArg Value.bool;simp;done) | (apply congrArg Value.bool;simp;omega) | (simp [*];done))
     ·refine RStep.op rfl rfl fun ac wk hp K hK=>?_;have u12e:=hp.g 12;have t170_:ac.tmps[170]?.getD undef = .bool cb:=slot_is' u12e;have HP:=Hd hp;clear hp;go_simp;refine hK.out _ _ ?_ eR (fun h=>absurd h (by simp));exact (by first | rfl | (apply congrArg Value.bool;simp;done) | (apply congrArg Value.bool;simp;omega) | (simp [*];done))
    case he =>
     intro ac v1 hM;have y51_0e:=hM.post 0 rfl rfl;have y51_1e:=hM.post 1 rfl rfl;have y51_2e:=hM.post 2 rfl rfl;have y51_3e:=hM.post 3 rfl rfl;have y51_4e:=hM.post 4 rfl rfl;have y51_5e:=hM.post 5 rfl rfl;have y51_6e:=hM.post 6 rfl rfl;have y51_7e:=hM.post 7 rfl rfl;have y51_8e:=hM.post 8 rfl rfl;have y51_9e:=hM.post 9 rfl rfl;have y51_10e:=hM.post 10 rfl rfl;have y51_11e:=hM.post 11 rfl rfl;have y51_12e:=hM.post 12 rfl rfl;have y51_13e:=hM.post 13 rfl rfl;have gv1:Gr wr v1:=hM.gr;have e1_:Ext wr v1:=Ext.below (Ext.refl wr) hM.blw;have z0_:sl ac 158 = .func (.func 53) #[] #[]:=y51_0e;have z1_:sl ac 159 = .slice (some ⟨g,0,none⟩) m cap:=y51_1e;have z2_:sl ac 160 = .int .i64 (pz:Int):=y51_2e;have z3_:sl ac 161 = .int .i64 (h:Int):=y51_3e;have z4_:sl ac 162 = .int .i64 (pi:Int):=y51_4e;have z5_:sl ac 163 = .pointer (some ⟨g,pi*6,none⟩):=y51_5e;have z6_:sl ac 164 = .agg #[.int .u8 (k1:Int),.int .i64 n1,.slice p1 a1 b1,.bool s1,.slice r1 c1 d1,.slice u1 e1 f1]:=y51_6e;have z7_:sl ac 165 = .slice (some ⟨g,0,none⟩) m cap:=y51_7e;have z8_:sl ac 166 = .int .i64 (h:Int):=y51_8e;have z9_:sl ac 167 = .pointer (some ⟨g,h*6,none⟩):=y51_9e;have z10_:sl ac 168 = .agg #[.int .u8 (k2:Int),.int .i64 n2,.slice p2 a2 b2,.bool s2,.slice r2 c2 d2,.slice u2 e2 f2]:=y51_10e;have z11_:sl ac 169 = .int .i64 r:=y51_11e;have z12_:sl ac 170 = .bool cb:=y51_12e;have z13_:sl ac 171 = .bool (!cb):=y51_13e;rw[hM.ag.lay];simp only[lay,List.foldl_cons,List.foldl_nil,List.setIfInBounds_toArray,List.set_cons_zero,List.set_cons_succ,z0_,z1_,z2_,z3_,z4_,z5_,z6_,z7_,z8_,z9_,z10_,z11_,z12_,z13_]
     clear hM hkeep51 hob51 hne51 z0_ z1_ z2_ z3_ z4_ z5_ z6_ z7_ z8_ z9_ z10_ z11_ z12_ z13_ y51_0e y51_1e y51_2e y51_3e y51_4e y51_5e y51_6e y51_7e y51_8e y51_9e y51_10e y51_11e y51_12e y51_13e
     cases cb
     case false =>
      have hr0:¬ r<0:=of_decide_eq_false HCB.out;go_wp2_with fail;exact⟨⟨h+1,j,by first | rfl | (rw[hwh]) | simp,rfl,(by show _≤_;have:=H1.out;have:=IH.out;omega),HJ,H3,XX.out.trans e1_,fun _ z u hz hu=>(by rw[Nat.add_sub_cancel,HXH.out]at hz;rw[Nat.add_comm,←Nat.sub_sub,HPI.out,HYH.out]at hu;injection hz with hz;injection hu with hu;rw[←hz,←hu,HR2.out];omega),HHI⟩,by simp only[intOf];have:=HJ.out;have:=IH.out;omega⟩
     case true =>
      have hr0:r<0:=of_decide_eq_true HCB.out;go_wp2_with fail;exact⟨⟨ix,h,rfl,rfl,H1,IH,(by show _≤_;have:=H3.out;have:=HJ.out;omega),XX.out.trans e1_,HLO,fun _ z u hz hu=>(by rw[HXH.out]at hz;rw[HPI.out,HYH.out]at hu;injection hz with hz;injection hu with hu;rw[←hz,←hu,HR2.out];omega)⟩,by simp only[intOf];have:=HJ.out;have:=IH.out;omega⟩
   ·have hi:ix=j:=by omega
    subst hi
    have n1:¬ (ix:Int)<(ix:Int):=by omega
    obtain⟨e,hee⟩:∃ e,e+ix=nn:=⟨nn - ix,by omega⟩
    have hwe:IntKind.i64.wrap ((nn:Int) - (ix:Int))=(e:Int):=by rw[IntWalk.i64_in _ (by omega)];omega
    obtain⟨X1,X2,hX,hX1⟩:∃ X1 X2,X=X1 ++ X2∧a+X1.length=ix:=⟨X.take (ix - a),X.drop (ix - a),(List.take_append_drop _ _).symm,by rw[List.length_take];have:=HK.out;omega⟩
    obtain⟨Y1,Y2,hY,hY1⟩:∃ X1 X2,Y=X1 ++ X2∧k+X1.length=e:=⟨Y.take (e - k),Y.drop (e - k),(List.take_append_drop _ _).symm,by rw[List.length_take];have:=HB.out;omega⟩
    have hX2:ix+X2.length=k:=by have h:=HK.out;rw[hX,List.length_append]at h;omega
    have hY2:e+Y2.length=b:=by have h:=HB.out;rw[hY,List.length_append]at h;omega
    have HF1:Hid (∀ A x y B,X1=A ++ [x]→Y2=y :: B→leS x y):=by
     intro A x y B ex ey
     have hl1:A.length+1=X1.length:=by rw[ex];simp
     have hl2:1≤Y2.length:=by rw[ey];simp
     refine leS_of_nlt (HLO.out (by omega) x y (get_mid (A:=P ++ A) (B:=X2 ++ Y ++ T) (by rw[HE.out,hX,ex];simp) (by rw[List.length_append];have:=HA.out;omega)) (get_mid (A:=P ++ X ++ Y1) (B:=B ++ T) (by rw[HE.out,hY,ey];simp) (by rw[List.length_append,List.length_append];have:=HA.out;have:=HK.out;omega)))
    have HF2:Hid (∀ A y x B,Y1=A ++ [y]→X2=x :: B→leS y x):=by
     intro A y x B ey ex
     have hl1:A.length+1=Y1.length:=by rw[ey];simp
     have hl2:1≤X2.length:=by rw[ex];simp
     refine leS_of_lt (HHI.out (by omega) x y (get_mid (A:=P ++ X1) (B:=B ++ Y ++ T) (by rw[HE.out,hX,ex];simp) (by rw[List.length_append];have:=HA.out;omega)) (get_mid (A:=P ++ X ++ A) (B:=Y2 ++ T) (by rw[HE.out,hY,ey];simp) (by rw[List.length_append,List.length_append];have:=HA.out;have:=HK.out;omega)))
    have HX:=Hd hX;have HY:=Hd hY;have HX1:=Hd hX1;have HX2:=Hd hX2;have HY1:=Hd hY1;have HY2:=Hd hY2;have HEE:=Hd hee;clear h1 h2 h3 bm m5 lh hij hX hY hX1 hX2 hY1 hY2 hee HLO HHI H1 H2 H3
    go_upto_region 39 with (fail)
    obtain⟨tb185,htb⟩:∃ t,decide (ix<k∧k<e)=t:=⟨_,rfl⟩
    have HTB185:=Hd htb;clear htb
    go_cut [185] from 178 to 185 (fun v wx=>wr=wx∧v = .bool tb185)
    case first =>
     by_cases q1:ix<k
     ·have q1i:(ix:Int)<(k:Int):=by omega
      by_cases q2:k<e
      ·have q2i:(k:Int)<(e:Int):=by omega
       have HQ3:Hid (decide (ix<k∧k<e)=true):=decide_eq_true ⟨q1,q2⟩;clear q1 q2;go_wp2_with fail
       go_meet
       case rel=>exact⟨rfl,congrArg Value.bool (HQ3.out.symm.trans HTB185.out)⟩
      ·have q2i:¬ (k:Int)<(e:Int):=by omega
       have HQ3:Hid (decide (ix<k∧k<e)=false):=decide_eq_false (fun z=>q2 z.2);clear q1 q2;go_wp2_with fail
       go_meet
       case rel=>exact⟨rfl,congrArg Value.bool (HQ3.out.symm.trans HTB185.out)⟩
     ·have q1i:¬ (ix:Int)<(k:Int):=by omega
      have HQ3:Hid (decide (ix<k∧k<e)=false):=decide_eq_false (fun z=>q1 z.1);clear q1;go_wp2_with fail
      go_meet
      case rel=>exact⟨rfl,congrArg Value.bool (HQ3.out.symm.trans HTB185.out)⟩
    case rest =>
     obtain⟨rfl,rfl⟩:=hcut
     go_upto_if 185 with (fail)
     go_cut [185] from 186 to 191 (fun _ wx=>RowS g cap (P ++ X1 ++ Y1 ++ X2 ++ Y2 ++ T) wx∧Below g w wx)
     case first =>
      cases tb185
      case true =>
       have q1:ix<k∧k<e:=of_decide_eq_true HTB185.out
       have HRO:Hid (Calls Tryz.prog 147 #[.slice (some ⟨g,0,none⟩) m cap,.int .i64 (ix:Int),.int .i64 (k:Int),.int .i64 (e:Int),.func (.func 53) #[] #[]] wr fun z w'=>z = .returned (.tuple #[])∧RowS g cap (P ++ X1 ++ Y1 ++ X2 ++ (Y2 ++ T)) w'∧Below g wr w') :=
        rotate_calls RR.out (by rw[HM.out];exact M5.out) (P:=P ++ X1) (X:=X2) (Y:=Y1) (T:=Y2 ++ T) (by rw[HE.out,HX.out,HY.out];simp) HM.out (by rw[List.length_append,HA.out,HX1.out]) HX2.out HY1.out (by have:=HX2.out;omega) (by have:=HY1.out;omega)
       clear q1;go_wp2_with fail;refine HRO.out.mono ?_;rintro z w1 ⟨rfl,r1,x1⟩;have R1:=Hd r1;have B1:=Hd x1;clear r1 x1 HRO;go_wp2_with fail
       go_meet
       case rel=>exact⟨by simpa using R1.out,Below.trans (XX.out.mono (Nat.le_of_lt HR.out.lt)) B1.out⟩
      case false =>
       have q1:¬ (ix<k∧k<e):=of_decide_eq_false HTB185.out
       have HL1:Hid (RowS g cap (P ++ X1 ++ Y1 ++ X2 ++ Y2 ++ T) wr):=by
        show RowS g cap (P ++ X1 ++ Y1 ++ X2 ++ Y2 ++ T) wr
        have h:=RR.out;rw[HE.out,HX.out,HY.out]at h
        have h2:X2 = []∨Y1 = []:=by
         by_cases q:ix<k
         ·exact .inr (List.eq_nil_of_length_eq_zero (by have:=HY1.out;omega))
         ·exact .inl (List.eq_nil_of_length_eq_zero (by have:=HX2.out;omega))
        rcases h2 with h2 | h2
        ·subst h2;simpa using h
        ·subst h2;simpa using h
       clear q1;go_wp2_with fail
       go_meet
       case rel=>exact⟨HL1.out,XX.out.mono (Nat.le_of_lt HR.out.lt)⟩
     case rest =>
      obtain⟨hr1,hb1⟩:=hcut
      obtain⟨w1,rfl⟩:∃ w1,w1=wc:=⟨_,rfl⟩
      have R1:=Hd hr1;have B1:=Hd hb1;clear hr1 hb1
      go_upto_region 41 with (fail)
      obtain⟨tb199,htb⟩:∃ t,decide (a<ix∧ix<c)=t:=⟨_,rfl⟩
      have HTB199:=Hd htb;clear htb
      go_cut [199] from 192 to 199 (fun v wx=>w1=wx∧v = .bool tb199)
      case first =>
       by_cases q1:a<ix
       ·have q1i:(a:Int)<(ix:Int):=by omega
        by_cases q2:ix<c
        ·have q2i:(ix:Int)<(c:Int):=by omega
         have HQ3:Hid (decide (a<ix∧ix<c)=true):=decide_eq_true ⟨q1,q2⟩;clear q1 q2;go_wp2_with fail
         go_meet
         case rel=>exact⟨rfl,congrArg Value.bool (HQ3.out.symm.trans HTB199.out)⟩
        ·have q2i:¬ (ix:Int)<(c:Int):=by omega
         have HQ3:Hid (decide (a<ix∧ix<c)=false):=decide_eq_false (fun z=>q2 z.2);clear q1 q2;go_wp2_with fail
         go_meet
         case rel=>exact⟨rfl,congrArg Value.bool (HQ3.out.symm.trans HTB199.out)⟩
       ·have q1i:¬ (a:Int)<(ix:Int):=by omega
        have HQ3:Hid (decide (a<ix∧ix<c)=false):=decide_eq_false (fun z=>q1 z.1);clear q1;go_wp2_with fail
        go_meet
        case rel=>exact⟨rfl,congrArg Value.bool (HQ3.out.symm.trans HTB199.out)⟩
      case rest =>
       obtain⟨rfl,rfl⟩:=hcut
       go_upto_if 199 with (fail)
       go_cut [199] from 200 to 205 (fun _ wx => ∃ Z1,RowS g cap (P ++ Z1 ++ X2 ++ Y2 ++ T) wx∧Below g w wx∧Z1.Perm (X1 ++ Y1)∧SortedS Z1)
       case first =>
        cases tb199
        case true =>
         have q1:a<ix∧ix<c:=of_decide_eq_true HTB199.out;have HRO:=Hd (HIH.out g cap (P ++ X1 ++ Y1 ++ (X2 ++ Y2 ++ T)) w1 P X1 Y1 (X2 ++ Y2 ++ T) m a ix c (by simpa using R1.out) (by have h:=M5.out;rw[←HM.out,HE.out,HX.out,HY.out]at h;simp at h ⊢;omega) rfl (by have h:=HM.out;rw[HE.out,HX.out,HY.out]at h;simp at h ⊢;omega) HA.out HX1.out (by have:=LH.out;have:=HY1.out;have:=HEE.out;omega) (by have:=HX1.out;omega) (by have:=LH.out;have:=HY1.out;have:=HEE.out;omega) (by have h:=HSX.out;rw[HX.out]at h;exact (List.pairwise_append.1 h).1) (by have h:=HSY.out;rw[HY.out]at h;exact (List.pairwise_append.1 h).1) (by have:=LH.out;have:=HN.out;omega));clear q1;go_wp2_with fail;refine HRO.out.mono ?_;rintro z w2 ⟨rfl,Z1,r1,x1,p1,s1⟩;have R2:=Hd r1;have B2:=Hd x1;have P1:=Hd p1;have S1:=Hd s1;clear r1 x1 p1 s1 HRO;go_wp2_with fail
         go_meet
         case rel=>exact⟨Z1,by simpa using R2.out,Below.trans B1.out B2.out,P1.out,S1.out⟩
        case false =>
         have q1:¬ (a<ix∧ix<c):=of_decide_eq_false HTB199.out
         have HS1:Hid (SortedS (X1 ++ Y1)):=by
          show SortedS (X1 ++ Y1)
          have h1:=HSX.out;have h2:=HSY.out;rw[HX.out]at h1;rw[HY.out]at h2
          have h3:X1 = []∨Y1 = []:=by
           by_cases q:a<ix
           ·exact .inr (List.eq_nil_of_length_eq_zero (by have:=HY1.out;have:=LH.out;have:=HEE.out;omega))
           ·exact .inl (List.eq_nil_of_length_eq_zero (by have:=HX1.out;omega))
          rcases h3 with h3 | h3
          ·subst h3;exact (List.pairwise_append.1 h2).1
          ·subst h3;rw[List.append_nil];exact (List.pairwise_append.1 h1).1
         clear q1;go_wp2_with fail
         go_meet
         case rel=>exact⟨X1 ++ Y1,by simpa using R1.out,B1.out,List.Perm.refl _,HS1.out⟩
       case rest =>
        obtain⟨Z1,hr1,hb1,hp1,hs1⟩:=hcut
        obtain⟨w2,rfl⟩:∃ w2,w2=wc:=⟨_,rfl⟩
        have R2:=Hd hr1;have B2:=Hd hb1;have P1:=Hd hp1;have S1:=Hd hs1
        have HZL:Hid (a+Z1.length=c):=by show _=_;rw[hp1.length_eq,List.length_append];have:=HX1.out;have:=HY1.out;have:=LH.out;have:=HEE.out;omega
        clear hr1 hb1 hp1 hs1
        go_upto_region 43 with (fail)
        obtain⟨tb213,htb⟩:∃ t,decide (c<e∧e<b)=t:=⟨_,rfl⟩
        have HTB213:=Hd htb;clear htb
        go_cut [213] from 206 to 213 (fun v wx=>w2=wx∧v = .bool tb213)
        case first =>
         by_cases q1:c<e
         ·have q1i:(c:Int)<(e:Int):=by omega
          by_cases q2:e<b
          ·have q2i:(e:Int)<(b:Int):=by omega
           have HQ3:Hid (decide (c<e∧e<b)=true):=decide_eq_true ⟨q1,q2⟩;clear q1 q2;go_wp2_with fail
           go_meet
           case rel=>exact⟨rfl,congrArg Value.bool (HQ3.out.symm.trans HTB213.out)⟩
          ·have q2i:¬ (e:Int)<(b:Int):=by omega
           have HQ3:Hid (decide (c<e∧e<b)=false):=decide_eq_false (fun z=>q2 z.2);clear q1 q2;go_wp2_with fail
           go_meet
           case rel=>exact⟨rfl,congrArg Value.bool (HQ3.out.symm.trans HTB213.out)⟩
         ·have q1i:¬ (c:Int)<(e:Int):=by omega
          have HQ3:Hid (decide (c<e∧e<b)=false):=decide_eq_false (fun z=>q1 z.1);clear q1;go_wp2_with fail
          go_meet
          case rel=>exact⟨rfl,congrArg Value.bool (HQ3.out.symm.trans HTB213.out)⟩
        case rest =>
         obtain⟨rfl,rfl⟩:=hcut
         cases tb213
         case true =>
          have q1:c<e∧e<b:=of_decide_eq_true HTB213.out;have HRO:=Hd (HIH.out g cap (P ++ Z1 ++ X2 ++ Y2 ++ T) w2 (P ++ Z1) X2 Y2 T m c e b R2.out (by have h:=M5.out;rw[←HM.out,HE.out,HX.out,HY.out]at h;have h2:=P1.out.length_eq;simp at h h2 ⊢;omega) (by simp) (by have h:=HM.out;rw[HE.out,HX.out,HY.out]at h;have h2:=P1.out.length_eq;simp at h h2 ⊢;omega) (by rw[List.length_append,HA.out,HZL.out]) (by have:=HX2.out;have:=LH.out;have:=HEE.out;omega) HY2.out (by have:=HX2.out;have:=LH.out;have:=HEE.out;omega) (by have:=HY2.out;omega) (by have h:=HSX.out;rw[HX.out]at h;exact (List.pairwise_append.1 h).2.1) (by have h:=HSY.out;rw[HY.out]at h;exact (List.pairwise_append.1 h).2.1) (by have:=LH.out;have:=HN.out;omega));clear q1;go_wp2_with fail;refine HRO.out.mono ?_;rintro z w3 ⟨rfl,Z2,r1,x1,p1,s1⟩;have R3:=Hd r1;have B3:=Hd x1;have P2:=Hd p1;have S2:=Hd s1;clear r1 x1 p1 s1 HRO;go_wp2_with fail
          go_end0
          exact⟨rfl,Z1 ++ Z2,by simpa using R3.out,Below.trans B2.out B3.out,by rw[HX.out,HY.out];exact join_perm P1.out P2.out,join_sorted (by rw[←HX.out];exact HSX.out) (by rw[←HY.out];exact HSY.out) P1.out P2.out S1.out S2.out HF1.out HF2.out⟩
         case false =>
          have q1:¬ (c<e∧e<b):=of_decide_eq_false HTB213.out
          have HS2:Hid (SortedS (X2 ++ Y2)):=by
           show SortedS (X2 ++ Y2)
           have h1:=HSX.out;have h2:=HSY.out;rw[HX.out]at h1;rw[HY.out]at h2
           have h3:X2 = []∨Y2 = []:=by
            by_cases q:c<e
            ·exact .inr (List.eq_nil_of_length_eq_zero (by have:=HY2.out;omega))
            ·exact .inl (List.eq_nil_of_length_eq_zero (by have:=HX2.out;have:=LH.out;have:=HEE.out;omega))
           rcases h3 with h3 | h3
           ·subst h3;exact (List.pairwise_append.1 h2).2.1
           ·subst h3;rw[List.append_nil];exact (List.pairwise_append.1 h1).2.1
          clear q1;go_wp2_with fail
          go_end0
          exact⟨rfl,Z1 ++ (X2 ++ Y2),by simpa using R2.out,B2.out,by rw[HX.out,HY.out];exact join_perm P1.out (List.Perm.refl _),join_sorted (by rw[←HX.out];exact HSX.out) (by rw[←HY.out];exact HSY.out) P1.out (List.Perm.refl _) S1.out HS2.out HF1.out HF2.out⟩
theorem symm_calls:∀ N,SymOk N:=by
 intro N
 induction N with
 | zero =>
  intro g cap R w P X Y T m a k b hR hl he hm ha hk hb hx hy hsx hsy hN;omega
 | succ N ih =>
  intro g cap R w P X Y T m a k b hR hl he hm ha hk hb hx hy hsx hsy hN
  by_cases h1:X.length=1
  ·obtain⟨x,rfl⟩:=List.length_eq_one_iff.1 h1;exact symm1_calls hR hl (P:=P) (x:=x) (Y:=Y) (T:=T) (by rw[he];simp) hm ha hk hb hy hsy
  ·by_cases h2:Y.length=1
   ·obtain⟨y,rfl⟩:=List.length_eq_one_iff.1 h2;exact symm2_calls hR hl (P:=P) (X:=X) (y:=y) (T:=T) (by rw[he];simp) hm ha hk hb (by omega) hsx
   ·exact symm3_calls ih hR hl he hm ha hk hb (by omega) (by omega) hsx hsy hN
end Go.Proofs.YtfofjalebhajhaaGreatDoor
