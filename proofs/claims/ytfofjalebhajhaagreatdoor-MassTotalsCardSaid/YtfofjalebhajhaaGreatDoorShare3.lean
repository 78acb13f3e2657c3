/- slices.insertionSortCmpFunc of shares. -/
import Derived.Test.YtfofjalebhajhaaGreatDoorShare2
import Derived.BigRegion
namespace Go.Proofs.YtfofjalebhajhaaGreatDoor
open Go Go.RowKit
theorem drew_cell {w:World}{a:Addr}{u:Value}(h:w.cell? a=some u):w.drew.cell? a=some u:=h
theorem drew_free {w:World}{a:Addr}{u:Bool}(h:w.frozen? a=u):w.drew.frozen? a=u:=h
theorem less_at {w:World}{x y:Sh}{X Y:List Value}{tx ty:VT}{qx qy:Rat}{r:Int}(hx:x=(X,tx,qx)) (hy:y=(Y,ty,qy)) (hr:cmpS x y=r) (h:ElO w x) (k:ElO w y) :
  Calls Tryz.prog 53 #[.agg X.toArray,.agg Y.toArray] w fun e w'=>e = .returned (.int .i64 r)∧Ext w w':=by
 subst hx hy hr;exact less_calls h k
theorem ElO.set6 {w:World}{e:Sh}(h:ElO w e){g:Nat}(t0:TyS g w) (o0 o1 o2 o3 o4 o5:Nat) (x0 x1 x2 x3 x4 x5:Value) :
  ElO ((((((w.setCell ⟨g,o0,none⟩ x0).setCell ⟨g,o1,none⟩ x1).setCell ⟨g,o2,none⟩ x2).setCell ⟨g,o3,none⟩ x3).setCell ⟨g,o4,none⟩ x4).setCell ⟨g,o5,none⟩ x5) e:=by
 have t1:=t0.setCell o0 x0;have t2:=t1.setCell o1 x1;have t3:=t2.setCell o2 x2;have t4:=t3.setCell o3 x3;have t5:=t4.setCell o4 x4;exact (((((h.setS t0 _ _).setS t1 _ _).setS t2 _ _).setS t3 _ _).setS t4 _ _).setS t5 _ _
theorem below6 {g:Nat}{w W:World}(h:Below g w W) (o0 o1 o2 o3 o4 o5:Nat) (x0 x1 x2 x3 x4 x5:Value) :
  Below g w ((((((W.setCell ⟨g,o0,none⟩ x0).setCell ⟨g,o1,none⟩ x1).setCell ⟨g,o2,none⟩ x2).setCell ⟨g,o3,none⟩ x3).setCell ⟨g,o4,none⟩ x4).setCell ⟨g,o5,none⟩ x5) :=
 (((((h.setCell (Nat.le_refl g) _).setCell (Nat.le_refl g) _).setCell (Nat.le_refl g) _).setCell (Nat.le_refl g) _).setCell (Nat.le_refl g) _).setCell (Nat.le_refl g) _
theorem swap_end {g cap a m jn j:Nat}{w v1:World}{P A' B T1 S':List Sh}{x y:Sh}{k1:Nat}{n1:Int}{p1:Option Addr}{a1 b1:Nat}{s1:Bool}{r1:Option Addr}{c1 d1:Nat}{u1:Option Addr}{e1 f1:Nat}{k2:Nat}{n2:Int}{p2:Option Addr}{a2 b2:Nat}{s2:Bool}{r2:Option Addr}{c2 d2:Nat}{u2:Option Addr}{e2 f2:Nat}{xt yt:VT}{xq yq:Rat}(_:True)
  (hx:x=([.int .u8 (k1:Int),.int .i64 n1,.slice p1 a1 b1,.bool s1,.slice r1 c1 d1,.slice u1 e1 f1],xt,xq)) (hy:y=([.int .u8 (k2:Int),.int .i64 n2,.slice p2 a2 b2,.bool s2,.slice r2 c2 d2,.slice u2 e2 f2],yt,yq)) (hv:RowS g cap (P ++ (A' ++ [y]) ++ x :: B ++ T1) v1) (hv1:RowS g cap ((P ++ (A' ++ [y]) ++ x :: B ++ T1).set jn ([.int .u8 (k2:Int),.int .i64 n2,.slice p2 a2 b2,.bool s2,.slice r2 c2 d2,.slice u2 e2 f2],yt,yq)) ((((((v1.setCell ⟨g,jn*6,none⟩ (.int .u8 (k2:Int))).setCell ⟨g,jn*6+1,none⟩ (.int .i64 n2)).setCell ⟨g,jn*6+2,none⟩ (.slice p2 a2 b2)).setCell ⟨g,jn*6+3,none⟩ (.bool s2)).setCell ⟨g,jn*6+4,none⟩ (.slice r2 c2 d2)).setCell ⟨g,jn*6+5,none⟩ (.slice u2 e2 f2)))
  (ex:ElO v1 ([.int .u8 (k1:Int),.int .i64 n1,.slice p1 a1 b1,.bool s1,.slice r1 c1 d1,.slice u1 e1 f1],xt,xq)) (h1:(P ++ (A' ++ [y]) ++ x :: B ++ T1)[jn]? = some x) (h2:(P ++ (A' ++ [y]) ++ x :: B ++ T1)[j]? = some y) (hjn:jn=j+1) (hj:j=P.length+A'.length) (hP:P.length=a) (hl:(A' ++ [y]).length+B.length=m)
  (hi:InsIn P (A' ++ [y]) B T1 (S' ++ [x]) x) (hc:cmpS x y<0) (hb:Below g w v1) :
  (∃ A B,Value.int .i64 (j:Int) = .int .i64 ((a+A.length:Nat):Int)∧A.length+B.length=m∧RowS g cap (P ++ A ++ ([.int .u8 (k1:Int),.int .i64 n1,.slice p1 a1 b1,.bool s1,.slice r1 c1 d1,.slice u1 e1 f1],xt,xq) :: B ++ T1) (((((((((((((v1.setCell ⟨g,jn*6,none⟩ (.int .u8 (k2:Int))).setCell ⟨g,jn*6+1,none⟩ (.int .i64 n2)).setCell ⟨g,jn*6+2,none⟩ (.slice p2 a2 b2)).setCell ⟨g,jn*6+3,none⟩ (.bool s2)).setCell ⟨g,jn*6+4,none⟩ (.slice r2 c2 d2)).setCell ⟨g,jn*6+5,none⟩ (.slice u2 e2 f2)).setCell ⟨g,j*6,none⟩ (.int .u8 (k1:Int))).setCell ⟨g,j*6+1,none⟩ (.int .i64 n1)).setCell ⟨g,j*6+2,none⟩ (.slice p1 a1 b1)).setCell ⟨g,j*6+3,none⟩ (.bool s1)).setCell ⟨g,j*6+4,none⟩ (.slice r1 c1 d1)).setCell ⟨g,j*6+5,none⟩ (.slice u1 e1 f1)).drew)∧Below g w (((((((((((((v1.setCell ⟨g,jn*6,none⟩ (.int .u8 (k2:Int))).setCell ⟨g,jn*6+1,none⟩ (.int .i64 n2)).setCell ⟨g,jn*6+2,none⟩ (.slice p2 a2 b2)).setCell ⟨g,jn*6+3,none⟩ (.bool s2)).setCell ⟨g,jn*6+4,none⟩ (.slice r2 c2 d2)).setCell ⟨g,jn*6+5,none⟩ (.slice u2 e2 f2)).setCell ⟨g,j*6,none⟩ (.int .u8 (k1:Int))).setCell ⟨g,j*6+1,none⟩ (.int .i64 n1)).setCell ⟨g,j*6+2,none⟩ (.slice p1 a1 b1)).setCell ⟨g,j*6+3,none⟩ (.bool s1)).setCell ⟨g,j*6+4,none⟩ (.slice r1 c1 d1)).setCell ⟨g,j*6+5,none⟩ (.slice u1 e1 f1)).drew)∧InsIn P A B T1 (S' ++ [([.int .u8 (k1:Int),.int .i64 n1,.slice p1 a1 b1,.bool s1,.slice r1 c1 d1,.slice u1 e1 f1],xt,xq)]) ([.int .u8 (k1:Int),.int .i64 n1,.slice p1 a1 b1,.bool s1,.slice r1 c1 d1,.slice u1 e1 f1],xt,xq))∧(intOf (.int .i64 (j:Int))).toNat<(intOf (.int .i64 (jn:Int))).toNat:=by
 have hset:=hv1.set (i:=j) (by rw[List.length_set];exact (List.getElem?_eq_some_iff.1 h2).1) (ex.set6 hv.ty _ _ _ _ _ _ _ _ _ _ _ _);rw[←hx,←hy,hjn,ins_swap P A' B T1 x y hj]at hset;rw[←hx];subst hjn;refine⟨⟨A',y :: B,by rw[hj,hP],by simp at hl ⊢;omega,hset.ext eR.drew,(below6 (below6 hb _ _ _ _ _ _ _ _ _ _ _ _) _ _ _ _ _ _ _ _ _ _ _ _).drew,hi.step hc⟩,by simp [intOf]⟩
set_option maxHeartbeats 4000000 in
set_option maxRecDepth 1000000 in
theorem insSort_calls {g cap:Nat}{R:List Sh}{w:World}(hR:RowS g cap R w) (a b:Nat) (hab:a≤b) (hb:b≤R.length) (hlen:R.length≤100000) :
  Calls Tryz.prog 134 #[.slice (some ⟨g,0,none⟩) R.length cap,.int .i64 (a:Int),.int .i64 (b:Int),.func (.func 53) #[] #[]] w fun e w'=>e = .returned (.tuple #[]) ∧ ∃ R',RowS g cap R' w'∧Below g w w'∧Ins a b R R':=by
 obtain⟨m,hm⟩:∃ m,R.length=m:=⟨_,rfl⟩
 have HM:=Hd hm;have HR:=Hd hR;rw[hm]at hb hlen ⊢
 have b1:(b:Int)≤100000:=by omega
 have ba:(a:Int)≤(b:Int):=by omega
 have bm:(b:Int)≤(m:Int):=by omega
 have HB:=Hd hb;have HAB:=Hd hab;have HLEN:=Hd hlen;clear hR hm hb hlen hab
 by_cases h0:a=b
 ·subst h0
  have t0:((a:Int)+1)≤100001:=by omega
  have hw1:IntKind.i64.wrap ((a:Int)+1)=(a:Int)+1:=IntWalk.i64_in _ (by omega)
  go_enter Tryz.func134,Tryz.ntmps134
  go_wp2_with fail
  go_loopw [8] (fun v8 wr=>v8 = .int .i64 ((a:Int)+1)∧wr=w) (fun _ _=>0)
  case atStart=>exact⟨rfl,rfl⟩
  case round =>
   obtain⟨rfl,rfl⟩:=hrel
   have t1:¬ (a:Int)+1<(a:Int):=by omega
   go_wp2_with fail
   go_end0
   exact⟨rfl,R,HR.out,Below.refl _ _,rfl,R.take a,[],[],R.drop a,by simp,by simp,by rw[List.length_take,HM.out];have:=HB.out;omega,by simp,List.Perm.refl _,List.Pairwise.nil,fun _=>rfl⟩
 ·have hal:a<b:=by have:=HAB.out;omega
  have hwa:IntKind.i64.wrap ((a:Int)+1)=((a+1:Nat):Int):=by rw[IntWalk.i64_in _ (by omega)];omega
  have HAL:=Hd hal;clear h0 hal
  go_enter Tryz.func134,Tryz.ntmps134
  go_wp2_with fail
  go_loopw [8] (fun v8 wr => ∃ (ix:Nat) (P S S' T:List Sh),v8 = .int .i64 (ix:Int)∧a+1≤ix∧ix≤b∧Hid (R=P ++ S ++ T)∧P.length=a∧S.length=ix - a∧RowS g cap (P ++ S' ++ T) wr∧Below g w wr∧S'.Perm S∧SortedS S'∧(SortedS S→S'=S)) (fun v8 _=>b - (intOf v8).toNat)
  case atStart =>
   have h1:a<R.length:=by rw[HM.out];have:=HAL.out;have:=HB.out;omega
   have e:R=R.take a ++ [R[a]] ++ R.drop (a+1):=by rw[List.append_assoc,List.singleton_append,List.getElem_cons_drop,List.take_append_drop]
   refine⟨a+1,R.take a,[R[a]],[R[a]],R.drop (a+1),rfl,Nat.le_refl _,HAL.out,e,by rw[List.length_take];omega,by simp,by rw[←e];exact HR.out,Below.refl _ _,List.Perm.refl _,List.pairwise_singleton _ _,fun _=>rfl⟩
  case round =>
   rename World=>w2
   obtain⟨ix,P,S,S',T,rfl,hai,hib,hRe,hPl,hSl,hRow,hBl,hPe,hSo,hSa⟩:=hrel;have HRE:=hRe;have HPL:=Hd hPl;have HSL:=Hd hSl;have HRW:=Hd hRow;have HBL:=Hd hBl;have HPE:=Hd hPe;have HSO:=Hd hSo;have HSA:=Hd hSa;have HAI:=Hd hai
   have HTL:Hid (ix+T.length=m):=by
    show _=_
    have h1:=congrArg List.length hRe.out;rw[HM.out,List.length_append,List.length_append,hPl,hSl]at h1;omega
   clear hRe hPl hSl hRow hBl hPe hSo hSa
   by_cases hlt:ix<b
   ·have LT:=Hd hlt
    have ib:(ix:Int)+1≤(b:Int):=by omega
    have ia:(a:Int)+1≤(ix:Int):=by omega
    have hwi:IntKind.i64.wrap ((ix:Int)+1)=((ix+1:Nat):Int):=by rw[IntWalk.i64_in _ (by omega)];omega
    have HT1:Hid (1≤T.length):=by show 1≤_;have:=HTL.out;have:=HB.out;omega
    obtain⟨x,T1,hT⟩:∃ x T1,T=x :: T1:=by
     cases T with
     | nil=>exact absurd HT1.out (by simp)
     | cons x T1=>exact⟨x,T1,rfl⟩
    subst hT;clear hib hai hlt;go_wp2_with fail
    go_loopw [9] (fun v9 wr => ∃ (A B:List Sh),v9 = .int .i64 ((a+A.length:Nat):Int)∧A.length+B.length=ix - a∧RowS g cap (P ++ A ++ x :: B ++ T1) wr∧Below g w wr∧InsIn P A B T1 (S' ++ [x]) x) (fun v9 _=>(intOf v9).toNat)
    case atStart =>
     have hl:S'.length=ix - a:=by rw[HPE.out.length_eq];exact HSL.out
     refine⟨S',[],?_,by simpa using hl,by simpa using HRW.out,HBL.out,⟨by simpa using HSO.out,fun y hy=>(by cases hy),List.Perm.refl _,fun _=>⟨rfl,rfl⟩⟩⟩;rw[hl];have:=HAI.out;congr 1;omega
    case round =>
     rename World=>wr
     obtain⟨A,B,rfl,hAB,hRow,hBl,hIn⟩:=hrel;have HIN:=Hd hIn;have RR:=Hd hRow;have HB2:=Hd hBl;have HAB2:=Hd hAB
     obtain⟨jn,hjn⟩:∃ j,a+A.length=j:=⟨_,rfl⟩
     have HJN:=Hd hjn;rw[hjn]
     have FIN:Hid (SortedS (A ++ x :: B) → ∃ (ix':Nat) (P S S' T:List Sh),Value.int .i64 ((ix+1:Nat):Int) = .int .i64 (ix':Int)∧a+1≤ix'∧ix'≤b∧Hid (R=P ++ S ++ T)∧P.length=a∧S.length=ix' - a∧(∀ v,Ext wr v→RowS g cap (P ++ S' ++ T) v∧Below g w v)∧S'.Perm S∧SortedS S'∧(SortedS S→S'=S)):=by
      intro hs;refine⟨ix+1,P,S ++ [x],A ++ x :: B,T1,rfl,by omega,LT.out,(by show _=_;rw[HRE.out];simp),HPL.out,by rw[List.length_append,HSL.out];have:=HAI.out;simp;omega,fun v xv=>⟨by have h:=HRW;exact (by simpa using RR.out.ext xv),Below.trans HB2.out (xv.mono (Nat.le_of_lt RR.out.lt))⟩,?_,hs,fun h2=>?_⟩
      ·exact HIN.out.perm.trans (HPE.out.append_right [x])
      ·have e1:=HSA.out ((List.pairwise_append.1 h2).1);have e2:=HIN.out.same (by rw[e1];exact h2);rw[e2.1,←e2.2,e1]
     clear hAB hRow hBl hIn hjn
     rcases List.eq_nil_or_concat A with hA | ⟨A',y,hA⟩
     ·subst hA
      have hja:jn=a:=by rw[←HJN.out];simp
      have g1:decide ((jn:Int) > (a:Int))=false:=decide_eq_false (by omega)
      have g2:¬ (a:Int)<(jn:Int):=by omega
      clear hja;go_wp2_with fail;have hkeep51:AllAt' ([]:List (Nat × Nat × Value)) wr:=AllAt'.nil _;have hob51:ObOk wr.heap.size wr (([]:List (Nat × Nat × Value)).map (·.1)) ([]:List (Nat × List (Nat × Value))):=trivial;have hne51:AllNe (([]:List (Nat × List (Nat × Value))).map (·.1)):=trivial
      (try simp only[List.append_eq,List.cons_append,List.nil_append])
      refine wp_region_gen ⟨[18,19,20,21,22,23,24,25,26,27,28,29,30,31,32,33,34],fun i=>false,fun i=>([none,none,none,none,none,none,none,none,none,none,none,none,none,none,none,none,none]:List (Option (BoxRef × Nat))).getD i none,fun i=>([Sg.val (.int .i64 (jn:Int)),Sg.val (.int .i64 (a:Int)),Sg.val (.bool false),Sg.val (.bool false),Sg.val undef,Sg.val undef,Sg.val undef,Sg.val undef,Sg.val undef,Sg.val undef,Sg.val undef,Sg.val undef,Sg.val undef,Sg.val undef,Sg.val undef,Sg.val undef,Sg.val (.bool false)]:List Sg).getD i Sg.any,[],[]⟩ wr.heap.size (by kernel_rfl) (by kernel_rfl) (Ext.refl wr).size ?hfr hkeep51 hob51 hne51 ?hs ?he
      case hfr =>
       intro i v wk hi hst hv;exact absurd hi (by simp)
      case hs =>
       refine⟨?_,?_,?_,?_,?_,?_,?_,?_,?_,?_,?_,?_,?_,?_,?_,?_,?_,trivial⟩
       ·refine RStep.op rfl rfl fun ac wk hp K hK=>?_;have t9_:ac.tmps[9]?.getD undef = .int .i64 (jn:Int):=hp.slot 9 rfl rfl;have HP:=Hd hp;clear hp;go_simp;refine hK.out _ _ ?_ eR (fun h=>absurd h (by simp));exact rfl
       ·refine RStep.op rfl rfl fun ac wk hp K hK=>?_;have t1_:ac.tmps[1]?.getD undef = .int .i64 (a:Int):=hp.slot 1 rfl rfl;have HP:=Hd hp;clear hp;go_simp;refine hK.out _ _ ?_ eR (fun h=>absurd h (by simp));exact rfl
       ·refine RStep.op rfl rfl fun ac wk hp K hK=>?_;have u0e:=hp.g 0;have t18_:ac.tmps[18]?.getD undef = .int .i64 (jn:Int):=slot_is' u0e;have u1e:=hp.g 1;have t19_:ac.tmps[19]?.getD undef = .int .i64 (a:Int):=slot_is' u1e;have HP:=Hd hp;clear hp;go_simp;refine hK.out _ _ ?_ eR (fun h=>absurd h (by simp));exact (by first | rfl | (apply congrArg Value.bool;simp;done) | (apply congrArg Value.bool;simp;omega) | (simp [*];done))
       ·refine RStep.op rfl rfl fun ac wk hp K hK=>?_;have u2e:=hp.g 2;have t20_:ac.tmps[20]?.getD undef = .bool false:=slot_is' u2e;have HP:=Hd hp;clear hp;go_simp;refine hK.out _ _ ?_ eR (fun h=>absurd h (by simp));exact rfl
       ·exact RStep.no 3 true rfl rfl (by decide +kernel) rfl (.inl rfl) rfl rfl
       ·exact RStep.no 3 true rfl rfl (by decide +kernel) rfl (.inl rfl) rfl rfl
       ·exact RStep.no 3 true rfl rfl (by decide +kernel) rfl (.inl rfl) rfl rfl
       ·exact RStep.no 3 true rfl rfl (by decide +kernel) rfl (.inl rfl) rfl rfl
       ·exact RStep.no 3 true rfl rfl (by decide +kernel) rfl (.inl rfl) rfl rfl
       ·exact RStep.no 3 true rfl rfl (by decide +kernel) rfl (.inl rfl) rfl rfl
       ·exact RStep.no 3 true rfl rfl (by decide +kernel) rfl (.inl rfl) rfl rfl
       ·exact RStep.no 3 true rfl rfl (by decide +kernel) rfl (.inl rfl) rfl rfl
       ·exact RStep.no 3 true rfl rfl (by decide +kernel) rfl (.inl rfl) rfl rfl
       ·exact RStep.no 3 true rfl rfl (by decide +kernel) rfl (.inl rfl) rfl rfl
       ·exact RStep.no 3 true rfl rfl (by decide +kernel) rfl (.inl rfl) rfl rfl
       ·exact RStep.no 3 true rfl rfl (by decide +kernel) rfl (.inl rfl) rfl rfl
       ·refine RStep.op rfl rfl fun ac wk hp K hK=>?_;have u3e:=hp.g 3;have t21_:ac.tmps[21]?.getD undef = .bool false:=slot_is' u3e;have u15e:=hp.g 15;have t33_:ac.tmps[33]?.getD undef=undef:=slot_is' u15e;have HP:=Hd hp;clear hp;go_simp;refine hK.out _ _ ?_ eR (fun h=>absurd h (by simp));exact rfl
      case he =>
       intro ac v1 hM;have y51_0e:=hM.post 0 rfl rfl;have y51_1e:=hM.post 1 rfl rfl;have y51_2e:=hM.post 2 rfl rfl;have y51_3e:=hM.post 3 rfl rfl;have y51_4e:=hM.post 4 rfl rfl;have y51_5e:=hM.post 5 rfl rfl;have y51_6e:=hM.post 6 rfl rfl;have y51_7e:=hM.post 7 rfl rfl;have y51_8e:=hM.post 8 rfl rfl;have y51_9e:=hM.post 9 rfl rfl;have y51_10e:=hM.post 10 rfl rfl;have y51_11e:=hM.post 11 rfl rfl;have y51_12e:=hM.post 12 rfl rfl;have y51_13e:=hM.post 13 rfl rfl;have y51_14e:=hM.post 14 rfl rfl;have y51_15e:=hM.post 15 rfl rfl;have y51_16e:=hM.post 16 rfl rfl;have gv1:Gr wr v1:=hM.gr;have e1_:Ext wr v1:=Ext.below (Ext.refl wr) hM.blw;have z0_:sl ac 18 = .int .i64 (jn:Int):=y51_0e;have z1_:sl ac 19 = .int .i64 (a:Int):=y51_1e;have z2_:sl ac 20 = .bool false:=y51_2e;have z3_:sl ac 21 = .bool false:=y51_3e;have z4_:sl ac 22=undef:=y51_4e;have z5_:sl ac 23=undef:=y51_5e;have z6_:sl ac 24=undef:=y51_6e;have z7_:sl ac 25=undef:=y51_7e;have z8_:sl ac 26=undef:=y51_8e;have z9_:sl ac 27=undef:=y51_9e;have z10_:sl ac 28=undef:=y51_10e;have z11_:sl ac 29=undef:=y51_11e;have z12_:sl ac 30=undef:=y51_12e;have z13_:sl ac 31=undef:=y51_13e;have z14_:sl ac 32=undef:=y51_14e;have z15_:sl ac 33=undef:=y51_15e;have z16_:sl ac 34 = .bool false:=y51_16e;rw[hM.ag.lay];simp only[lay,List.foldl_cons,List.foldl_nil,List.setIfInBounds_toArray,List.set_cons_zero,List.set_cons_succ,z0_,z1_,z2_,z3_,z4_,z5_,z6_,z7_,z8_,z9_,z10_,z11_,z12_,z13_,z14_,z15_,z16_]
       clear hM hkeep51 hob51 hne51 z0_ z1_ z2_ z3_ z4_ z5_ z6_ z7_ z8_ z9_ z10_ z11_ z12_ z13_ z14_ z15_ z16_ y51_0e y51_1e y51_2e y51_3e y51_4e y51_5e y51_6e y51_7e y51_8e y51_9e y51_10e y51_11e y51_12e y51_13e y51_14e y51_15e y51_16e;go_wp2_with fail;obtain⟨ix',P2,S2,S3,T2,e1,e2,e3,e4,e5,e6,e7,e8,e9,e10⟩:=FIN.out (HIN.out.done (fun A' y h=>by simp at h));have e7:=e7 _ e1_;exact⟨⟨ix',P2,S2,S3,T2,by first | exact e1 | (rw[hwi];exact e1),e2,e3,e4,e5,e6,e7.1,e7.2,e8,e9,e10⟩,by simp [intOf];have:=LT.out;omega⟩
     ·rw[List.concat_eq_append]at hA;subst hA
      obtain⟨j,hj⟩:∃ j,a+A'.length=j:=⟨_,rfl⟩
      have hjn:jn=j+1:=by rw[←HJN.out,←hj,List.length_append];simp;omega
      have g1:(a:Int)<(jn:Int):=by omega
      have HJ:Hid (j=P.length+A'.length):=by show _=_;rw[HPL.out];exact hj.symm
      have HJ1:Hid ((P ++ (A' ++ [y]) ++ x :: B ++ T1)[jn]? = some x):=by
       show _=_
       have h1:jn=(P ++ (A' ++ [y])).length:=by simp;have:=HJ.out;omega
       rw[show P ++ (A' ++ [y]) ++ x :: B ++ T1=(P ++ (A' ++ [y])) ++ (x :: (B ++ T1)) by simp,List.getElem?_append_right (by omega),h1,Nat.sub_self];rfl
      have HJ2:Hid ((P ++ (A' ++ [y]) ++ x :: B ++ T1)[j]? = some y):=by
       show _=_
       have h1:j=(P ++ A').length:=by simp;have:=HJ.out;omega
       rw[show P ++ (A' ++ [y]) ++ x :: B ++ T1=(P ++ A') ++ (y :: x :: (B ++ T1)) by simp,List.getElem?_append_right (by omega),h1,Nat.sub_self];rfl
      have hjm:jn<m:=by
       have h1:=(List.getElem?_eq_some_iff.1 HJ1.out).1;have h2:=HTL.out;have h3:=HAB2.out;have h4:=HPL.out;have h5:=HAI.out
       simp at h1 h2 h3
       omega
      have hjm2:j<m:=by omega
      have hm5:m≤100000:=HLEN.out
      have hwj:IntKind.i64.wrap ((jn:Int) - 1)=(j:Int):=by rw[IntWalk.i64_in _ (by omega)];omega
      clear hm5
      have jm1:(jn:Int)+1≤(m:Int):=by omega
      have jm2:(j:Int)+1≤(m:Int):=by omega
      have HX:=Hd (RR.out.its x (List.mem_of_getElem? HJ1.out));have HY:=Hd (RR.out.its y (List.mem_of_getElem? HJ2.out));obtain⟨k1,n1,p1,a1,b1,s1,r1,c1,d1,u1,e1,f1,ex⟩:=HX.out.shape;obtain⟨k2,n2,p2,a2,b2,s2,r2,c2,d2,u2,e2,f2,ey⟩:=HY.out.shape;obtain⟨xx,xt,xq⟩:=x;obtain⟨yx,yt,yq⟩:=y;have exx:xx = [.int .u8 (k1:Int),.int .i64 n1,.slice p1 a1 b1,.bool s1,.slice r1 c1 d1,.slice u1 e1 f1]:=congrArg Prod.fst ex;have eyy:yx = [.int .u8 (k2:Int),.int .i64 n2,.slice p2 a2 b2,.bool s2,.slice r2 c2 d2,.slice u2 e2 f2]:=congrArg Prod.fst ey;subst exx eyy
      obtain⟨x,hx⟩:∃ x:Sh,x=([.int .u8 (k1:Int),.int .i64 n1,.slice p1 a1 b1,.bool s1,.slice r1 c1 d1,.slice u1 e1 f1],xt,xq):=⟨_,rfl⟩
      obtain⟨y,hy⟩:∃ x:Sh,x=([.int .u8 (k2:Int),.int .i64 n2,.slice p2 a2 b2,.bool s2,.slice r2 c2 d2,.slice u2 e2 f2],yt,yq):=⟨_,rfl⟩
      rw[←hx]at HIN RR HJ1 HX FIN HJ2 HTL HT1 HRW HRE;rw[←hy]at HIN RR HJ1 HY FIN HJ2 HAB2
      obtain⟨r,hr⟩:∃ r,cmpS x y=r:=⟨_,rfl⟩
      obtain⟨cb,hcb⟩:∃ c,decide (r<0)=c:=⟨_,rfl⟩
      have HR2:=Hd hr;have HCB:=Hd hcb;have HJ9:=Hd hjn;clear ex ey hr hcb hjn hj;have D10:Hid (At g (jn*6) (.int .u8 (k1:Int)) wr):=RR.out.cell HJ1.out (j:=0) (by rw[hx];rfl);have D11:Hid (At g (jn*6+1) (.int .i64 n1) wr):=RR.out.cell HJ1.out (j:=1) (by rw[hx];rfl);have D12:Hid (At g (jn*6+2) (.slice p1 a1 b1) wr):=RR.out.cell HJ1.out (j:=2) (by rw[hx];rfl);have D13:Hid (At g (jn*6+3) (.bool s1) wr):=RR.out.cell HJ1.out (j:=3) (by rw[hx];rfl);have D14:Hid (At g (jn*6+4) (.slice r1 c1 d1) wr):=RR.out.cell HJ1.out (j:=4) (by rw[hx];rfl);have D15:Hid (At g (jn*6+5) (.slice u1 e1 f1) wr):=RR.out.cell HJ1.out (j:=5) (by rw[hx];rfl);have D20:Hid (At g (j*6) (.int .u8 (k2:Int)) wr):=RR.out.cell HJ2.out (j:=0) (by rw[hy];rfl);have D21:Hid (At g (j*6+1) (.int .i64 n2) wr):=RR.out.cell HJ2.out (j:=1) (by rw[hy];rfl);have D22:Hid (At g (j*6+2) (.slice p2 a2 b2) wr):=RR.out.cell HJ2.out (j:=2) (by rw[hy];rfl);have D23:Hid (At g (j*6+3) (.bool s2) wr):=RR.out.cell HJ2.out (j:=3) (by rw[hy];rfl);have D24:Hid (At g (j*6+4) (.slice r2 c2 d2) wr):=RR.out.cell HJ2.out (j:=4) (by rw[hy];rfl);have D25:Hid (At g (j*6+5) (.slice u2 e2 f2) wr):=RR.out.cell HJ2.out (j:=5) (by rw[hy];rfl);have HX1:=Hd hx;have HY1:=Hd hy;clear hx hy;go_wp2_with fail;have hkeep51:AllAt' ([]:List (Nat × Nat × Value)) wr:=AllAt'.nil _;have hob51:ObOk wr.heap.size wr (([]:List (Nat × Nat × Value)).map (·.1)) ([]:List (Nat × List (Nat × Value))):=trivial;have hne51:AllNe (([]:List (Nat × List (Nat × Value))).map (·.1)):=trivial
      (try simp only[List.append_eq,List.cons_append,List.nil_append])
      refine wp_region_gen ⟨[18,19,20,21,22,23,24,25,26,27,28,29,30,31,32,33,34],fun i=>false,fun i=>([none,none,none,none,none,none,none,none,none,none,none,none,none,none,none,none,none]:List (Option (BoxRef × Nat))).getD i none,fun i=>([Sg.val (.int .i64 (jn:Int)),Sg.val (.int .i64 (a:Int)),Sg.val (.bool true),Sg.val (.bool true),Sg.val (.func (.func 53) #[] #[]),Sg.val (.slice (some ⟨g,0,none⟩) m cap),Sg.val (.int .i64 (jn:Int)),Sg.val (.pointer (some ⟨g,jn*6,none⟩)),Sg.val (.agg #[.int .u8 (k1:Int),.int .i64 n1,.slice p1 a1 b1,.bool s1,.slice r1 c1 d1,.slice u1 e1 f1]),Sg.val (.slice (some ⟨g,0,none⟩) m cap),Sg.val (.int .i64 (jn:Int)),Sg.val (.int .i64 (j:Int)),Sg.val (.pointer (some ⟨g,j*6,none⟩)),Sg.val (.agg #[.int .u8 (k2:Int),.int .i64 n2,.slice p2 a2 b2,.bool s2,.slice r2 c2 d2,.slice u2 e2 f2]),Sg.val (.int .i64 r),Sg.val (.bool cb),Sg.val (.bool cb)]:List Sg).getD i Sg.any,[],[]⟩ wr.heap.size (by kernel_rfl) (by kernel_rfl) (Ext.refl wr).size ?hfr hkeep51 hob51 hne51 ?hs ?he
      case hfr =>
       intro i v wk hi hst hv;exact absurd hi (by simp)
      case hs =>
       refine⟨?_,?_,?_,?_,?_,?_,?_,?_,?_,?_,?_,?_,?_,?_,?_,?_,?_,trivial⟩
       ·refine RStep.op rfl rfl fun ac wk hp K hK=>?_;have t9_:ac.tmps[9]?.getD undef = .int .i64 (jn:Int):=hp.slot 9 rfl rfl;have HP:=Hd hp;clear hp;go_simp;refine hK.out _ _ ?_ eR (fun h=>absurd h (by simp));exact rfl
       ·refine RStep.op rfl rfl fun ac wk hp K hK=>?_;have t1_:ac.tmps[1]?.getD undef = .int .i64 (a:Int):=hp.slot 1 rfl rfl;have HP:=Hd hp;clear hp;go_simp;refine hK.out _ _ ?_ eR (fun h=>absurd h (by simp));exact rfl
       ·refine RStep.op rfl rfl fun ac wk hp K hK=>?_;have u0e:=hp.g 0;have t18_:ac.tmps[18]?.getD undef = .int .i64 (jn:Int):=slot_is' u0e;have u1e:=hp.g 1;have t19_:ac.tmps[19]?.getD undef = .int .i64 (a:Int):=slot_is' u1e;have HP:=Hd hp;clear hp;go_simp;refine hK.out _ _ ?_ eR (fun h=>absurd h (by simp));exact (by first | rfl | (apply congrArg Value.bool;simp;done) | (apply congrArg Value.bool;simp;omega) | (simp [*];done))
       ·refine RStep.op rfl rfl fun ac wk hp K hK=>?_;have u2e:=hp.g 2;have t20_:ac.tmps[20]?.getD undef = .bool true:=slot_is' u2e;have HP:=Hd hp;clear hp;go_simp;refine hK.out _ _ ?_ eR (fun h=>absurd h (by simp));exact rfl
       ·refine RStep.yes 3 true rfl rfl (by decide +kernel) rfl rfl fun ac wk hp K hK=>?_;have t3_:ac.tmps[3]?.getD undef = .func (.func 53) #[] #[]:=hp.slot 3 rfl rfl;have HP:=Hd hp;clear hp;go_simp;refine hK.out _ _ ?_ eR (fun h=>absurd h (by simp));exact rfl
       ·refine RStep.yes 3 true rfl rfl (by decide +kernel) rfl rfl fun ac wk hp K hK=>?_;have t0_:ac.tmps[0]?.getD undef = .slice (some ⟨g,0,none⟩) m cap:=hp.slot 0 rfl rfl;have HP:=Hd hp;clear hp;go_simp;refine hK.out _ _ ?_ eR (fun h=>absurd h (by simp));exact rfl
       ·refine RStep.yes 3 true rfl rfl (by decide +kernel) rfl rfl fun ac wk hp K hK=>?_;have t9_:ac.tmps[9]?.getD undef = .int .i64 (jn:Int):=hp.slot 9 rfl rfl;have HP:=Hd hp;clear hp;go_simp;refine hK.out _ _ ?_ eR (fun h=>absurd h (by simp));exact rfl
       ·refine RStep.yes 3 true rfl rfl (by decide +kernel) rfl rfl fun ac wk hp K hK=>?_;have u5e:=hp.g 5;have t23_:ac.tmps[23]?.getD undef = .slice (some ⟨g,0,none⟩) m cap:=slot_is' u5e;have u6e:=hp.g 6;have t24_:ac.tmps[24]?.getD undef = .int .i64 (jn:Int):=slot_is' u6e;have HP:=Hd hp;clear hp;go_simp;refine hK.out _ _ ?_ eR (fun h=>absurd h (by simp));exact (by first | rfl | (apply congrArg Value.bool;simp;done) | (apply congrArg Value.bool;simp;omega) | (simp [*];done))
       ·refine RStep.yes 3 true rfl rfl (by decide +kernel) rfl rfl fun ac wk hp K hK=>?_;have u7e:=hp.g 7;have t25_:ac.tmps[25]?.getD undef = .pointer (some ⟨g,jn*6,none⟩):=slot_is' u7e;have HP:=Hd hp;clear hp;have q0:=(D10.out.ext HP.out.blw).1;have q1:=(D11.out.ext HP.out.blw).1;have q2:=(D12.out.ext HP.out.blw).1;have q3:=(D13.out.ext HP.out.blw).1;have q4:=(D14.out.ext HP.out.blw).1;have q5:=(D15.out.ext HP.out.blw).1;go_simp;refine hK.out _ _ ?_ eR (fun h=>absurd h (by simp));exact (by first | rfl | (apply congrArg Value.bool;simp;done) | (apply congrArg Value.bool;simp;omega) | (simp [*];done))
       ·refine RStep.yes 3 true rfl rfl (by decide +kernel) rfl rfl fun ac wk hp K hK=>?_;have t0_:ac.tmps[0]?.getD undef = .slice (some ⟨g,0,none⟩) m cap:=hp.slot 0 rfl rfl;have HP:=Hd hp;clear hp;go_simp;refine hK.out _ _ ?_ eR (fun h=>absurd h (by simp));exact rfl
       ·refine RStep.yes 3 true rfl rfl (by decide +kernel) rfl rfl fun ac wk hp K hK=>?_;have t9_:ac.tmps[9]?.getD undef = .int .i64 (jn:Int):=hp.slot 9 rfl rfl;have HP:=Hd hp;clear hp;go_simp;refine hK.out _ _ ?_ eR (fun h=>absurd h (by simp));exact rfl
       ·refine RStep.yes 3 true rfl rfl (by decide +kernel) rfl rfl fun ac wk hp K hK=>?_;have u10e:=hp.g 10;have t28_:ac.tmps[28]?.getD undef = .int .i64 (jn:Int):=slot_is' u10e;have HP:=Hd hp;clear hp;go_simp;refine hK.out _ _ ?_ eR (fun h=>absurd h (by simp));exact (by first | rfl | (apply congrArg Value.bool;simp;done) | (apply congrArg Value.bool;simp;omega) | (simp [*];done))
       ·refine RStep.yes 3 true rfl rfl (by decide +kernel) rfl rfl fun ac wk hp K hK=>?_;have u9e:=hp.g 9;have t27_:ac.tmps[27]?.getD undef = .slice (some ⟨g,0,none⟩) m cap:=slot_is' u9e;have u11e:=hp.g 11;have t29_:ac.tmps[29]?.getD undef = .int .i64 (j:Int):=slot_is' u11e;have HP:=Hd hp;clear hp;go_simp;refine hK.out _ _ ?_ eR (fun h=>absurd h (by simp));exact (by first | rfl | (apply congrArg Value.bool;simp;done) | (apply congrArg Value.bool;simp;omega) | (simp [*];done))
       ·refine RStep.yes 3 true rfl rfl (by decide +kernel) rfl rfl fun ac wk hp K hK=>?_;have u12e:=hp.g 12;have t30_:ac.tmps[30]?.getD undef = .pointer (some ⟨g,j*6,none⟩):=slot_is' u12e;have HP:=Hd hp;clear hp;have q0:=(D20.out.ext HP.out.blw).1;have q1:=(D21.out.ext HP.out.blw).1;have q2:=(D22.out.ext HP.out.blw).1;have q3:=(D23.out.ext HP.out.blw).1;have q4:=(D24.out.ext HP.out.blw).1;have q5:=(D25.out.ext HP.out.blw).1;go_simp;refine hK.out _ _ ?_ eR (fun h=>absurd h (by simp));exact (by first | rfl | (apply congrArg Value.bool;simp;done) | (apply congrArg Value.bool;simp;omega) | (simp [*];done))
       ·refine RStep.yes 3 true rfl rfl (by decide +kernel) rfl rfl fun ac wk hp K hK=>?_;have u4e:=hp.g 4;have t22_:ac.tmps[22]?.getD undef = .func (.func 53) #[] #[]:=slot_is' u4e;have u8e:=hp.g 8;have t26_:ac.tmps[26]?.getD undef = .agg #[.int .u8 (k1:Int),.int .i64 n1,.slice p1 a1 b1,.bool s1,.slice r1 c1 d1,.slice u1 e1 f1]:=slot_is' u8e;have u13e:=hp.g 13;have t31_:ac.tmps[31]?.getD undef = .agg #[.int .u8 (k2:Int),.int .i64 n2,.slice p2 a2 b2,.bool s2,.slice r2 c2 d2,.slice u2 e2 f2]:=slot_is' u13e;have HP:=Hd hp;clear hp;go_simp;refine (less_at HX1.out HY1.out HR2.out (HX.out.ext HP.out.blw) (HY.out.ext HP.out.blw)).mono ?_;rintro e wk' ⟨rfl,ix⟩;refine hK.out _ _ ?_ ix (fun h=>absurd h (by simp));exact rfl
       ·refine RStep.yes 3 true rfl rfl (by decide +kernel) rfl rfl fun ac wk hp K hK=>?_;have u14e:=hp.g 14;have t32_:ac.tmps[32]?.getD undef = .int .i64 r:=slot_is' u14e;have HP:=Hd hp;clear hp;have q0:=HCB.out;go_simp;refine hK.out _ _ ?_ eR (fun h=>absurd h (by simp));exact (by first | rfl | (apply congrArg Value.bool;simp;done) | (apply congrArg Value.bool;simp;omega) | (simp [*];done))
       ·refine RStep.op rfl rfl fun ac wk hp K hK=>?_;have u3e:=hp.g 3;have t21_:ac.tmps[21]?.getD undef = .bool true:=slot_is' u3e;have u15e:=hp.g 15;have t33_:ac.tmps[33]?.getD undef = .bool cb:=slot_is' u15e;have HP:=Hd hp;clear hp;go_simp;refine hK.out _ _ ?_ eR (fun h=>absurd h (by simp));exact rfl
      case he =>
       intro ac v1 hM;have y51_0e:=hM.post 0 rfl rfl;have y51_1e:=hM.post 1 rfl rfl;have y51_2e:=hM.post 2 rfl rfl;have y51_3e:=hM.post 3 rfl rfl;have y51_4e:=hM.post 4 rfl rfl;have y51_5e:=hM.post 5 rfl rfl;have y51_6e:=hM.post 6 rfl rfl;have y51_7e:=hM.post 7 rfl rfl;have y51_8e:=hM.post 8 rfl rfl;have y51_9e:=hM.post 9 rfl rfl;have y51_10e:=hM.post 10 rfl rfl;have y51_11e:=hM.post 11 rfl rfl;have y51_12e:=hM.post 12 rfl rfl;have y51_13e:=hM.post 13 rfl rfl;have y51_14e:=hM.post 14 rfl rfl;have y51_15e:=hM.post 15 rfl rfl;have y51_16e:=hM.post 16 rfl rfl;have gv1:Gr wr v1:=hM.gr;have e1_:Ext wr v1:=Ext.below (Ext.refl wr) hM.blw;have z0_:sl ac 18 = .int .i64 (jn:Int):=y51_0e;have z1_:sl ac 19 = .int .i64 (a:Int):=y51_1e;have z2_:sl ac 20 = .bool true:=y51_2e;have z3_:sl ac 21 = .bool true:=y51_3e;have z4_:sl ac 22 = .func (.func 53) #[] #[]:=y51_4e;have z5_:sl ac 23 = .slice (some ⟨g,0,none⟩) m cap:=y51_5e;have z6_:sl ac 24 = .int .i64 (jn:Int):=y51_6e;have z7_:sl ac 25 = .pointer (some ⟨g,jn*6,none⟩):=y51_7e;have z8_:sl ac 26 = .agg #[.int .u8 (k1:Int),.int .i64 n1,.slice p1 a1 b1,.bool s1,.slice r1 c1 d1,.slice u1 e1 f1]:=y51_8e;have z9_:sl ac 27 = .slice (some ⟨g,0,none⟩) m cap:=y51_9e;have z10_:sl ac 28 = .int .i64 (jn:Int):=y51_10e;have z11_:sl ac 29 = .int .i64 (j:Int):=y51_11e;have z12_:sl ac 30 = .pointer (some ⟨g,j*6,none⟩):=y51_12e;have z13_:sl ac 31 = .agg #[.int .u8 (k2:Int),.int .i64 n2,.slice p2 a2 b2,.bool s2,.slice r2 c2 d2,.slice u2 e2 f2]:=y51_13e;have z14_:sl ac 32 = .int .i64 r:=y51_14e;have z15_:sl ac 33 = .bool cb:=y51_15e
       have z16_:sl ac 34 = .bool cb:=y51_16e;rw[hM.ag.lay];simp only[lay,List.foldl_cons,List.foldl_nil,List.setIfInBounds_toArray,List.set_cons_zero,List.set_cons_succ,z0_,z1_,z2_,z3_,z4_,z5_,z6_,z7_,z8_,z9_,z10_,z11_,z12_,z13_,z14_,z15_,z16_];clear hM hkeep51 hob51 hne51 z0_ z1_ z2_ z3_ z4_ z5_ z6_ z7_ z8_ z9_ z10_ z11_ z12_ z13_ z14_ z15_ z16_ y51_0e y51_1e y51_2e y51_3e y51_4e y51_5e y51_6e y51_7e y51_8e y51_9e y51_10e y51_11e y51_12e y51_13e y51_14e y51_15e y51_16e
       cases cb
       case false =>
        have hr0:¬ r<0:=of_decide_eq_false HCB.out;go_wp2_with fail;obtain⟨ix',P2,S2,S3,T2,e1,e2,e3,e4,e5,e6,e7,e8,e9,e10⟩:=FIN.out (HIN.out.done (fun A2 z h=>by obtain⟨h1,h2⟩:=List.append_inj' h rfl;simp at h2;rw[←h2,HR2.out];omega));have e7:=e7 _ e1_;exact⟨⟨ix',P2,S2,S3,T2,by first | exact e1 | (rw[hwi];exact e1),e2,e3,e4,e5,e6,e7.1,e7.2,e8,e9,e10⟩,by simp [intOf];have:=LT.out;omega⟩
       case true =>
        have hr0:r<0:=of_decide_eq_true HCB.out;have RV:=Hd (RR.out.ext e1_);have HN:Hid (True):=trivial;have h10:=(D10.out.ext e1_).1;have h11:=(D11.out.ext e1_).1;have h12:=(D12.out.ext e1_).1;have h13:=(D13.out.ext e1_).1;have h14:=(D14.out.ext e1_).1;have h15:=(D15.out.ext e1_).1;have h20:=(D20.out.ext e1_).1;have h21:=(D21.out.ext e1_).1;have h22:=(D22.out.ext e1_).1;have h23:=(D23.out.ext e1_).1;have h24:=(D24.out.ext e1_).1;have h25:=(D25.out.ext e1_).1;have zjn0:=RV.out.free (jn*6);have zjn1:=RV.out.free (jn*6+1);have zjn2:=RV.out.free (jn*6+2);have zjn3:=RV.out.free (jn*6+3);have zjn4:=RV.out.free (jn*6+4);have zjn5:=RV.out.free (jn*6+5);have zj0:=RV.out.free (j*6);have zj1:=RV.out.free (j*6+1);have zj2:=RV.out.free (j*6+2);have zj3:=RV.out.free (j*6+3);have zj4:=RV.out.free (j*6+4);have zj5:=RV.out.free (j*6+5);have EY:Hid (ElO v1 ([.int .u8 (k2:Int),.int .i64 n2,.slice p2 a2 b2,.bool s2,.slice r2 c2 d2,.slice u2 e2 f2],yt,yq)):=HY1.out ▸ HY.out.ext e1_;have EX:Hid (ElO v1 ([.int .u8 (k1:Int),.int .i64 n1,.slice p1 a1 b1,.bool s1,.slice r1 c1 d1,.slice u1 e1 f1],xt,xq)):=HX1.out ▸ HX.out.ext e1_;have RV1:=Hd (RV.out.set (i:=jn) (List.getElem?_eq_some_iff.1 HJ1.out).1 EY.out)
        have HJ3:Hid ((List.set (P ++ (A' ++ [y]) ++ x :: B ++ T1) jn ([.int .u8 (k2:Int),.int .i64 n2,.slice p2 a2 b2,.bool s2,.slice r2 c2 d2,.slice u2 e2 f2],yt,yq))[j]? = some y):=by show _=_;rw[List.getElem?_set_ne (by have:=HJ9.out;omega)];exact HJ2.out
        have h30:=(RV1.out.cell HJ3.out (j:=0) (u:=.int .u8 (k2:Int)) (by rw[HY1.out];rfl)).1;rw[Nat.add_zero]at h30;have z30:=RV1.out.free (j*6);have h40:=drew_cell h30;have z40:=drew_free z30;have h31:=(RV1.out.cell HJ3.out (j:=1) (u:=.int .i64 n2) (by rw[HY1.out];rfl)).1;have z31:=RV1.out.free (j*6+1);have h41:=drew_cell h31;have z41:=drew_free z31;have h32:=(RV1.out.cell HJ3.out (j:=2) (u:=.slice p2 a2 b2) (by rw[HY1.out];rfl)).1;have z32:=RV1.out.free (j*6+2);have h42:=drew_cell h32;have z42:=drew_free z32;have h33:=(RV1.out.cell HJ3.out (j:=3) (u:=.bool s2) (by rw[HY1.out];rfl)).1;have z33:=RV1.out.free (j*6+3);have h43:=drew_cell h33;have z43:=drew_free z33;have h34:=(RV1.out.cell HJ3.out (j:=4) (u:=.slice r2 c2 d2) (by rw[HY1.out];rfl)).1;have z34:=RV1.out.free (j*6+4);have h44:=drew_cell h34;have z44:=drew_free z34;have h35:=(RV1.out.cell HJ3.out (j:=5) (u:=.slice u2 e2 f2) (by rw[HY1.out];rfl)).1;have z35:=RV1.out.free (j*6+5);have h45:=drew_cell h35;have z45:=drew_free z35
        have nq0:¬ jn=j:=by have:=HJ9.out;omega
        have nq1:¬ jn*6+1=j*6:=by have:=HJ9.out;omega
        have nq2:¬ jn*6=j*6+1:=by have:=HJ9.out;omega
        have nq3:¬ jn*6+2=j*6:=by have:=HJ9.out;omega
        have nq4:¬ jn*6=j*6+2:=by have:=HJ9.out;omega
        have nq5:¬ jn*6+3=j*6:=by have:=HJ9.out;omega
        have nq6:¬ jn*6=j*6+3:=by have:=HJ9.out;omega
        have nq7:¬ jn*6+4=j*6:=by have:=HJ9.out;omega
        have nq8:¬ jn*6=j*6+4:=by have:=HJ9.out;omega
        have nq9:¬ jn*6+5=j*6:=by have:=HJ9.out;omega
        have nq10:¬ jn*6=j*6+5:=by have:=HJ9.out;omega
        have nq11:¬ j=jn:=by have:=HJ9.out;omega
        have nq12:¬ j*6+1=jn*6:=by have:=HJ9.out;omega
        have nq13:¬ j*6=jn*6+1:=by have:=HJ9.out;omega
        have nq14:¬ j*6+2=jn*6:=by have:=HJ9.out;omega
        have nq15:¬ j*6=jn*6+2:=by have:=HJ9.out;omega
        have nq16:¬ j*6+3=jn*6:=by have:=HJ9.out;omega
        have nq17:¬ j*6=jn*6+3:=by have:=HJ9.out;omega
        have nq18:¬ j*6+4=jn*6:=by have:=HJ9.out;omega
        have nq19:¬ j*6=jn*6+4:=by have:=HJ9.out;omega
        have nq20:¬ j*6+5=jn*6:=by have:=HJ9.out;omega
        have nq21:¬ j*6=jn*6+5:=by have:=HJ9.out;omega
        go_wp2_with fail
        have mixed:Tryz.prog.follows .mixedOrders=true:=by kernel_rfl
        go_big_region_o
        all_goals go_wp2
        all_goals exact swap_end HN.out HX1.out HY1.out RV.out RV1.out EX.out HJ1.out HJ2.out HJ9.out HJ.out HPL.out HAB2.out HIN.out (by rw[HR2.out];exact hr0) (Below.trans HB2.out (e1_.mono (Nat.le_of_lt RR.out.lt)))
   ·have ib:¬ (ix:Int)<(b:Int):=by omega
    have hi:ix=b:=by omega
    subst hi;clear hlt hib;go_wp2_with fail
    go_end0
    exact⟨rfl,_,HRW.out,HBL.out,by rw[HRE.out];simp [HPE.out.length_eq],P,S,S',T,HRE.out,rfl,HPL.out,HSL.out,HPE.out,HSO.out,HSA.out⟩
end Go.Proofs.YtfofjalebhajhaaGreatDoor
