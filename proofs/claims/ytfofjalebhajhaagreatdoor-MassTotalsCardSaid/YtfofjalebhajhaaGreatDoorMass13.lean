/- mass.May, tombolalaw24.is. -/
import Derived.Test.YtfofjalebhajhaaGreatDoorMass12
namespace Go.Proofs.YtfofjalebhajhaaGreatDoor
open Go Go.RowKit
theorem same_ra (a b:Ra):(sameV a.1 b.1=true∧decide (a.2.1=b.2.1∧a.2.2.1=b.2.2.1∧a.2.2.2=b.2.2.2)=true)↔a=b:=by
 rw[sameV_iff,decide_eq_true_eq];obtain⟨t,s,l,m⟩:=a;obtain⟨t',s',l',m'⟩:=b
 simp
set_option maxHeartbeats 4000000 in
set_option maxRecDepth 100000 in
theorem is_calls {w:World}{v u:Value}{Ls Ls':List Ra}(h:SlS w v Ls) (h':SlS w u Ls') (c:Bool) (hc:c=true↔Ls=Ls'):Calls Tryz.prog 19 #[v,u] w fun e w'=>e = .returned (.bool c)∧Ext w w':=by
 obtain⟨p0,c0,rfl,h1,h2,h3,h4⟩:=h;obtain⟨p1,c1,rfl,h1',h2',h3',h4'⟩:=h';unfold maxLen at h2 h2'
 obtain⟨m,hm⟩:∃ m,Ls.length=m:=⟨_,rfl⟩
 obtain⟨m',hm'⟩:∃ m,Ls'.length=m:=⟨_,rfl⟩
 have H4:=Hd h4;have H4':=Hd h4';have HM:=Hd hm;have HM':=Hd hm';have HC:=Hd hc;rw[hm]at h1;rw[hm']at h1';rw[hm,hm']
 have M5:Hid ((m:Int)≤9223372036854775807):=by show _≤_;omega
 clear h1 h2 h3 h4 h1' h2' h3' h4' hm hm' hc
 by_cases hmm:m=m'
 case neg =>
  have hne:¬ (m:Int)=(m':Int):=by omega
  have hne2:((m:Int) != (m':Int))=true:=by rw[bne_iff_ne];omega
  have hcf:c=false:=by
   cases hcc:c
   ·rfl
   ·exact absurd (by rw[←HM.out,←HM'.out,HC.out.1 hcc]) hmm
  subst hcf;clear hmm
  go_enter Tryz.func19,Tryz.ntmps19
  go_wp2_with fail;go_ret;exact⟨rfl,Ext.refl _⟩
 case pos =>
  subst hmm
  go_enter Tryz.func19,Tryz.ntmps19
  go_wp2_with fail
  go_loopw [5] (fun vi wr => ∃ i:Nat,vi = .int .i64 (i:Int)∧i≤m∧Ext w wr∧Hid (Ls.take i=Ls'.take i)) (fun vi _=>m - (intOf vi).toNat)
  case atStart=>exact⟨0,rfl,Nat.zero_le _,Ext.refl _,rfl⟩
  case round =>
   rename World=>wr
   obtain⟨i,rfl,hi,hx,HTK⟩:=hrel;have XE:=Hd hx;clear hx
   by_cases hlt:i<m
   ·have hli:(i:Int)<(m:Int):=by omega
    have hl1:(i:Int)+1≤(m:Int):=by omega
    have m5:=M5.out
    have hwi:IntKind.i64.wrap ((i:Int)+1)=((i+1:Nat):Int):=by rw[IntWalk.i64_in _ (by omega)];omega
    obtain⟨aA,haA⟩:∃ y,Ls[i]? = some y:=⟨_,List.getElem?_eq_getElem (by rw[HM.out];exact hlt)⟩
    have HAA:=Hd haA;obtain⟨blA,offA,csA,hpA,hraA,hatA⟩:=H4.out (i) aA haA;obtain⟨kA,nA,pA,xA,yA,qA,cA,dA,rA,eA,fA,rfl,hviA,hlaA,hldA⟩:=hraA;have HVA:=Hd (hviA.ext XE.out);have HLA:=Hd (hlaA.ext XE.out);have HDA:=Hd (hldA.ext XE.out)
    obtain⟨sA,hsgA⟩:∃ s,aA.2.1=s:=⟨_,rfl⟩
    rw[hsgA]at hatA;have HSGA:=Hd hsgA;have DA0:Hid (At blA (offA+i*6) (.int .u8 (kA:Int)) _):=(hatA 0 (.int .u8 (kA:Int)) rfl).ext XE.out;have DA1:Hid (At blA (offA+i*6+1) (.int .i64 nA) _):=(hatA 1 (.int .i64 nA) rfl).ext XE.out;have DA2:Hid (At blA (offA+i*6+2) (.slice pA xA yA) _):=(hatA 2 (.slice pA xA yA) rfl).ext XE.out;have DA3:Hid (At blA (offA+i*6+3) (.bool sA) _):=(hatA 3 (.bool sA) rfl).ext XE.out;have DA4:Hid (At blA (offA+i*6+4) (.slice qA cA dA) _):=(hatA 4 (.slice qA cA dA) rfl).ext XE.out;have DA5:Hid (At blA (offA+i*6+5) (.slice rA eA fA) _):=(hatA 5 (.slice rA eA fA) rfl).ext XE.out;clear haA hatA hviA hlaA hldA hsgA
    obtain⟨aB,haB⟩:∃ y,Ls'[i]? = some y:=⟨_,List.getElem?_eq_getElem (by rw[HM'.out];exact hlt)⟩
    have HAB:=Hd haB;obtain⟨blB,offB,csB,hpB,hraB,hatB⟩:=H4'.out (i) aB haB;obtain⟨kB,nB,pB,xB,yB,qB,cB,dB,rB,eB,fB,rfl,hviB,hlaB,hldB⟩:=hraB;have HVB:=Hd (hviB.ext XE.out);have HLB:=Hd (hlaB.ext XE.out);have HDB:=Hd (hldB.ext XE.out)
    obtain⟨sB,hsgB⟩:∃ s,aB.2.1=s:=⟨_,rfl⟩
    rw[hsgB]at hatB;have HSGB:=Hd hsgB;have DB0:Hid (At blB (offB+i*6) (.int .u8 (kB:Int)) _):=(hatB 0 (.int .u8 (kB:Int)) rfl).ext XE.out;have DB1:Hid (At blB (offB+i*6+1) (.int .i64 nB) _):=(hatB 1 (.int .i64 nB) rfl).ext XE.out;have DB2:Hid (At blB (offB+i*6+2) (.slice pB xB yB) _):=(hatB 2 (.slice pB xB yB) rfl).ext XE.out;have DB3:Hid (At blB (offB+i*6+3) (.bool sB) _):=(hatB 3 (.bool sB) rfl).ext XE.out;have DB4:Hid (At blB (offB+i*6+4) (.slice qB cB dB) _):=(hatB 4 (.slice qB cB dB) rfl).ext XE.out;have DB5:Hid (At blB (offB+i*6+5) (.slice rB eB fB) _):=(hatB 5 (.slice rB eB fB) rfl).ext XE.out;clear haB hatB hviB hlaB hldB hsgB;subst hpA hpB;have LT:=Hd hlt
    have HT1:Hid (Ls.take (i+1)=Ls.take i ++ [aA]):=by show _=_;rw[List.take_add_one,HAA.out];rfl
    have HT2:Hid (Ls'.take (i+1)=Ls'.take i ++ [aB]):=by show _=_;rw[List.take_add_one,HAB.out];rfl
    obtain⟨b1,hb1⟩:∃ b,sameV aA.1 aB.1=b:=⟨_,rfl⟩
    obtain⟨b2,hb2⟩:∃ b,decide (sA=sB∧aA.2.2.1=aB.2.2.1∧aA.2.2.2=aB.2.2.2)=b:=⟨_,rfl⟩
    have HB1:=Hd hb1
    have HB2:Hid (decide (aA.2.1=aB.2.1∧aA.2.2.1=aB.2.2.1∧aA.2.2.2=aB.2.2.2)=b2):=by rw[HSGA.out,HSGB.out];exact hb2
    have HSV:Hid (∀ X,Ext wr X→Calls Tryz.prog 23 #[.agg #[.int .u8 (kA:Int),.int .i64 nA,.slice pA xA yA],.agg #[.int .u8 (kB:Int),.int .i64 nB,.slice pB xB yB]] X fun e w'=>e = .returned (.bool b1)∧Ext X w'):=fun X hX=>by rw[←hb1];exact rvsame_calls _ _ _ _ _ (HVA.out.ext hX) (HVB.out.ext hX)
    have HIS:Hid (∀ X,Ext wr X→Calls Tryz.prog 61 #[.agg #[.bool sA,.slice qA cA dA,.slice rA eA fA],.agg #[.bool sB,.slice qB cB dB,.slice rB eB fB]] X fun e w'=>e = .returned (.bool b2)∧Ext X w'):=fun X hX=>is_raw (HLA.out.ext hX) (HDA.out.ext hX) (HLB.out.ext hX) (HDB.out.ext hX) sA sB b2 hb2
    clear hi m5 hlt hb1 hb2
    have HNE:Hid ((b1=true∧b2=true)∨c=false):=by
     by_cases h:b1=true∧b2=true
     ·exact .inl h
     ·refine .inr ?_
      cases hcc:c
      ·rfl
      ·have e:=HC.out.1 hcc
       have e2:aA=aB:=by
        have h1:=HAA.out;rw[e,HAB.out]at h1;exact (Option.some.inj h1).symm
       have e3:=(same_ra aA aB).2 e2;rw[HB1.out,HB2.out]at e3;exact absurd e3 h
    go_upto_region 6 with fail
    cases b1
    case false =>
     refine wp_region_tail [17,18,19,20,21,22,23,24,25,26,27,28,29,30,31,32,33,34,35,36,37,38,39,40,41,42] [] (fun ix__=>([Sx.val (.slice (some ⟨blA,offA,none⟩) m c0),Sx.val (.int .i64 (i:Int)),Sx.val (.pointer (some ⟨blA,offA+i*6,none⟩)),Sx.val (.pointer (some ⟨blA,offA+i*6,none⟩)),Sx.val (.agg #[.int .u8 (kA:Int),.int .i64 nA,.slice pA xA yA]),Sx.val (.slice (some ⟨blB,offB,none⟩) m c1),Sx.val (.int .i64 (i:Int)),Sx.val (.pointer (some ⟨blB,offB+i*6,none⟩)),Sx.val (.pointer (some ⟨blB,offB+i*6,none⟩)),Sx.val (.agg #[.int .u8 (kB:Int),.int .i64 nB,.slice pB xB yB]),Sx.val (.bool false),Sx.val (.bool true),Sx.val (.bool true),Sx.val undef,Sx.val undef,Sx.val undef,Sx.val undef,Sx.val undef,Sx.val undef,Sx.val undef,Sx.val undef,Sx.val undef,Sx.val undef,Sx.val undef,Sx.val undef,Sx.val (.bool true)]:List Sx).getD ix__ (Sx.val undef)) (by kernel_rfl) (by kernel_rfl) ?hs ?ht
     case hs =>
      refine⟨?_,?_,?_,?_,?_,?_,?_,?_,?_,?_,?_,?_,?_,?_,?_,?_,?_,?_,?_,?_,?_,?_,?_,?_,?_,?_,trivial⟩
      ·refine XStep.op rfl fun ac wk hp K hK=>?_;have t0_:ac.tmps[0]?.getD undef = .slice (some ⟨blA,offA,none⟩) m c0:=hp.slot 0 rfl rfl;clear hp;go_simp;exact hK.out _ _ rfl eR
      ·refine XStep.op rfl fun ac wk hp K hK=>?_;have t5_:ac.tmps[5]?.getD undef = .int .i64 (i:Int):=hp.slot 5 rfl rfl;clear hp;go_simp;exact hK.out _ _ rfl eR
      ·refine XStep.op rfl fun ac wk hp K hK=>?_;have t17_:=hp.v 0;have t18_:=hp.v 1;clear hp;go_simp;exact hK.out _ _ rfl eR
      ·refine XStep.op rfl fun ac wk hp K hK=>?_;have t19_:=hp.v 2;clear hp;go_simp;exact hK.out _ _ rfl eR
      ·refine XStep.op rfl fun ac wk hp K hK=>?_;have t20_:=hp.v 3;have q0:=((DA0.out).ext hp.ext).1;have q1:=((DA1.out).ext hp.ext).1;have q2:=((DA2.out).ext hp.ext).1;clear hp;go_simp;exact hK.out _ _ rfl eR
      ·refine XStep.op rfl fun ac wk hp K hK=>?_;have t1_:ac.tmps[1]?.getD undef = .slice (some ⟨blB,offB,none⟩) m c1:=hp.slot 1 rfl rfl;clear hp;go_simp;exact hK.out _ _ rfl eR
      ·refine XStep.op rfl fun ac wk hp K hK=>?_;have t5_:ac.tmps[5]?.getD undef = .int .i64 (i:Int):=hp.slot 5 rfl rfl;clear hp;go_simp;exact hK.out _ _ rfl eR
      ·refine XStep.op rfl fun ac wk hp K hK=>?_;have t22_:=hp.v 5;have t23_:=hp.v 6;clear hp;go_simp;exact hK.out _ _ rfl eR
      ·refine XStep.op rfl fun ac wk hp K hK=>?_;have t24_:=hp.v 7;clear hp;go_simp;exact hK.out _ _ rfl eR
      ·refine XStep.op rfl fun ac wk hp K hK=>?_;have t25_:=hp.v 8;have q0:=((DB0.out).ext hp.ext).1;have q1:=((DB1.out).ext hp.ext).1;have q2:=((DB2.out).ext hp.ext).1;clear hp;go_simp;exact hK.out _ _ rfl eR
      ·refine XStep.op rfl fun ac wk hp K hK=>?_;have t21_:=hp.v 4;have t26_:=hp.v 9;have xe:=Hd hp.ext;clear hp;go_simp;refine (HSV.out _ xe.out).mono ?_;rintro e wk' ⟨rfl,ix⟩;exact hK.out _ _ rfl ix
      ·refine XStep.op rfl fun ac wk hp K hK=>?_;have t27_:=hp.v 10;clear hp;go_simp;exact hK.out _ _ rfl eR
      ·refine XStep.op rfl fun ac wk hp K hK=>?_;have t28_:=hp.v 11;clear hp;go_simp;exact hK.out _ _ rfl eR
      ·exact XStep.no 12 false rfl (by decide +kernel) rfl (.inl rfl) rfl
      ·exact XStep.no 12 false rfl (by decide +kernel) rfl (.inl rfl) rfl
      ·exact XStep.no 12 false rfl (by decide +kernel) rfl (.inl rfl) rfl
      ·exact XStep.no 12 false rfl (by decide +kernel) rfl (.inl rfl) rfl
      ·exact XStep.no 12 false rfl (by decide +kernel) rfl (.inl rfl) rfl
      ·exact XStep.no 12 false rfl (by decide +kernel) rfl (.inl rfl) rfl
      ·exact XStep.no 12 false rfl (by decide +kernel) rfl (.inl rfl) rfl
      ·exact XStep.no 12 false rfl (by decide +kernel) rfl (.inl rfl) rfl
      ·exact XStep.no 12 false rfl (by decide +kernel) rfl (.inl rfl) rfl
      ·exact XStep.no 12 false rfl (by decide +kernel) rfl (.inl rfl) rfl
      ·exact XStep.no 12 false rfl (by decide +kernel) rfl (.inl rfl) rfl
      ·exact XStep.no 12 false rfl (by decide +kernel) rfl (.inl rfl) rfl
      ·refine XStep.op rfl fun ac wk hp K hK=>?_;have t29_:=hp.v 12;clear hp;go_simp;exact hK.out _ _ rfl eR
     case ht =>
      intro ac v2 hag hext hpost;have z42_:sl ac 42 = .bool true:=hpost 25 (by decide +kernel) rfl;rw[hag.lay];simp only[lay,List.foldl_cons,List.foldl_nil,List.setIfInBounds_toArray,List.set_cons_zero,List.set_cons_succ,z42_];have HEX:=Hd hext;clear hag hpost hext z42_
      obtain rfl:c=false:=by
       rcases HNE.out with h | h
       ·exact absurd h.1 (by decide)
       ·exact h
      unfold seqTail;go_wp2_with fail;go_ret;exact⟨rfl,XE.out.trans HEX.out⟩
    case true =>
     cases b2
     case false =>
      refine wp_region_tail [17,18,19,20,21,22,23,24,25,26,27,28,29,30,31,32,33,34,35,36,37,38,39,40,41,42] [] (fun ix__=>([Sx.val (.slice (some ⟨blA,offA,none⟩) m c0),Sx.val (.int .i64 (i:Int)),Sx.val (.pointer (some ⟨blA,offA+i*6,none⟩)),Sx.val (.pointer (some ⟨blA,offA+i*6,none⟩)),Sx.val (.agg #[.int .u8 (kA:Int),.int .i64 nA,.slice pA xA yA]),Sx.val (.slice (some ⟨blB,offB,none⟩) m c1),Sx.val (.int .i64 (i:Int)),Sx.val (.pointer (some ⟨blB,offB+i*6,none⟩)),Sx.val (.pointer (some ⟨blB,offB+i*6,none⟩)),Sx.val (.agg #[.int .u8 (kB:Int),.int .i64 nB,.slice pB xB yB]),Sx.val (.bool true),Sx.val (.bool false),Sx.val (.bool false),Sx.val (.slice (some ⟨blA,offA,none⟩) m c0),Sx.val (.int .i64 (i:Int)),Sx.val (.pointer (some ⟨blA,offA+i*6,none⟩)),Sx.val (.pointer (some ⟨blA,offA+i*6+3,none⟩)),Sx.val (.agg #[.bool sA,.slice qA cA dA,.slice rA eA fA]),Sx.val (.slice (some ⟨blB,offB,none⟩) m c1),Sx.val (.int .i64 (i:Int)),Sx.val (.pointer (some ⟨blB,offB+i*6,none⟩)),Sx.val (.pointer (some ⟨blB,offB+i*6+3,none⟩)),Sx.val (.agg #[.bool sB,.slice qB cB dB,.slice rB eB fB]),Sx.val (.bool false),Sx.val (.bool true),Sx.val (.bool true)]:List Sx).getD ix__ (Sx.val undef)) (by kernel_rfl) (by kernel_rfl) ?hs ?ht
      case hs =>
       refine⟨?_,?_,?_,?_,?_,?_,?_,?_,?_,?_,?_,?_,?_,?_,?_,?_,?_,?_,?_,?_,?_,?_,?_,?_,?_,?_,trivial⟩
       ·refine XStep.op rfl fun ac wk hp K hK=>?_;have t0_:ac.tmps[0]?.getD undef = .slice (some ⟨blA,offA,none⟩) m c0:=hp.slot 0 rfl rfl;clear hp;go_simp;exact hK.out _ _ rfl eR
       ·refine XStep.op rfl fun ac wk hp K hK=>?_;have t5_:ac.tmps[5]?.getD undef = .int .i64 (i:Int):=hp.slot 5 rfl rfl;clear hp;go_simp;exact hK.out _ _ rfl eR
       ·refine XStep.op rfl fun ac wk hp K hK=>?_;have t17_:=hp.v 0;have t18_:=hp.v 1;clear hp;go_simp;exact hK.out _ _ rfl eR
       ·refine XStep.op rfl fun ac wk hp K hK=>?_;have t19_:=hp.v 2;clear hp;go_simp;exact hK.out _ _ rfl eR
       ·refine XStep.op rfl fun ac wk hp K hK=>?_;have t20_:=hp.v 3;have q0:=((DA0.out).ext hp.ext).1;have q1:=((DA1.out).ext hp.ext).1;have q2:=((DA2.out).ext hp.ext).1;clear hp;go_simp;exact hK.out _ _ rfl eR
       ·refine XStep.op rfl fun ac wk hp K hK=>?_;have t1_:ac.tmps[1]?.getD undef = .slice (some ⟨blB,offB,none⟩) m c1:=hp.slot 1 rfl rfl;clear hp;go_simp;exact hK.out _ _ rfl eR
       ·refine XStep.op rfl fun ac wk hp K hK=>?_;have t5_:ac.tmps[5]?.getD undef = .int .i64 (i:Int):=hp.slot 5 rfl rfl;clear hp;go_simp;exact hK.out _ _ rfl eR
       ·refine XStep.op rfl fun ac wk hp K hK=>?_;have t22_:=hp.v 5;have t23_:=hp.v 6;clear hp;go_simp;exact hK.out _ _ rfl eR
       ·refine XStep.op rfl fun ac wk hp K hK=>?_;have t24_:=hp.v 7;clear hp;go_simp;exact hK.out _ _ rfl eR
       ·refine XStep.op rfl fun ac wk hp K hK=>?_;have t25_:=hp.v 8;have q0:=((DB0.out).ext hp.ext).1;have q1:=((DB1.out).ext hp.ext).1;have q2:=((DB2.out).ext hp.ext).1;clear hp;go_simp;exact hK.out _ _ rfl eR
       ·refine XStep.op rfl fun ac wk hp K hK=>?_;have t21_:=hp.v 4;have t26_:=hp.v 9;have xe:=Hd hp.ext;clear hp;go_simp;refine (HSV.out _ xe.out).mono ?_;rintro e wk' ⟨rfl,ix⟩;exact hK.out _ _ rfl ix
       ·refine XStep.op rfl fun ac wk hp K hK=>?_;have t27_:=hp.v 10;clear hp;go_simp;exact hK.out _ _ rfl eR
       ·refine XStep.op rfl fun ac wk hp K hK=>?_;have t28_:=hp.v 11;clear hp;go_simp;exact hK.out _ _ rfl eR
       ·refine XStep.yes 12 false rfl (by decide +kernel) rfl rfl fun ac wk hp K hK=>?_;have t0_:ac.tmps[0]?.getD undef = .slice (some ⟨blA,offA,none⟩) m c0:=hp.slot 0 rfl rfl;clear hp;go_simp;exact hK.out _ _ rfl eR
       ·refine XStep.yes 12 false rfl (by decide +kernel) rfl rfl fun ac wk hp K hK=>?_;have t5_:ac.tmps[5]?.getD undef = .int .i64 (i:Int):=hp.slot 5 rfl rfl;clear hp;go_simp;exact hK.out _ _ rfl eR
       ·refine XStep.yes 12 false rfl (by decide +kernel) rfl rfl fun ac wk hp K hK=>?_;have t30_:=hp.v 13;have t31_:=hp.v 14;clear hp;go_simp;exact hK.out _ _ rfl eR
       ·refine XStep.yes 12 false rfl (by decide +kernel) rfl rfl fun ac wk hp K hK=>?_;have t32_:=hp.v 15;clear hp;go_simp;exact hK.out _ _ rfl eR
       ·refine XStep.yes 12 false rfl (by decide +kernel) rfl rfl fun ac wk hp K hK=>?_;have t33_:=hp.v 16;have q0:=((DA3.out).ext hp.ext).1;have q1:=((DA4.out).ext hp.ext).1;have q2:=((DA5.out).ext hp.ext).1;clear hp;go_simp;exact hK.out _ _ rfl eR
       ·refine XStep.yes 12 false rfl (by decide +kernel) rfl rfl fun ac wk hp K hK=>?_;have t1_:ac.tmps[1]?.getD undef = .slice (some ⟨blB,offB,none⟩) m c1:=hp.slot 1 rfl rfl;clear hp;go_simp;exact hK.out _ _ rfl eR
       ·refine XStep.yes 12 false rfl (by decide +kernel) rfl rfl fun ac wk hp K hK=>?_;have t5_:ac.tmps[5]?.getD undef = .int .i64 (i:Int):=hp.slot 5 rfl rfl;clear hp;go_simp;exact hK.out _ _ rfl eR
       ·refine XStep.yes 12 false rfl (by decide +kernel) rfl rfl fun ac wk hp K hK=>?_;have t35_:=hp.v 18;have t36_:=hp.v 19;clear hp;go_simp;exact hK.out _ _ rfl eR
       ·refine XStep.yes 12 false rfl (by decide +kernel) rfl rfl fun ac wk hp K hK=>?_;have t37_:=hp.v 20;clear hp;go_simp;exact hK.out _ _ rfl eR
       ·refine XStep.yes 12 false rfl (by decide +kernel) rfl rfl fun ac wk hp K hK=>?_;have t38_:=hp.v 21;have q0:=((DB3.out).ext hp.ext).1;have q1:=((DB4.out).ext hp.ext).1;have q2:=((DB5.out).ext hp.ext).1;clear hp;go_simp;exact hK.out _ _ rfl eR
       ·refine XStep.yes 12 false rfl (by decide +kernel) rfl rfl fun ac wk hp K hK=>?_;have t34_:=hp.v 17;have t39_:=hp.v 22;have xe:=Hd hp.ext;clear hp;go_simp;refine (HIS.out _ xe.out).mono ?_;rintro e wk' ⟨rfl,ix⟩;exact hK.out _ _ rfl ix
       ·refine XStep.yes 12 false rfl (by decide +kernel) rfl rfl fun ac wk hp K hK=>?_;have t40_:=hp.v 23;clear hp;go_simp;exact hK.out _ _ rfl eR
       ·refine XStep.op rfl fun ac wk hp K hK=>?_;have t29_:=hp.v 12;have t41_:=hp.v 24;clear hp;go_simp;exact hK.out _ _ rfl eR
      case ht =>
       intro ac v2 hag hext hpost;have z42_:sl ac 42 = .bool true:=hpost 25 (by decide +kernel) rfl;rw[hag.lay];simp only[lay,List.foldl_cons,List.foldl_nil,List.setIfInBounds_toArray,List.set_cons_zero,List.set_cons_succ,z42_];have HEX:=Hd hext;clear hag hpost hext z42_
       obtain rfl:c=false:=by
        rcases HNE.out with h | h
        ·exact absurd h.2 (by decide)
        ·exact h
       unfold seqTail;go_wp2_with fail;go_ret;exact⟨rfl,XE.out.trans HEX.out⟩
     case true =>
      refine wp_region_tail [17,18,19,20,21,22,23,24,25,26,27,28,29,30,31,32,33,34,35,36,37,38,39,40,41,42] [] (fun ix__=>([Sx.val (.slice (some ⟨blA,offA,none⟩) m c0),Sx.val (.int .i64 (i:Int)),Sx.val (.pointer (some ⟨blA,offA+i*6,none⟩)),Sx.val (.pointer (some ⟨blA,offA+i*6,none⟩)),Sx.val (.agg #[.int .u8 (kA:Int),.int .i64 nA,.slice pA xA yA]),Sx.val (.slice (some ⟨blB,offB,none⟩) m c1),Sx.val (.int .i64 (i:Int)),Sx.val (.pointer (some ⟨blB,offB+i*6,none⟩)),Sx.val (.pointer (some ⟨blB,offB+i*6,none⟩)),Sx.val (.agg #[.int .u8 (kB:Int),.int .i64 nB,.slice pB xB yB]),Sx.val (.bool true),Sx.val (.bool false),Sx.val (.bool false),Sx.val (.slice (some ⟨blA,offA,none⟩) m c0),Sx.val (.int .i64 (i:Int)),Sx.val (.pointer (some ⟨blA,offA+i*6,none⟩)),Sx.val (.pointer (some ⟨blA,offA+i*6+3,none⟩)),Sx.val (.agg #[.bool sA,.slice qA cA dA,.slice rA eA fA]),Sx.val (.slice (some ⟨blB,offB,none⟩) m c1),Sx.val (.int .i64 (i:Int)),Sx.val (.pointer (some ⟨blB,offB+i*6,none⟩)),Sx.val (.pointer (some ⟨blB,offB+i*6+3,none⟩)),Sx.val (.agg #[.bool sB,.slice qB cB dB,.slice rB eB fB]),Sx.val (.bool true),Sx.val (.bool false),Sx.val (.bool false)]:List Sx).getD ix__ (Sx.val undef)) (by kernel_rfl) (by kernel_rfl) ?hs ?ht
      case hs =>
       refine⟨?_,?_,?_,?_,?_,?_,?_,?_,?_,?_,?_,?_,?_,?_,?_,?_,?_,?_,?_,?_,?_,?_,?_,?_,?_,?_,trivial⟩
       ·refine XStep.op rfl fun ac wk hp K hK=>?_;have t0_:ac.tmps[0]?.getD undef = .slice (some ⟨blA,offA,none⟩) m c0:=hp.slot 0 rfl rfl;clear hp;go_simp;exact hK.out _ _ rfl eR
       ·refine XStep.op rfl fun ac wk hp K hK=>?_;have t5_:ac.tmps[5]?.getD undef = .int .i64 (i:Int):=hp.slot 5 rfl rfl;clear hp;go_simp;exact hK.out _ _ rfl eR
       ·refine XStep.op rfl fun ac wk hp K hK=>?_;have t17_:=hp.v 0;have t18_:=hp.v 1;clear hp;go_simp;exact hK.out _ _ rfl eR
       ·refine XStep.op rfl fun ac wk hp K hK=>?_;have t19_:=hp.v 2;clear hp;go_simp;exact hK.out _ _ rfl eR
       ·refine XStep.op rfl fun ac wk hp K hK=>?_;have t20_:=hp.v 3;have q0:=((DA0.out).ext hp.ext).1;have q1:=((DA1.out).ext hp.ext).1;have q2:=((DA2.out).ext hp.ext).1;clear hp;go_simp;exact hK.out _ _ rfl eR
       ·refine XStep.op rfl fun ac wk hp K hK=>?_;have t1_:ac.tmps[1]?.getD undef = .slice (some ⟨blB,offB,none⟩) m c1:=hp.slot 1 rfl rfl;clear hp;go_simp;exact hK.out _ _ rfl eR
       ·refine XStep.op rfl fun ac wk hp K hK=>?_;have t5_:ac.tmps[5]?.getD undef = .int .i64 (i:Int):=hp.slot 5 rfl rfl;clear hp;go_simp;exact hK.out _ _ rfl eR
       ·refine XStep.op rfl fun ac wk hp K hK=>?_;have t22_:=hp.v 5;have t23_:=hp.v 6;clear hp;go_simp;exact hK.out _ _ rfl eR
       ·refine XStep.op rfl fun ac wk hp K hK=>?_;have t24_:=hp.v 7;clear hp;go_simp;exact hK.out _ _ rfl eR
       ·refine XStep.op rfl fun ac wk hp K hK=>?_;have t25_:=hp.v 8;have q0:=((DB0.out).ext hp.ext).1;have q1:=((DB1.out).ext hp.ext).1;have q2:=((DB2.out).ext hp.ext).1;clear hp;go_simp;exact hK.out _ _ rfl eR
       ·refine XStep.op rfl fun ac wk hp K hK=>?_;have t21_:=hp.v 4;have t26_:=hp.v 9;have xe:=Hd hp.ext;clear hp;go_simp;refine (HSV.out _ xe.out).mono ?_;rintro e wk' ⟨rfl,ix⟩;exact hK.out _ _ rfl ix
       ·refine XStep.op rfl fun ac wk hp K hK=>?_;have t27_:=hp.v 10;clear hp;go_simp;exact hK.out _ _ rfl eR
       ·refine XStep.op rfl fun ac wk hp K hK=>?_;have t28_:=hp.v 11;clear hp;go_simp;exact hK.out _ _ rfl eR
       ·refine XStep.yes 12 false rfl (by decide +kernel) rfl rfl fun ac wk hp K hK=>?_;have t0_:ac.tmps[0]?.getD undef = .slice (some ⟨blA,offA,none⟩) m c0:=hp.slot 0 rfl rfl;clear hp;go_simp;exact hK.out _ _ rfl eR
       ·refine XStep.yes 12 false rfl (by decide +kernel) rfl rfl fun ac wk hp K hK=>?_;have t5_:ac.tmps[5]?.getD undef = .int .i64 (i:Int):=hp.slot 5 rfl rfl;clear hp;go_simp;exact hK.out _ _ rfl eR
       ·refine XStep.yes 12 false rfl (by decide +kernel) rfl rfl fun ac wk hp K hK=>?_;have t30_:=hp.v 13;have t31_:=hp.v 14;clear hp;go_simp;exact hK.out _ _ rfl eR
       ·refine XStep.yes 12 false rfl (by decide +kernel) rfl rfl fun ac wk hp K hK=>?_;have t32_:=hp.v 15;clear hp;go_simp;exact hK.out _ _ rfl eR
       ·refine XStep.yes 12 false rfl (by decide +kernel) rfl rfl fun ac wk hp K hK=>?_;have t33_:=hp.v 16;have q0:=((DA3.out).ext hp.ext).1;have q1:=((DA4.out).ext hp.ext).1;have q2:=((DA5.out).ext hp.ext).1;clear hp;go_simp;exact hK.out _ _ rfl eR
       ·refine XStep.yes 12 false rfl (by decide +kernel) rfl rfl fun ac wk hp K hK=>?_;have t1_:ac.tmps[1]?.getD undef = .slice (some ⟨blB,offB,none⟩) m c1:=hp.slot 1 rfl rfl;clear hp;go_simp;exact hK.out _ _ rfl eR
       ·refine XStep.yes 12 false rfl (by decide +kernel) rfl rfl fun ac wk hp K hK=>?_;have t5_:ac.tmps[5]?.getD undef = .int .i64 (i:Int):=hp.slot 5 rfl rfl;clear hp;go_simp;exact hK.out _ _ rfl eR
       ·refine XStep.yes 12 false rfl (by decide +kernel) rfl rfl fun ac wk hp K hK=>?_;have t35_:=hp.v 18;have t36_:=hp.v 19;clear hp;go_simp;exact hK.out _ _ rfl eR
       ·refine XStep.yes 12 false rfl (by decide +kernel) rfl rfl fun ac wk hp K hK=>?_;have t37_:=hp.v 20;clear hp;go_simp;exact hK.out _ _ rfl eR
       ·refine XStep.yes 12 false rfl (by decide +kernel) rfl rfl fun ac wk hp K hK=>?_;have t38_:=hp.v 21;have q0:=((DB3.out).ext hp.ext).1;have q1:=((DB4.out).ext hp.ext).1;have q2:=((DB5.out).ext hp.ext).1;clear hp;go_simp;exact hK.out _ _ rfl eR
       ·refine XStep.yes 12 false rfl (by decide +kernel) rfl rfl fun ac wk hp K hK=>?_;have t34_:=hp.v 17;have t39_:=hp.v 22;have xe:=Hd hp.ext;clear hp;go_simp;refine (HIS.out _ xe.out).mono ?_;rintro e wk' ⟨rfl,ix⟩;exact hK.out _ _ rfl ix
       ·refine XStep.yes 12 false rfl (by decide +kernel) rfl rfl fun ac wk hp K hK=>?_;have t40_:=hp.v 23;clear hp;go_simp;exact hK.out _ _ rfl eR
       ·refine XStep.op rfl fun ac wk hp K hK=>?_;have t29_:=hp.v 12;have t41_:=hp.v 24;clear hp;go_simp;exact hK.out _ _ rfl eR
      case ht =>
       intro ac v2 hag hext hpost;have z42_:sl ac 42 = .bool false:=hpost 25 (by decide +kernel) rfl;rw[hag.lay];simp only[lay,List.foldl_cons,List.foldl_nil,List.setIfInBounds_toArray,List.set_cons_zero,List.set_cons_succ,z42_];have HEX:=Hd hext;clear hag hpost hext z42_;unfold seqTail;go_wp2_with fail;have hab:aA=aB:=(same_ra aA aB).1 ⟨HB1.out,HB2.out⟩;exact⟨⟨i+1,by first | rfl | simp | rw[hwi],LT.out,XE.out.trans HEX.out,by show _=_;rw[HT1.out,HT2.out,HTK.out,hab]⟩,by simp only[intOf];have:=LT.out;omega⟩
   ·have hli:¬ (i:Int)<(m:Int):=by omega
    have him:i=m:=by omega
    have hct:c=true:=HC.out.2 (by
     have h:=HTK.out;rw[him,List.take_of_length_le (by rw[HM.out];exact Nat.le_refl _),List.take_of_length_le (by rw[HM'.out];exact Nat.le_refl _)]at h
     exact h)
    subst hct;clear hlt hi him;go_wp2_with fail;go_ret;exact⟨rfl,XE.out⟩
noncomputable def mayRa (a:Ra):Bool:=decide (val a.2.2.2≠0∧decide ((qRa a).num<0)=a.2.1∧dig (qRa a).num.natAbs=a.2.2.1∧dig (qRa a).den=a.2.2.2)
def OkAt (Ls:List Ra) (i:Nat):Prop:=∀ a,Ls[i]? = some a→mayRa a=true∧0<qRa a ∧ ∀ j b,i=j+1→Ls[j]? = some b→cmpV b.1 a.1<0
def MayS (Ls:List Ra):Prop:=∀ i,i<Ls.length→OkAt Ls i
set_option maxHeartbeats 1000000 in
set_option maxRecDepth 100000 in
theorem lessV_calls {w:World}{k:Nat}{n:Int}{p:Option Addr}{a b:Nat}{s:Bool}{p1:Option Addr}{n1 c1:Nat}{p2:Option Addr}{n2 c2:Nat}{k':Nat}{n':Int}{p':Option Addr}{a' b':Nat}{s':Bool}{p1':Option Addr}{n1' c1':Nat}{p2':Option Addr}{n2' c2':Nat}{x y:VT}
  (hx:IsV w (.agg #[.int .u8 (k:Int),.int .i64 n,.slice p a b]) x) (hy:IsV w (.agg #[.int .u8 (k':Int),.int .i64 n',.slice p' a' b']) y) (r:Int) (hr:cmpV x y=r) :
  Calls Tryz.prog 53 #[.agg #[.int .u8 (k:Int),.int .i64 n,.slice p a b,.bool s,.slice p1 n1 c1,.slice p2 n2 c2],.agg #[.int .u8 (k':Int),.int .i64 n',.slice p' a' b',.bool s',.slice p1' n1' c1',.slice p2' n2' c2']] w fun e w'=>e = .returned (.int .i64 r)∧Ext w w':=by
 have HX:=Hd hx;have HY:=Hd hy;have HC:=Hd (vcmp_calls x);have HR:=Hd hr;clear hx hy hr
 go_enter Tryz.func53,Tryz.ntmps53
 go_wp2_with fail;have X1:Hid (Ext w ((w.alloc (.cells #[.int .u8 (k:Int),.int .i64 n,.slice p a b,.bool s,.slice p1 n1 c1,.slice p2 n2 c2] 47)).alloc (.cells #[.int .u8 (k':Int),.int .i64 n',.slice p' a' b',.bool s',.slice p1' n1' c1',.slice p2' n2' c2'] 47))):=(eR.alloc _).alloc _;refine (HC.out _ _ y _ (HX.out.ext X1.out) (HY.out.ext X1.out)).mono ?_;rintro e w1 ⟨rfl,x1⟩;rw[HR.out];have X2:=Hd (X1.out.trans x1);clear x1;go_wp2_with fail;go_ret;exact⟨rfl,X2.out⟩
set_option maxHeartbeats 4000000 in
set_option maxRecDepth 100000 in
theorem mmay_calls {w:World}{v:Value}{Ls:List Ra}(h:SlS w v Ls){K:Nat}(hK:K≤20000) (hK1:1≤K) (hlim:∀ a∈Ls,a.2.2.1.length≤K∧a.2.2.2.length≤K) (c:Bool) (hc:c=true↔MayS Ls):Calls Tryz.prog 14 #[v] w fun e w'=>e = .returned (.bool c)∧Ext w w':=by
 obtain⟨p0,c0,rfl,h1,h2,h3,h4⟩:=h;unfold maxLen at h2
 obtain⟨m,hm⟩:∃ m,Ls.length=m:=⟨_,rfl⟩
 have H4:=Hd h4;have HM:=Hd hm;have HC:=Hd hc;have HLIM:=Hd hlim;have HK:=Hd hK;have HK1:=Hd hK1;rw[hm]at h1 ⊢
 have M5:Hid ((m:Int)≤9223372036854775807):=by show _≤_;omega
 clear h1 h2 h3 h4 hm hc hlim hK hK1
 go_enter Tryz.func14,Tryz.ntmps14
 go_wp2_with fail
 go_loopw [7] (fun vi wr => ∃ i:Nat,vi = .int .i64 (i:Int)∧i≤m∧Ext w wr∧Hid (∀ k,k<i→OkAt Ls k)) (fun vi _=>m - (intOf vi).toNat)
 case atStart=>exact⟨0,rfl,Nat.zero_le _,Ext.refl _,fun k hk=>absurd hk (Nat.not_lt_zero _)⟩
 case round =>
  rename World=>wr
  obtain⟨i,rfl,hi,hx,HOK⟩:=hrel;have XE:=Hd hx;clear hx
  by_cases hlt:i<m
  ·have hli:(i:Int)<(m:Int):=by omega
   have hl1:(i:Int)+1≤(m:Int):=by omega
   have m5:=M5.out
   have hwi:IntKind.i64.wrap ((i:Int)+1)=((i+1:Nat):Int):=by rw[IntWalk.i64_in _ (by omega)];omega
   obtain⟨aA,haA⟩:∃ y,Ls[i]? = some y:=⟨_,List.getElem?_eq_getElem (by rw[HM.out];exact hlt)⟩
   have HAA:=Hd haA;obtain⟨blA,offA,csA,hpA,hraA,hatA⟩:=H4.out (i) aA haA;obtain⟨kA,nA,pA,xA,yA,qA,cA,dA,rA,eA,fA,rfl,hviA,hlaA,hldA⟩:=hraA;have HVA:=Hd (hviA.ext XE.out);have HLA:=Hd (hlaA.ext XE.out);have HDA:=Hd (hldA.ext XE.out)
   obtain⟨sA,hsgA⟩:∃ s,aA.2.1=s:=⟨_,rfl⟩
   rw[hsgA]at hatA;have HSGA:=Hd hsgA;have DA0:Hid (At blA (offA+i*6) (.int .u8 (kA:Int)) _):=(hatA 0 (.int .u8 (kA:Int)) rfl).ext XE.out;have DA1:Hid (At blA (offA+i*6+1) (.int .i64 nA) _):=(hatA 1 (.int .i64 nA) rfl).ext XE.out;have DA2:Hid (At blA (offA+i*6+2) (.slice pA xA yA) _):=(hatA 2 (.slice pA xA yA) rfl).ext XE.out;have DA3:Hid (At blA (offA+i*6+3) (.bool sA) _):=(hatA 3 (.bool sA) rfl).ext XE.out;have DA4:Hid (At blA (offA+i*6+4) (.slice qA cA dA) _):=(hatA 4 (.slice qA cA dA) rfl).ext XE.out;have DA5:Hid (At blA (offA+i*6+5) (.slice rA eA fA) _):=(hatA 5 (.slice rA eA fA) rfl).ext XE.out;clear haA hatA hviA hlaA hldA hsgA;subst hpA;have LT:=Hd hlt
   have HIR:Hid (InR wr sA (.slice qA cA dA) (.slice rA eA fA) K (qRa aA)):=⟨_,_,HLA.out,HDA.out,by rw[←HSGA.out];rfl,(HLIM.out aA (List.mem_of_getElem? HAA.out)).1,(HLIM.out aA (List.mem_of_getElem? HAA.out)).2,HK1.out⟩
   obtain⟨my,hmy⟩:∃ b,mayRa aA=b:=⟨_,rfl⟩
   obtain⟨ab,hab⟩:∃ b,decide (0<qRa aA)=b:=⟨_,rfl⟩
   have HY1:=Hd hmy;have HY2:=Hd hab
   have HMY:Hid (∀ X,Ext wr X→Calls Tryz.prog 51 #[.agg #[.bool sA,.slice qA cA dA,.slice rA eA fA]] X fun e w'=>e = .returned (.bool my)∧Ext X w'):=fun X hX=>rmay_raw (k:=K) (q:=qRa aA) (HLA.out.ext hX) (HDA.out.ext hX) (by rw[←HSGA.out];rfl) (HLIM.out aA (List.mem_of_getElem? HAA.out)).1 (HLIM.out aA (List.mem_of_getElem? HAA.out)).2 HK1.out (by have:=HK.out;omega) my (by rw[←hmy,←HSGA.out];rfl)
   have HAB:Hid (∀ X,Ext wr X→Calls Tryz.prog 52 #[.agg #[.bool sA,.slice qA cA dA,.slice rA eA fA]] X fun e w'=>e = .returned (.bool ab)∧Ext X w'):=fun X hX=>by rw[←hab];exact above_calls (HIR.out.ext hX) HK.out
   have h0:=DA0.out.1;have h1:=DA1.out.1;have h2:=DA2.out.1;have h3:=DA3.out.1;have h4:=DA4.out.1;have h5:=DA5.out.1;have fb:=DA5.out.2;clear hi m5 hlt hmy hab
   go_upto_region 4 with fail
   obtain⟨b4,hb4⟩:∃ s,wr.heap.size=s:=⟨_,rfl⟩
   have XB:Hid (Ext wr (wr.alloc (.cells #[.int .u8 (kA:Int),.int .i64 nA,.slice pA xA yA,.bool sA,.slice qA cA dA,.slice rA eA fA] 47))):=eR.alloc _
   have PB0:Hid (At b4 0 (.int .u8 (kA:Int)) (wr.alloc (.cells #[.int .u8 (kA:Int),.int .i64 nA,.slice pA xA yA,.bool sA,.slice qA cA dA,.slice rA eA fA] 47))):=by rw[←hb4];exact at_new rfl
   have PB1:Hid (At b4 1 (.int .i64 nA) (wr.alloc (.cells #[.int .u8 (kA:Int),.int .i64 nA,.slice pA xA yA,.bool sA,.slice qA cA dA,.slice rA eA fA] 47))):=by rw[←hb4];exact at_new rfl
   have PB2:Hid (At b4 2 (.slice pA xA yA) (wr.alloc (.cells #[.int .u8 (kA:Int),.int .i64 nA,.slice pA xA yA,.bool sA,.slice qA cA dA,.slice rA eA fA] 47))):=by rw[←hb4];exact at_new rfl
   have PB3:Hid (At b4 3 (.bool sA) (wr.alloc (.cells #[.int .u8 (kA:Int),.int .i64 nA,.slice pA xA yA,.bool sA,.slice qA cA dA,.slice rA eA fA] 47))):=by rw[←hb4];exact at_new rfl
   have PB4:Hid (At b4 4 (.slice qA cA dA) (wr.alloc (.cells #[.int .u8 (kA:Int),.int .i64 nA,.slice pA xA yA,.bool sA,.slice qA cA dA,.slice rA eA fA] 47))):=by rw[←hb4];exact at_new rfl
   have PB5:Hid (At b4 5 (.slice rA eA fA) (wr.alloc (.cells #[.int .u8 (kA:Int),.int .i64 nA,.slice pA xA yA,.bool sA,.slice qA cA dA,.slice rA eA fA] 47))):=by rw[←hb4];exact at_new rfl
   obtain⟨W4,hW4⟩:∃ X,X=wr.alloc (.cells #[.int .u8 (kA:Int),.int .i64 nA,.slice pA xA yA,.bool sA,.slice qA cA dA,.slice rA eA fA] 47):=⟨_,rfl⟩
   rw[←hW4]at XB PB0 PB1 PB2 PB3 PB4 PB5
   have HMY:Hid (∀ X,Ext W4 X→Calls Tryz.prog 51 #[.agg #[.bool sA,.slice qA cA dA,.slice rA eA fA]] X fun e w'=>e = .returned (.bool my)∧Ext X w'):=fun X hX=>HMY.out X (XB.out.trans hX)
   have HAB:Hid (∀ X,Ext W4 X→Calls Tryz.prog 52 #[.agg #[.bool sA,.slice qA cA dA,.slice rA eA fA]] X fun e w'=>e = .returned (.bool ab)∧Ext X w'):=fun X hX=>HAB.out X (XB.out.trans hX)
   rw[hb4,←hW4];clear hb4 hW4 h0 h1 h2 h3 h4 h5 fb
   have HOI:Hid (c=true→OkAt Ls i):=fun e=>HC.out.1 e i (by rw[HM.out];exact LT.out)
   cases my
   case false =>
    refine wp_region_tail [12,13,14,15,16,17,18,19,20,21,22,23,24,25,26,27,28,29,30,31,32,33,34,35] [] (fun ix__=>([Sx.val (.pointer (some ⟨b4,3,none⟩)),Sx.val (.agg #[.bool sA,.slice qA cA dA,.slice rA eA fA]),Sx.val (.bool false),Sx.val (.bool true),Sx.val (.bool true),Sx.val undef,Sx.val undef,Sx.val undef,Sx.val undef,Sx.val (.bool true),Sx.val (.bool true),Sx.val undef,Sx.val undef,Sx.val undef,Sx.val undef,Sx.val undef,Sx.val undef,Sx.val undef,Sx.val undef,Sx.val undef,Sx.val undef,Sx.val undef,Sx.val undef,Sx.val (.bool true)]:List Sx).getD ix__ (Sx.val undef)) (by kernel_rfl) (by kernel_rfl) ?hs ?ht
    case hs =>
     refine⟨?_,?_,?_,?_,?_,?_,?_,?_,?_,?_,?_,?_,?_,?_,?_,?_,?_,?_,?_,?_,?_,?_,?_,?_,trivial⟩
     ·refine XStep.op rfl fun ac wk hp K hK=>?_;have t4_:ac.tmps[4]?.getD undef = .pointer (some ⟨b4,0,none⟩):=hp.slot 4 rfl rfl;clear hp;go_simp;exact hK.out _ _ rfl eR
     ·refine XStep.op rfl fun ac wk hp K hK=>?_;have t12_:=hp.v 0;have q0:=((PB3.out).ext hp.ext).1;have q1:=((PB4.out).ext hp.ext).1;have q2:=((PB5.out).ext hp.ext).1;clear hp;go_simp;exact hK.out _ _ rfl eR
     ·refine XStep.op rfl fun ac wk hp K hK=>?_;have t13_:=hp.v 1;have xe:=Hd hp.ext;clear hp;go_simp;refine (HMY.out _ xe.out).mono ?_;rintro e wk' ⟨rfl,ix⟩;exact hK.out _ _ rfl ix
     ·refine XStep.op rfl fun ac wk hp K hK=>?_;have t14_:=hp.v 2;clear hp;go_simp;exact hK.out _ _ rfl eR
     ·refine XStep.op rfl fun ac wk hp K hK=>?_;have t15_:=hp.v 3;clear hp;go_simp;exact hK.out _ _ rfl eR
     ·exact XStep.no 4 false rfl (by decide +kernel) rfl (.inl rfl) rfl
     ·exact XStep.no 4 false rfl (by decide +kernel) rfl (.inl rfl) rfl
     ·exact XStep.no 4 false rfl (by decide +kernel) rfl (.inl rfl) rfl
     ·exact XStep.no 4 false rfl (by decide +kernel) rfl (.inl rfl) rfl
     ·refine XStep.op rfl fun ac wk hp K hK=>?_;have t16_:=hp.v 4;clear hp;go_simp;exact hK.out _ _ rfl eR
     ·refine XStep.op rfl fun ac wk hp K hK=>?_;have t21_:=hp.v 9;clear hp;go_simp;exact hK.out _ _ rfl eR
     ·exact XStep.no 10 false rfl (by decide +kernel) rfl (.inl rfl) rfl
     ·exact XStep.no 10 false rfl (by decide +kernel) rfl (.inl rfl) rfl
     ·exact XStep.no 10 false rfl (by decide +kernel) rfl (.inl rfl) rfl
     ·exact XStep.no 13 true rfl (by decide +kernel) rfl (.inr rfl) rfl
     ·exact XStep.no 13 true rfl (by decide +kernel) rfl (.inr rfl) rfl
     ·exact XStep.no 13 true rfl (by decide +kernel) rfl (.inr rfl) rfl
     ·exact XStep.no 13 true rfl (by decide +kernel) rfl (.inr rfl) rfl
     ·exact XStep.no 13 true rfl (by decide +kernel) rfl (.inr rfl) rfl
     ·exact XStep.no 13 true rfl (by decide +kernel) rfl (.inr rfl) rfl
     ·exact XStep.no 13 true rfl (by decide +kernel) rfl (.inr rfl) rfl
     ·exact XStep.no 13 true rfl (by decide +kernel) rfl (.inr rfl) rfl
     ·exact XStep.no 10 false rfl (by decide +kernel) rfl (.inl rfl) rfl
     ·refine XStep.op rfl fun ac wk hp K hK=>?_;have t22_:=hp.v 10;clear hp;go_simp;exact hK.out _ _ rfl eR
    case ht =>
     intro ac v2 hag hext hpost;have z35_:sl ac 35 = .bool true:=hpost 23 (by decide +kernel) rfl;rw[hag.lay];simp only[lay,List.foldl_cons,List.foldl_nil,List.setIfInBounds_toArray,List.set_cons_zero,List.set_cons_succ,z35_];have HEX:=Hd hext;clear hag hpost hext z35_
     obtain rfl:c=false:=by
      cases hcc:c
      ·rfl
      ·have h:=HOI.out hcc aA HAA.out;rw[HY1.out]at h;exact absurd h.1 (by decide)
     unfold seqTail;go_wp2_with fail;go_ret;exact⟨rfl,XE.out.trans (XB.out.trans HEX.out)⟩
   case true =>
    cases ab
    case false =>
     refine wp_region_tail [12,13,14,15,16,17,18,19,20,21,22,23,24,25,26,27,28,29,30,31,32,33,34,35] [] (fun ix__=>([Sx.val (.pointer (some ⟨b4,3,none⟩)),Sx.val (.agg #[.bool sA,.slice qA cA dA,.slice rA eA fA]),Sx.val (.bool true),Sx.val (.bool false),Sx.val (.bool false),Sx.val (.pointer (some ⟨b4,3,none⟩)),Sx.val (.agg #[.bool sA,.slice qA cA dA,.slice rA eA fA]),Sx.val (.bool false),Sx.val (.bool true),Sx.val (.bool true),Sx.val (.bool true),Sx.val undef,Sx.val undef,Sx.val undef,Sx.val undef,Sx.val undef,Sx.val undef,Sx.val undef,Sx.val undef,Sx.val undef,Sx.val undef,Sx.val undef,Sx.val undef,Sx.val (.bool true)]:List Sx).getD ix__ (Sx.val undef)) (by kernel_rfl) (by kernel_rfl) ?hs ?ht
     case hs =>
      refine⟨?_,?_,?_,?_,?_,?_,?_,?_,?_,?_,?_,?_,?_,?_,?_,?_,?_,?_,?_,?_,?_,?_,?_,?_,trivial⟩
      ·refine XStep.op rfl fun ac wk hp K hK=>?_;have t4_:ac.tmps[4]?.getD undef = .pointer (some ⟨b4,0,none⟩):=hp.slot 4 rfl rfl;clear hp;go_simp;exact hK.out _ _ rfl eR
      ·refine XStep.op rfl fun ac wk hp K hK=>?_;have t12_:=hp.v 0;have q0:=((PB3.out).ext hp.ext).1;have q1:=((PB4.out).ext hp.ext).1;have q2:=((PB5.out).ext hp.ext).1;clear hp;go_simp;exact hK.out _ _ rfl eR
      ·refine XStep.op rfl fun ac wk hp K hK=>?_;have t13_:=hp.v 1;have xe:=Hd hp.ext;clear hp;go_simp;refine (HMY.out _ xe.out).mono ?_;rintro e wk' ⟨rfl,ix⟩;exact hK.out _ _ rfl ix
      ·refine XStep.op rfl fun ac wk hp K hK=>?_;have t14_:=hp.v 2;clear hp;go_simp;exact hK.out _ _ rfl eR
      ·refine XStep.op rfl fun ac wk hp K hK=>?_;have t15_:=hp.v 3;clear hp;go_simp;exact hK.out _ _ rfl eR
      ·refine XStep.yes 4 false rfl (by decide +kernel) rfl rfl fun ac wk hp K hK=>?_;have t4_:ac.tmps[4]?.getD undef = .pointer (some ⟨b4,0,none⟩):=hp.slot 4 rfl rfl;clear hp;go_simp;exact hK.out _ _ rfl eR
      ·refine XStep.yes 4 false rfl (by decide +kernel) rfl rfl fun ac wk hp K hK=>?_;have t17_:=hp.v 5;have q0:=((PB3.out).ext hp.ext).1;have q1:=((PB4.out).ext hp.ext).1;have q2:=((PB5.out).ext hp.ext).1;clear hp;go_simp;exact hK.out _ _ rfl eR
      ·refine XStep.yes 4 false rfl (by decide +kernel) rfl rfl fun ac wk hp K hK=>?_;have t18_:=hp.v 6;have xe:=Hd hp.ext;clear hp;go_simp;refine (HAB.out _ xe.out).mono ?_;rintro e wk' ⟨rfl,ix⟩;exact hK.out _ _ rfl ix
      ·refine XStep.yes 4 false rfl (by decide +kernel) rfl rfl fun ac wk hp K hK=>?_;have t19_:=hp.v 7;clear hp;go_simp;exact hK.out _ _ rfl eR
      ·refine XStep.op rfl fun ac wk hp K hK=>?_;have t16_:=hp.v 4;have t20_:=hp.v 8;clear hp;go_simp;exact hK.out _ _ rfl eR
      ·refine XStep.op rfl fun ac wk hp K hK=>?_;have t21_:=hp.v 9;clear hp;go_simp;exact hK.out _ _ rfl eR
      ·exact XStep.no 10 false rfl (by decide +kernel) rfl (.inl rfl) rfl
      ·exact XStep.no 10 false rfl (by decide +kernel) rfl (.inl rfl) rfl
      ·exact XStep.no 10 false rfl (by decide +kernel) rfl (.inl rfl) rfl
      ·exact XStep.no 13 true rfl (by decide +kernel) rfl (.inr rfl) rfl
      ·exact XStep.no 13 true rfl (by decide +kernel) rfl (.inr rfl) rfl
      ·exact XStep.no 13 true rfl (by decide +kernel) rfl (.inr rfl) rfl
      ·exact XStep.no 13 true rfl (by decide +kernel) rfl (.inr rfl) rfl
      ·exact XStep.no 13 true rfl (by decide +kernel) rfl (.inr rfl) rfl
      ·exact XStep.no 13 true rfl (by decide +kernel) rfl (.inr rfl) rfl
      ·exact XStep.no 13 true rfl (by decide +kernel) rfl (.inr rfl) rfl
      ·exact XStep.no 13 true rfl (by decide +kernel) rfl (.inr rfl) rfl
      ·exact XStep.no 10 false rfl (by decide +kernel) rfl (.inl rfl) rfl
      ·refine XStep.op rfl fun ac wk hp K hK=>?_;have t22_:=hp.v 10;clear hp;go_simp;exact hK.out _ _ rfl eR
     case ht =>
      intro ac v2 hag hext hpost;have z35_:sl ac 35 = .bool true:=hpost 23 (by decide +kernel) rfl;rw[hag.lay];simp only[lay,List.foldl_cons,List.foldl_nil,List.setIfInBounds_toArray,List.set_cons_zero,List.set_cons_succ,z35_];have HEX:=Hd hext;clear hag hpost hext z35_
      obtain rfl:c=false:=by
       cases hcc:c
       ·rfl
       ·have h:=HOI.out hcc aA HAA.out;exact absurd h.2.1 (of_decide_eq_false HY2.out)
      unfold seqTail;go_wp2_with fail;go_ret;exact⟨rfl,XE.out.trans (XB.out.trans HEX.out)⟩
    case true =>
     cases i with
     | zero =>
      refine wp_region_tail [12,13,14,15,16,17,18,19,20,21,22,23,24,25,26,27,28,29,30,31,32,33,34,35] [] (fun ix__=>([Sx.val (.pointer (some ⟨b4,3,none⟩)),Sx.val (.agg #[.bool sA,.slice qA cA dA,.slice rA eA fA]),Sx.val (.bool true),Sx.val (.bool false),Sx.val (.bool false),Sx.val (.pointer (some ⟨b4,3,none⟩)),Sx.val (.agg #[.bool sA,.slice qA cA dA,.slice rA eA fA]),Sx.val (.bool true),Sx.val (.bool false),Sx.val (.bool false),Sx.val (.bool false),Sx.val (.int .i64 ((0:Nat):Int)),Sx.val (.bool false),Sx.val (.bool false),Sx.val undef,Sx.val undef,Sx.val undef,Sx.val undef,Sx.val undef,Sx.val undef,Sx.val undef,Sx.val undef,Sx.val (.bool false),Sx.val (.bool false)]:List Sx).getD ix__ (Sx.val undef)) (by kernel_rfl) (by kernel_rfl) ?hs ?ht
      case hs =>
       refine⟨?_,?_,?_,?_,?_,?_,?_,?_,?_,?_,?_,?_,?_,?_,?_,?_,?_,?_,?_,?_,?_,?_,?_,?_,trivial⟩
       ·refine XStep.op rfl fun ac wk hp K hK=>?_;have t4_:ac.tmps[4]?.getD undef = .pointer (some ⟨b4,0,none⟩):=hp.slot 4 rfl rfl;clear hp;go_simp;exact hK.out _ _ rfl eR
       ·refine XStep.op rfl fun ac wk hp K hK=>?_;have t12_:=hp.v 0;have q0:=((PB3.out).ext hp.ext).1;have q1:=((PB4.out).ext hp.ext).1;have q2:=((PB5.out).ext hp.ext).1;clear hp;go_simp;exact hK.out _ _ rfl eR
       ·refine XStep.op rfl fun ac wk hp K hK=>?_;have t13_:=hp.v 1;have xe:=Hd hp.ext;clear hp;go_simp;refine (HMY.out _ xe.out).mono ?_;rintro e wk' ⟨rfl,ix⟩;exact hK.out _ _ rfl ix
       ·refine XStep.op rfl fun ac wk hp K hK=>?_;have t14_:=hp.v 2;clear hp;go_simp;exact hK.out _ _ rfl eR
       ·refine XStep.op rfl fun ac wk hp K hK=>?_;have t15_:=hp.v 3;clear hp;go_simp;exact hK.out _ _ rfl eR
       ·refine XStep.yes 4 false rfl (by decide +kernel) rfl rfl fun ac wk hp K hK=>?_;have t4_:ac.tmps[4]?.getD undef = .pointer (some ⟨b4,0,none⟩):=hp.slot 4 rfl rfl;clear hp;go_simp;exact hK.out _ _ rfl eR
       ·refine XStep.yes 4 false rfl (by decide +kernel) rfl rfl fun ac wk hp K hK=>?_;have t17_:=hp.v 5;have q0:=((PB3.out).ext hp.ext).1;have q1:=((PB4.out).ext hp.ext).1;have q2:=((PB5.out).ext hp.ext).1;clear hp;go_simp;exact hK.out _ _ rfl eR
       ·refine XStep.yes 4 false rfl (by decide +kernel) rfl rfl fun ac wk hp K hK=>?_;have t18_:=hp.v 6;have xe:=Hd hp.ext;clear hp;go_simp;refine (HAB.out _ xe.out).mono ?_;rintro e wk' ⟨rfl,ix⟩;exact hK.out _ _ rfl ix
       ·refine XStep.yes 4 false rfl (by decide +kernel) rfl rfl fun ac wk hp K hK=>?_;have t19_:=hp.v 7;clear hp;go_simp;exact hK.out _ _ rfl eR
       ·refine XStep.op rfl fun ac wk hp K hK=>?_;have t16_:=hp.v 4;have t20_:=hp.v 8;clear hp;go_simp;exact hK.out _ _ rfl eR
       ·refine XStep.op rfl fun ac wk hp K hK=>?_;have t21_:=hp.v 9;clear hp;go_simp;exact hK.out _ _ rfl eR
       ·refine XStep.yes 10 false rfl (by decide +kernel) rfl rfl fun ac wk hp K hK=>?_;have t3_:ac.tmps[3]?.getD undef = .int .i64 ((0:Nat):Int):=hp.slot 3 rfl rfl;clear hp;go_simp;exact hK.out _ _ rfl eR
       ·refine XStep.yes 10 false rfl (by decide +kernel) rfl rfl fun ac wk hp K hK=>?_;have t23_:=hp.v 11;clear hp;go_simp;exact hK.out _ _ (by first | rfl | (apply congrArg Value.bool;simp;done) | (apply congrArg Value.bool;simp;omega) | (simp [*];done)) eR
       ·refine XStep.yes 10 false rfl (by decide +kernel) rfl rfl fun ac wk hp K hK=>?_;have t24_:=hp.v 12;clear hp;go_simp;exact hK.out _ _ rfl eR
       ·exact XStep.no 13 true rfl (by decide +kernel) rfl (.inl rfl) rfl
       ·exact XStep.no 13 true rfl (by decide +kernel) rfl (.inl rfl) rfl
       ·exact XStep.no 13 true rfl (by decide +kernel) rfl (.inl rfl) rfl
       ·exact XStep.no 13 true rfl (by decide +kernel) rfl (.inl rfl) rfl
       ·exact XStep.no 13 true rfl (by decide +kernel) rfl (.inl rfl) rfl
       ·exact XStep.no 13 true rfl (by decide +kernel) rfl (.inl rfl) rfl
       ·exact XStep.no 13 true rfl (by decide +kernel) rfl (.inl rfl) rfl
       ·exact XStep.no 13 true rfl (by decide +kernel) rfl (.inl rfl) rfl
       ·refine XStep.yes 10 false rfl (by decide +kernel) rfl rfl fun ac wk hp K hK=>?_;have t25_:=hp.v 13;clear hp;go_simp;exact hK.out _ _ rfl eR
       ·refine XStep.op rfl fun ac wk hp K hK=>?_;have t22_:=hp.v 10;have t34_:=hp.v 22;clear hp;go_simp;exact hK.out _ _ rfl eR
      case ht =>
       intro ac v2 hag hext hpost;have z35_:sl ac 35 = .bool false:=hpost 23 (by decide +kernel) rfl;rw[hag.lay];simp only[lay,List.foldl_cons,List.foldl_nil,List.setIfInBounds_toArray,List.set_cons_zero,List.set_cons_succ,z35_];have HEX:=Hd hext;clear hag hpost hext z35_;unfold seqTail;go_wp2_with fail;refine⟨⟨0+1,by first | rfl | simp | rw[hwi],LT.out,XE.out.trans (XB.out.trans HEX.out),fun k hk=>?_⟩,by simp only[intOf];have:=LT.out;omega⟩
       rcases Nat.lt_succ_iff_lt_or_eq.1 hk with hk | hk
       ·exact HOK.out k hk
       ·subst hk;intro a ha;rw[HAA.out]at ha;obtain rfl:=Option.some.inj ha;exact⟨HY1.out,of_decide_eq_true HY2.out,fun j b hj=>absurd hj (by omega)⟩
     | succ j =>
      have hjm:j<m:=by have:=LT.out;omega
      have hlo1:(j:Int)<(m:Int):=by omega
      have hwo2:IntKind.i64.wrap ((j:Int)+1 - 1)=(j:Int):=by have:=M5.out;rw[IntWalk.i64_in _ (by omega)];omega
      have hwo3:IntKind.i64.wrap (j:Int)=(j:Int):=by have:=M5.out;rw[IntWalk.i64_in _ (by omega)]
      have hw5:wrap64 ((j:Int)+1+1)=((j+1+1:Nat):Int):=by have:=M5.out;have:=LT.out;unfold wrap64;omega
      obtain⟨aB,haB⟩:∃ y,Ls[j]? = some y:=⟨_,List.getElem?_eq_getElem (by rw[HM.out];exact hjm)⟩
      have HAB_:=Hd haB;obtain⟨blB,offB,csB,hpB,hraB,hatB⟩:=H4.out (j) aB haB;obtain⟨kB,nB,pB,xB,yB,qB,cB,dB,rB,eB,fB,rfl,hviB,hlaB,hldB⟩:=hraB;have HVB:=Hd (hviB.ext XE.out);have HLB:=Hd (hlaB.ext XE.out);have HDB:=Hd (hldB.ext XE.out)
      obtain⟨sB,hsgB⟩:∃ s,aB.2.1=s:=⟨_,rfl⟩
      rw[hsgB]at hatB;have HSGB:=Hd hsgB;have DB0:Hid (At blB (offB+j*6) (.int .u8 (kB:Int)) _):=(hatB 0 (.int .u8 (kB:Int)) rfl).ext XE.out;have DB1:Hid (At blB (offB+j*6+1) (.int .i64 nB) _):=(hatB 1 (.int .i64 nB) rfl).ext XE.out;have DB2:Hid (At blB (offB+j*6+2) (.slice pB xB yB) _):=(hatB 2 (.slice pB xB yB) rfl).ext XE.out;have DB3:Hid (At blB (offB+j*6+3) (.bool sB) _):=(hatB 3 (.bool sB) rfl).ext XE.out;have DB4:Hid (At blB (offB+j*6+4) (.slice qB cB dB) _):=(hatB 4 (.slice qB cB dB) rfl).ext XE.out;have DB5:Hid (At blB (offB+j*6+5) (.slice rB eB fB) _):=(hatB 5 (.slice rB eB fB) rfl).ext XE.out;clear haB hatB hviB hlaB hldB hsgB
      injection hpB with hpB
      injection hpB with hpB1 hpB2
      subst hpB1 hpB2
      obtain⟨cv,hcv⟩:∃ c,cmpV aB.1 aA.1=c:=⟨_,rfl⟩
      have HCV:=Hd hcv
      have HLS:Hid (∀ X,Ext W4 X→Calls Tryz.prog 53 #[.agg #[.int .u8 (kB:Int),.int .i64 nB,.slice pB xB yB,.bool sB,.slice qB cB dB,.slice rB eB fB],.agg #[.int .u8 (kA:Int),.int .i64 nA,.slice pA xA yA,.bool sA,.slice qA cA dA,.slice rA eA fA]] X fun e w'=>e = .returned (.int .i64 cv)∧Ext X w'):=fun X hX=>lessV_calls (HVB.out.ext (XB.out.trans hX)) (HVA.out.ext (XB.out.trans hX)) cv hcv
      by_cases hcl:cv<0
      ·have hcd:decide (cv≥0)=false:=decide_eq_false (by omega);have HCL:=Hd hcl;clear hcv hcl;refine wp_region_tail [12,13,14,15,16,17,18,19,20,21,22,23,24,25,26,27,28,29,30,31,32,33,34,35] [] (fun ix__=>([Sx.val (.pointer (some ⟨b4,3,none⟩)),Sx.val (.agg #[.bool sA,.slice qA cA dA,.slice rA eA fA]),Sx.val (.bool true),Sx.val (.bool false),Sx.val (.bool false),Sx.val (.pointer (some ⟨b4,3,none⟩)),Sx.val (.agg #[.bool sA,.slice qA cA dA,.slice rA eA fA]),Sx.val (.bool true),Sx.val (.bool false),Sx.val (.bool false),Sx.val (.bool false),Sx.val (.int .i64 ((j+1:Nat):Int)),Sx.val (.bool true),Sx.val (.bool true),Sx.val (.slice (some ⟨blA,offA,none⟩) m c0),Sx.val (.int .i64 ((j+1:Nat):Int)),Sx.val (.int .i64 (j:Int)),Sx.val (.pointer (some ⟨blA,offA+j*6,none⟩)),Sx.val (.agg #[.int .u8 (kB:Int),.int .i64 nB,.slice pB xB yB,.bool sB,.slice qB cB dB,.slice rB eB fB]),Sx.val (.agg #[.int .u8 (kA:Int),.int .i64 nA,.slice pA xA yA,.bool sA,.slice qA cA dA,.slice rA eA fA]),Sx.val (.int .i64 cv),Sx.val (.bool false),Sx.val (.bool false),Sx.val (.bool false)]:List Sx).getD ix__ (Sx.val undef)) (by kernel_rfl) (by kernel_rfl) ?hs ?ht
       case hs =>
        refine⟨?_,?_,?_,?_,?_,?_,?_,?_,?_,?_,?_,?_,?_,?_,?_,?_,?_,?_,?_,?_,?_,?_,?_,?_,trivial⟩
        ·refine XStep.op rfl fun ac wk hp K hK=>?_;have t4_:ac.tmps[4]?.getD undef = .pointer (some ⟨b4,0,none⟩):=hp.slot 4 rfl rfl;clear hp;go_simp;exact hK.out _ _ rfl eR
        ·refine XStep.op rfl fun ac wk hp K hK=>?_;have t12_:=hp.v 0;have q0:=((PB3.out).ext hp.ext).1;have q1:=((PB4.out).ext hp.ext).1;have q2:=((PB5.out).ext hp.ext).1;clear hp;go_simp;exact hK.out _ _ rfl eR
        ·refine XStep.op rfl fun ac wk hp K hK=>?_;have t13_:=hp.v 1;have xe:=Hd hp.ext;clear hp;go_simp;refine (HMY.out _ xe.out).mono ?_;rintro e wk' ⟨rfl,ix⟩;exact hK.out _ _ rfl ix
        ·refine XStep.op rfl fun ac wk hp K hK=>?_;have t14_:=hp.v 2;clear hp;go_simp;exact hK.out _ _ rfl eR
        ·refine XStep.op rfl fun ac wk hp K hK=>?_;have t15_:=hp.v 3;clear hp;go_simp;exact hK.out _ _ rfl eR
        ·refine XStep.yes 4 false rfl (by decide +kernel) rfl rfl fun ac wk hp K hK=>?_;have t4_:ac.tmps[4]?.getD undef = .pointer (some ⟨b4,0,none⟩):=hp.slot 4 rfl rfl;clear hp;go_simp;exact hK.out _ _ rfl eR
        ·refine XStep.yes 4 false rfl (by decide +kernel) rfl rfl fun ac wk hp K hK=>?_;have t17_:=hp.v 5;have q0:=((PB3.out).ext hp.ext).1;have q1:=((PB4.out).ext hp.ext).1;have q2:=((PB5.out).ext hp.ext).1;clear hp;go_simp;exact hK.out _ _ rfl eR
        ·refine XStep.yes 4 false rfl (by decide +kernel) rfl rfl fun ac wk hp K hK=>?_;have t18_:=hp.v 6;have xe:=Hd hp.ext;clear hp;go_simp;refine (HAB.out _ xe.out).mono ?_;rintro e wk' ⟨rfl,ix⟩;exact hK.out _ _ rfl ix
        ·refine XStep.yes 4 false rfl (by decide +kernel) rfl rfl fun ac wk hp K hK=>?_;have t19_:=hp.v 7;clear hp;go_simp;exact hK.out _ _ rfl eR
        ·refine XStep.op rfl fun ac wk hp K hK=>?_;have t16_:=hp.v 4;have t20_:=hp.v 8;clear hp;go_simp;exact hK.out _ _ rfl eR
        ·refine XStep.op rfl fun ac wk hp K hK=>?_;have t21_:=hp.v 9;clear hp;go_simp;exact hK.out _ _ rfl eR
        ·refine XStep.yes 10 false rfl (by decide +kernel) rfl rfl fun ac wk hp K hK=>?_;have t3_:ac.tmps[3]?.getD undef = .int .i64 ((j+1:Nat):Int):=hp.slot 3 rfl rfl;clear hp;go_simp;exact hK.out _ _ rfl eR
        ·refine XStep.yes 10 false rfl (by decide +kernel) rfl rfl fun ac wk hp K hK=>?_;have t23_:=hp.v 11;clear hp;go_simp;exact hK.out _ _ (by first | rfl | (apply congrArg Value.bool;simp;done) | (apply congrArg Value.bool;simp;omega) | (simp [*];done)) eR
        ·refine XStep.yes 10 false rfl (by decide +kernel) rfl rfl fun ac wk hp K hK=>?_;have t24_:=hp.v 12;clear hp;go_simp;exact hK.out _ _ rfl eR
        ·refine XStep.yes 13 true rfl (by decide +kernel) rfl rfl fun ac wk hp K hK=>?_;have t0_:ac.tmps[0]?.getD undef = .slice (some ⟨blA,offA,none⟩) m c0:=hp.slot 0 rfl rfl;clear hp;go_simp;exact hK.out _ _ rfl eR
        ·refine XStep.yes 13 true rfl (by decide +kernel) rfl rfl fun ac wk hp K hK=>?_;have t3_:ac.tmps[3]?.getD undef = .int .i64 ((j+1:Nat):Int):=hp.slot 3 rfl rfl;clear hp;go_simp;exact hK.out _ _ rfl eR
        ·refine XStep.yes 13 true rfl (by decide +kernel) rfl rfl fun ac wk hp K hK=>?_;have t27_:=hp.v 15;clear hp;go_simp;exact hK.out _ _ (by first | rfl | (apply congrArg (Value.int .i64);first | exact hwo2 | simp [hwo2,hwo3])) eR
        ·refine XStep.yes 13 true rfl (by decide +kernel) rfl rfl fun ac wk hp K hK=>?_;have t26_:=hp.v 14;have t28_:=hp.v 16;clear hp;go_simp;exact hK.out _ _ rfl eR
        ·refine XStep.yes 13 true rfl (by decide +kernel) rfl rfl fun ac wk hp K hK=>?_;have t29_:=hp.v 17;have q0:=((DB0.out.ext XB.out).ext hp.ext).1;have q1:=((DB1.out.ext XB.out).ext hp.ext).1;have q2:=((DB2.out.ext XB.out).ext hp.ext).1;have q3:=((DB3.out.ext XB.out).ext hp.ext).1;have q4:=((DB4.out.ext XB.out).ext hp.ext).1;have q5:=((DB5.out.ext XB.out).ext hp.ext).1;clear hp;go_simp;exact hK.out _ _ rfl eR
        ·refine XStep.yes 13 true rfl (by decide +kernel) rfl rfl fun ac wk hp K hK=>?_;have t4_:ac.tmps[4]?.getD undef = .pointer (some ⟨b4,0,none⟩):=hp.slot 4 rfl rfl;have q0:=((PB0.out).ext hp.ext).1;have q1:=((PB1.out).ext hp.ext).1;have q2:=((PB2.out).ext hp.ext).1;have q3:=((PB3.out).ext hp.ext).1;have q4:=((PB4.out).ext hp.ext).1;have q5:=((PB5.out).ext hp.ext).1;clear hp;go_simp;exact hK.out _ _ rfl eR
        ·refine XStep.yes 13 true rfl (by decide +kernel) rfl rfl fun ac wk hp K hK=>?_;have t30_:=hp.v 18;have t31_:=hp.v 19;have xe:=Hd hp.ext;clear hp;go_simp;refine (HLS.out _ xe.out).mono ?_;rintro e wk' ⟨rfl,ix⟩;exact hK.out _ _ rfl ix
        ·refine XStep.yes 13 true rfl (by decide +kernel) rfl rfl fun ac wk hp K hK=>?_;have t32_:=hp.v 20;clear hp;go_simp;exact hK.out _ _ (by first | rfl | exact congrArg Value.bool hcd | (apply congrArg Value.bool;simp;omega) | (simp [*];done)) eR
        ·refine XStep.yes 10 false rfl (by decide +kernel) rfl rfl fun ac wk hp K hK=>?_;have t25_:=hp.v 13;have t33_:=hp.v 21;clear hp;go_simp;exact hK.out _ _ rfl eR
        ·refine XStep.op rfl fun ac wk hp K hK=>?_;have t22_:=hp.v 10;have t34_:=hp.v 22;clear hp;go_simp;exact hK.out _ _ rfl eR
       case ht =>
        intro ac v2 hag hext hpost;have z35_:sl ac 35 = .bool false:=hpost 23 (by decide +kernel) rfl;rw[hag.lay];simp only[lay,List.foldl_cons,List.foldl_nil,List.setIfInBounds_toArray,List.set_cons_zero,List.set_cons_succ,z35_];have HEX:=Hd hext;clear hag hpost hext z35_;unfold seqTail;go_wp2_with fail;refine⟨⟨j+1+1,by exact congrArg (Value.int .i64) hw5,LT.out,XE.out.trans (XB.out.trans HEX.out),fun k hk=>?_⟩,by rw[hw5];clear hw5 hwo2 hwo3 hwi hlo1 hli hl1 hcd;simp only[intOf];have:=LT.out;omega⟩
        rcases Nat.lt_succ_iff_lt_or_eq.1 hk with hk | hk
        ·exact HOK.out k hk
        ·subst hk;intro a ha;rw[HAA.out]at ha;obtain rfl:=Option.some.inj ha
         exact⟨HY1.out,of_decide_eq_true HY2.out,fun j2 b hj hb=>by
          obtain rfl:j2=j:=by omega
          rw[HAB_.out]at hb;obtain rfl:=Option.some.inj hb
          rw[HCV.out];exact HCL.out⟩
      ·have hcd:decide (cv≥0)=true:=decide_eq_true (by omega);have HCL:=Hd hcl;clear hcv hcl;refine wp_region_tail [12,13,14,15,16,17,18,19,20,21,22,23,24,25,26,27,28,29,30,31,32,33,34,35] [] (fun ix__=>([Sx.val (.pointer (some ⟨b4,3,none⟩)),Sx.val (.agg #[.bool sA,.slice qA cA dA,.slice rA eA fA]),Sx.val (.bool true),Sx.val (.bool false),Sx.val (.bool false),Sx.val (.pointer (some ⟨b4,3,none⟩)),Sx.val (.agg #[.bool sA,.slice qA cA dA,.slice rA eA fA]),Sx.val (.bool true),Sx.val (.bool false),Sx.val (.bool false),Sx.val (.bool false),Sx.val (.int .i64 ((j+1:Nat):Int)),Sx.val (.bool true),Sx.val (.bool true),Sx.val (.slice (some ⟨blA,offA,none⟩) m c0),Sx.val (.int .i64 ((j+1:Nat):Int)),Sx.val (.int .i64 (j:Int)),Sx.val (.pointer (some ⟨blA,offA+j*6,none⟩)),Sx.val (.agg #[.int .u8 (kB:Int),.int .i64 nB,.slice pB xB yB,.bool sB,.slice qB cB dB,.slice rB eB fB]),Sx.val (.agg #[.int .u8 (kA:Int),.int .i64 nA,.slice pA xA yA,.bool sA,.slice qA cA dA,.slice rA eA fA]),Sx.val (.int .i64 cv),Sx.val (.bool true),Sx.val (.bool true),Sx.val (.bool true)]:List Sx).getD ix__ (Sx.val undef)) (by kernel_rfl) (by kernel_rfl) ?hs ?ht
       case hs =>
        refine⟨?_,?_,?_,?_,?_,?_,?_,?_,?_,?_,?_,?_,?_,?_,?_,?_,?_,?_,?_,?_,?_,?_,?_,?_,trivial⟩
        ·refine XStep.op rfl fun ac wk hp K hK=>?_;have t4_:ac.tmps[4]?.getD undef = .pointer (some ⟨b4,0,none⟩):=hp.slot 4 rfl rfl;clear hp;go_simp;exact hK.out _ _ rfl eR
        ·refine XStep.op rfl fun ac wk hp K hK=>?_;have t12_:=hp.v 0;have q0:=((PB3.out).ext hp.ext).1;have q1:=((PB4.out).ext hp.ext).1;have q2:=((PB5.out).ext hp.ext).1;clear hp;go_simp;exact hK.out _ _ rfl eR
        ·refine XStep.op rfl fun ac wk hp K hK=>?_;have t13_:=hp.v 1;have xe:=Hd hp.ext;clear hp;go_simp;refine (HMY.out _ xe.out).mono ?_;rintro e wk' ⟨rfl,ix⟩;exact hK.out _ _ rfl ix
        ·refine XStep.op rfl fun ac wk hp K hK=>?_;have t14_:=hp.v 2;clear hp;go_simp;exact hK.out _ _ rfl eR
        ·refine XStep.op rfl fun ac wk hp K hK=>?_;have t15_:=hp.v 3;clear hp;go_simp;exact hK.out _ _ rfl eR
        ·refine XStep.yes 4 false rfl (by decide +kernel) rfl rfl fun ac wk hp K hK=>?_;have t4_:ac.tmps[4]?.getD undef = .pointer (some ⟨b4,0,none⟩):=hp.slot 4 rfl rfl;clear hp;go_simp;exact hK.out _ _ rfl eR
        ·refine XStep.yes 4 false rfl (by decide +kernel) rfl rfl fun ac wk hp K hK=>?_;have t17_:=hp.v 5;have q0:=((PB3.out).ext hp.ext).1;have q1:=((PB4.out).ext hp.ext).1;have q2:=((PB5.out).ext hp.ext).1;clear hp;go_simp;exact hK.out _ _ rfl eR
        ·refine XStep.yes 4 false rfl (by decide +kernel) rfl rfl fun ac wk hp K hK=>?_;have t18_:=hp.v 6;have xe:=Hd hp.ext;clear hp;go_simp;refine (HAB.out _ xe.out).mono ?_;rintro e wk' ⟨rfl,ix⟩;exact hK.out _ _ rfl ix
        ·refine XStep.yes 4 false rfl (by decide +kernel) rfl rfl fun ac wk hp K hK=>?_;have t19_:=hp.v 7;clear hp;go_simp;exact hK.out _ _ rfl eR
        ·refine XStep.op rfl fun ac wk hp K hK=>?_;have t16_:=hp.v 4;have t20_:=hp.v 8;clear hp;go_simp;exact hK.out _ _ rfl eR
        ·refine XStep.op rfl fun ac wk hp K hK=>?_;have t21_:=hp.v 9;clear hp;go_simp;exact hK.out _ _ rfl eR
        ·refine XStep.yes 10 false rfl (by decide +kernel) rfl rfl fun ac wk hp K hK=>?_;have t3_:ac.tmps[3]?.getD undef = .int .i64 ((j+1:Nat):Int):=hp.slot 3 rfl rfl;clear hp;go_simp;exact hK.out _ _ rfl eR
        ·refine XStep.yes 10 false rfl (by decide +kernel) rfl rfl fun ac wk hp K hK=>?_;have t23_:=hp.v 11;clear hp;go_simp;exact hK.out _ _ (by first | rfl | (apply congrArg Value.bool;simp;done) | (apply congrArg Value.bool;simp;omega) | (simp [*];done)) eR
        ·refine XStep.yes 10 false rfl (by decide +kernel) rfl rfl fun ac wk hp K hK=>?_;have t24_:=hp.v 12;clear hp;go_simp;exact hK.out _ _ rfl eR
        ·refine XStep.yes 13 true rfl (by decide +kernel) rfl rfl fun ac wk hp K hK=>?_;have t0_:ac.tmps[0]?.getD undef = .slice (some ⟨blA,offA,none⟩) m c0:=hp.slot 0 rfl rfl;clear hp;go_simp;exact hK.out _ _ rfl eR
        ·refine XStep.yes 13 true rfl (by decide +kernel) rfl rfl fun ac wk hp K hK=>?_;have t3_:ac.tmps[3]?.getD undef = .int .i64 ((j+1:Nat):Int):=hp.slot 3 rfl rfl;clear hp;go_simp;exact hK.out _ _ rfl eR
        ·refine XStep.yes 13 true rfl (by decide +kernel) rfl rfl fun ac wk hp K hK=>?_;have t27_:=hp.v 15;clear hp;go_simp;exact hK.out _ _ (by first | rfl | (apply congrArg (Value.int .i64);first | exact hwo2 | simp [hwo2,hwo3])) eR
        ·refine XStep.yes 13 true rfl (by decide +kernel) rfl rfl fun ac wk hp K hK=>?_;have t26_:=hp.v 14;have t28_:=hp.v 16;clear hp;go_simp;exact hK.out _ _ rfl eR
        ·refine XStep.yes 13 true rfl (by decide +kernel) rfl rfl fun ac wk hp K hK=>?_;have t29_:=hp.v 17;have q0:=((DB0.out.ext XB.out).ext hp.ext).1;have q1:=((DB1.out.ext XB.out).ext hp.ext).1;have q2:=((DB2.out.ext XB.out).ext hp.ext).1;have q3:=((DB3.out.ext XB.out).ext hp.ext).1;have q4:=((DB4.out.ext XB.out).ext hp.ext).1;have q5:=((DB5.out.ext XB.out).ext hp.ext).1;clear hp;go_simp;exact hK.out _ _ rfl eR
        ·refine XStep.yes 13 true rfl (by decide +kernel) rfl rfl fun ac wk hp K hK=>?_;have t4_:ac.tmps[4]?.getD undef = .pointer (some ⟨b4,0,none⟩):=hp.slot 4 rfl rfl;have q0:=((PB0.out).ext hp.ext).1;have q1:=((PB1.out).ext hp.ext).1;have q2:=((PB2.out).ext hp.ext).1;have q3:=((PB3.out).ext hp.ext).1;have q4:=((PB4.out).ext hp.ext).1;have q5:=((PB5.out).ext hp.ext).1;clear hp;go_simp;exact hK.out _ _ rfl eR
        ·refine XStep.yes 13 true rfl (by decide +kernel) rfl rfl fun ac wk hp K hK=>?_;have t30_:=hp.v 18;have t31_:=hp.v 19;have xe:=Hd hp.ext;clear hp;go_simp;refine (HLS.out _ xe.out).mono ?_;rintro e wk' ⟨rfl,ix⟩;exact hK.out _ _ rfl ix
        ·refine XStep.yes 13 true rfl (by decide +kernel) rfl rfl fun ac wk hp K hK=>?_;have t32_:=hp.v 20;clear hp;go_simp;exact hK.out _ _ (by first | rfl | exact congrArg Value.bool hcd | (apply congrArg Value.bool;simp;omega) | (simp [*];done)) eR
        ·refine XStep.yes 10 false rfl (by decide +kernel) rfl rfl fun ac wk hp K hK=>?_;have t25_:=hp.v 13;have t33_:=hp.v 21;clear hp;go_simp;exact hK.out _ _ rfl eR
        ·refine XStep.op rfl fun ac wk hp K hK=>?_;have t22_:=hp.v 10;have t34_:=hp.v 22;clear hp;go_simp;exact hK.out _ _ rfl eR
       case ht =>
        intro ac v2 hag hext hpost;have z35_:sl ac 35 = .bool true:=hpost 23 (by decide +kernel) rfl;rw[hag.lay];simp only[lay,List.foldl_cons,List.foldl_nil,List.setIfInBounds_toArray,List.set_cons_zero,List.set_cons_succ,z35_];have HEX:=Hd hext;clear hag hpost hext z35_
        obtain rfl:c=false:=by
         cases hcc:c
         ·rfl
         ·have h:=HOI.out hcc aA HAA.out;exact absurd (by have:=h.2.2 j aB rfl HAB_.out;rwa [HCV.out]at this) HCL.out
        unfold seqTail;go_wp2_with fail;go_ret;exact⟨rfl,XE.out.trans (XB.out.trans HEX.out)⟩
  ·have hli:¬ (i:Int)<(m:Int):=by omega
   have hct:c=true:=HC.out.2 fun k hk=>HOK.out k (by rw[HM.out]at hk;omega)
   subst hct;clear hlt hi;go_wp2_with fail;go_ret;exact⟨rfl,XE.out⟩
end Go.Proofs.YtfofjalebhajhaaGreatDoor
