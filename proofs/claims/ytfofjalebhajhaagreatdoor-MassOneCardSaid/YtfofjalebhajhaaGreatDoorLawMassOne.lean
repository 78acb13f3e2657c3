/- MassOne answers true. -/
import Derived.Test.YtfofjalebhajhaaGreatDoorAwake24
import Derived.Test.YtfofjalebhajhaaGreatDoorMass21
namespace Go.Proofs.YtfofjalebhajhaaGreatDoor
open Go Go.RowKit
def Sx.isQ (q:Rat):Sx:=⟨fun v w => ∃ (b:Bool) (p1:Option Addr) (n1 c1:Nat) (p2:Option Addr) (n2 c2:Nat),v = .agg #[.bool b,.slice p1 n1 c1,.slice p2 n2 c2]∧IsR w b (.slice p1 n1 c1) (.slice p2 n2 c2) q.num.natAbs q.den q,
 fun v w w' ⟨b,p1,n1,c1,p2,n2,c2,h1,h2⟩ x=>⟨b,p1,n1,c1,p2,n2,c2,h1,h2.ext x⟩⟩
def SameAt (Ls:List Ra) (i k:Nat):Prop:=∀ a b,Ls[i]? = some a→Ls[k]? = some b→cmpV a.1 b.1≠0∨a.1=b.1
theorem sameAt_plain {Ls:List Ra}(h:∀ i,i<Ls.length → ∀ k,k<i→SameAt Ls i k):PlainP (Ls.map ptRa):=by
 intro p hp q hq hc;obtain⟨a,ha,rfl⟩:=List.mem_map.1 hp;obtain⟨b,hb,rfl⟩:=List.mem_map.1 hq;obtain⟨i,hi⟩:=List.getElem?_of_mem ha;obtain⟨k,hk⟩:=List.getElem?_of_mem hb;have hil:=(List.getElem?_eq_some_iff.1 hi).1;have hkl:=(List.getElem?_eq_some_iff.1 hk).1;have hc:cmpV a.1 b.1=0:=hc
 rcases Nat.lt_trichotomy i k with h1 | h1 | h1
 ·rcases h k hkl i h1 b a hk hi with h2 | h2
  ·have:=cmpV_swap a.1 b.1;omega
  ·exact h2.symm
 ·subst h1;rw[hi]at hk;obtain rfl:=Option.some.inj hk;rfl
 ·rcases h i hil k h1 a b hi hk with h2 | h2
  ·exact absurd hc h2
  ·exact h2
set_option maxHeartbeats 8000000 in
set_option maxRecDepth 100000 in
theorem massOne_calls {w:World}{v:Value}{Ls:List Ra}(h:SlS w v Ls) (y:Nat) (hy:y<256):Calls Tryz.prog 4 #[v,.int .u8 (y:Int)] w (Yes w):=by
 have HSL:=Hd h;have HY:=Hd hy;obtain⟨p,c,rfl,g1,g2,g3,g4⟩:=h
 obtain⟨n,hn⟩:∃ n,Ls.length=n:=⟨_,rfl⟩
 have H4:=Hd g4;have HM:=Hd hn;rw[hn]at HSL ⊢;clear g1 g2 g3 g4 hn hy
 go_enter Tryz.func4,Tryz.ntmps4
 go_wp2_with fail
 have HLL:Hid (SlL (w.alloc (.cells #[.slice p n c] 25)) (.slice (some ⟨w.heap.size,0,none⟩) 1 1) [Ls]):=⟨_,rfl,fun i L hi=>by
  match i,hi with
  | 0,hi=>simp only[List.getElem?_cons_zero,Option.some.injEq]at hi;subst hi;exact⟨_,at_new rfl,HSL.out.ext (eR.alloc _)⟩
  | i+1,hi=>simp at hi⟩
 refine (long24_calls HLL.out (by simp)).mono ?_;rintro z w1 ⟨lg,rfl,x1,hsh⟩;have X1:Hid (Ext w w1):=(eR.alloc _).trans x1;have HSH:=Hd hsh;clear x1 hsh HLL
 cases lg
 case true =>
  go_wp2_with fail;refine (awake24_calls _).mono ?_;rintro z w2 ⟨rfl,x2⟩;have X2:=Hd (X1.out.trans x2);clear x2;go_wp2_with fail;go_ret;exact⟨rfl,X2.out⟩
 obtain⟨hl40,hss⟩:=HSH.out rfl;have hl40:Ls.length≤40:=hl40
 have H40:Hid (n≤40):=by show _≤_;rw[←HM.out];exact hl40
 have SS:Hid (ShortS Ls):=hss Ls (by simp);clear hl40 hss HSH;obtain⟨D,hD0,hD1,hD2⟩:=common_dn (Ls.map ptRa) (short_len HSL.out SS.out);rw[List.length_map,HM.out]at hD1 hD2
 obtain⟨X,hX⟩:∃ X,Bs^(6*n)=X:=⟨_,rfl⟩
 rw[hX]at hD1 hD2
 have hXK:X≤Bs^240:=by rw[←hX];exact Nat.pow_le_pow_right Bs_pos (by have:=H40.out;omega)
 have h3:(3:Nat)≤Bs:=by rw[Bs_def];decide
 have hBig:∀ q,q≤1600→q*X<Bs^241:=fun q hq=>by
  have e:Bs^241=Bs^240*Bs:=rfl;have hq:q<Bs:=small_Bs (by omega);rw[e,Nat.mul_comm];exact Nat.lt_of_le_of_lt (Nat.mul_le_mul_right q hXK) (Nat.mul_lt_mul_of_pos_left hq (Nat.pow_pos Bs_pos))
 have HD0:=Hd hD0
 have HD:Hid (D<Bs^241):=by have:=hBig 1 (by decide);show _<_;omega
 have HBG:=Hd hBig;have HDN:=Hd hD2
 have HLM:Hid (∀ a∈Ls,a.2.2.1.length≤6∧a.2.2.2.length≤6):=fun a ha=>(SS.out a ha).1
 have HSZ:Hid (∀ a∈Ls,szV a.1≤1000000):=fun a ha=>Nat.le_trans (SS.out a ha).2 (by decide)
 clear hD0 hD1 hD2 hX hXK h3 hBig;go_wp2_with fail;refine (awake24_calls _).mono ?_;rintro z w2 ⟨rfl,x2⟩;have X2:=Hd (X1.out.trans x2);clear x2;go_wp2_with fail;refine (of_calls24 (HSL.out.ext X2.out) (D:=D) (X:=X) (k:=241) (K:=6) (by decide) (by decide) HLM.out (by rw[HM.out];have:=H40.out;omega) HSZ.out HDN.out HD0.out HD.out (by rw[HM.out];exact HBG.out n (by have:=H40.out;omega)) (by decide) (by decide)).mono ?_;rintro z w3 ⟨vm,out,rfl,hg,hs,x3⟩;have HG:=Hd hg;have X3:=Hd (X2.out.trans x3);obtain⟨mp,mc,rfl⟩:=hs.shape;have HS:=Hd hs;have hol:=hg.len;rw[List.length_map,HM.out]at hol
 obtain⟨m,hm⟩:∃ m,out.length=m:=⟨_,rfl⟩
 rw[hm]at hol HS ⊢;have HOM:=Hd hm;have HOL:Hid (m≤40):=Nat.le_trans hol H40.out
 have HDM:Hid (∀ a∈out,Dn D (40*X) a.2):=fun a ha=>(hg.dn HDN.out a ha).le (Nat.mul_le_mul_right X (by rw[List.length_map,HM.out];exact H40.out))
 have H40X:Hid (40*X<Bs^241):=HBG.out 40 (by decide)
 have HLO:Hid (∀ a∈out,LenR 241 a.2):=fun a ha=>(HDM.out a ha).len HD0.out HD.out H40X.out (by decide)
 have HMX:Hid (out.length*(40*X)<Bs^241):=by
  show _<_
  rw[hm,←Nat.mul_assoc];exact HBG.out _ (Nat.le_trans (Nat.mul_le_mul_right 40 HOL.out) (by decide))
 have HSO:Hid (∀ a∈out,szV a.1≤1000000):=fun a ha=>by
  obtain⟨q,hq⟩:=hg.mem ha;obtain⟨b,hb,e⟩:=List.mem_map.1 hq;have:=HSZ.out b hb;rw[show b.1=a.1 from congrArg Prod.fst e]at this;exact this
 clear x3 hg hs hol hm;go_wp2_with fail;refine (mayM_calls HS.out HG.out.mass (K:=241) (by decide) (by decide) HLO.out).mono ?_;rintro z w4 ⟨rfl,x4⟩;have X4:=Hd x4;clear x4;go_wp2_with fail;refine (ofM_calls (HS.out.ext X4.out) (D:=D) (X:=40*X) (k:=241) (K:=241) (by decide) (by decide) HLO.out (by rw[HOM.out];have:=HOL.out;omega) HSO.out HDM.out HD0.out HD.out HMX.out (by decide) (by decide)).mono ?_;rintro z w5 ⟨v5,out5,rfl,hg5,hs5,x5⟩;have e5:=hg5.self HG.out.mass;rw[e5]at hs5;have S5:=Hd hs5;have X5:=Hd (X4.out.trans x5);clear x5 hg5 hs5 e5;go_wp2_with fail;refine (isM_calls S5.out (HS.out.ext X5.out) rfl).mono ?_;rintro z w6 ⟨rfl,x6⟩;have X6:=Hd (X5.out.trans x6);clear x6;go_wp2_with fail
 obtain⟨ml,hml⟩:∃ b:Bool,b=true↔MayS Ls:=by
  by_cases hx:MayS Ls
  ·exact⟨true,⟨fun _=>hx,fun _=>rfl⟩⟩
  ·exact⟨false,⟨fun h=>absurd h (by decide),fun h=>absurd h hx⟩⟩
 have HML:=Hd hml;refine (mmay_calls (HSL.out.ext (X3.out.trans X6.out)) (K:=6) (by decide) (by decide) HLM.out ml hml).mono ?_;rintro z w7 ⟨rfl,x7⟩;have X7:=Hd (X6.out.trans x7);clear x7 hml
 cases ml
 case' true =>
  have HEQ:Hid (out.map raPt=Ls):=by
   have h1:=HML.out.1 rfl
   show _=_
   rw[HG.out.self h1.mass];exact h1.eq
  go_wp2_with fail;refine (is_calls (HS.out.ext X7.out) (HSL.out.ext (X3.out.trans X7.out)) true ⟨fun _=>HEQ.out,fun _=>rfl⟩).mono ?_;rintro z w8 ⟨rfl,x8⟩;have X8:=Hd (X7.out.trans x8);clear x8 HEQ X7;go_wp2_with fail
 case' false =>
  obtain⟨w8,hw8⟩:∃ x,x=w7:=⟨_,rfl⟩
  subst hw8;have X8:=X7;clear X7;go_wp2_with fail
 all_goals
  go_loopw [6,7,8] (fun v6 v7 v8 wr => ∃ (i:Nat) (pl:Bool) (Cs:List (List Value)) (pa:Option Addr) (ca:Nat),v8 = .int .i64 (i:Int)∧v7 = .bool pl∧v6 = .slice pa Cs.length ca∧i≤n∧Ext w8 wr∧AllR w8.heap.size (.slice pa Cs.length ca) Cs wr∧AlR w Cs (turnL Ls y i)∧Hid (pl=true → ∀ i',i'<i → ∀ k,k<i'→SameAt Ls i' k)) (fun _ _ v8 _=>n - (intOf v8).toNat)
  case atStart=>exact⟨0,true,[],none,0,rfl,rfl,rfl,Nat.zero_le _,Ext.refl _,AllR.nil _ _,⟨rfl,fun i cs p h=>by simp at h⟩,fun _ i' hi=>absurd hi (Nat.not_lt_zero _)⟩
  case round =>
   rename World=>wr
   obtain⟨i,pl,Cs,pa,ca,rfl,rfl,rfl,hi,hx,hA,hal,hpl⟩:=hrel;have XR:=Hd hx;have HA:=Hd hA;have HAL:=Hd hal;have HPL:=hpl;clear hx hA hal hpl
   by_cases hlt:i<n
   ·have hli:(i:Int)<(n:Int):=by omega
    have hl1:(i:Int)+1≤(n:Int):=by omega
    have m5:=H40.out;have hy8:=HY.out
    have hwi:IntKind.i64.wrap ((i:Int)+1)=((i+1:Nat):Int):=by rw[IntWalk.i64_in _ (by omega)];omega
    have hwy:IntKind.i64.wrap (y:Int)=(y:Int):=IntWalk.i64_in _ (by omega);have hws:IntKind.i64.wrap ((i:Int)+(y:Int))=(i:Int)+(y:Int):=IntWalk.i64_in _ (by omega)
    have hws2:wrap64 ((i:Int)+(y:Int))=(i:Int)+(y:Int):=by unfold wrap64;omega
    obtain⟨r,hr⟩:∃ r,(i+y) % n=r:=⟨_,rfl⟩
    have hrn:r<n:=by rw[←hr];exact Nat.mod_lt _ (by omega)
    have hrl:(r:Int)<(n:Int):=by omega
    have hrt:((i:Int)+(y:Int)).tmod (n:Int)=(r:Int):=by rw[←hr,show (i:Int)+(y:Int)=((i+y:Nat):Int) by omega];rfl
    have hrw:IntKind.i64.wrap (r:Int)=(r:Int):=IntWalk.i64_in _ (by omega)
    have hn0:¬ (n:Int)=0:=by omega
    have LT:=Hd hlt
    obtain⟨aA,haA⟩:∃ y,Ls[r]? = some y:=⟨_,List.getElem?_eq_getElem (by rw[HM.out];exact hrn)⟩
    have HAA:=Hd haA;obtain⟨blA,offA,csA,hpA,hraA,hatA⟩:=H4.out (r) aA haA;have HRAA:=Hd hraA;obtain⟨kA,nA,pA,xA,yA,qA,cA,dA,rA,eA,fA,rfl,hviA,hlaA,hldA⟩:=hraA;have HVA:=Hd (hviA.ext (X3.out.trans (X8.out.trans XR.out)));have HLA:=Hd (hlaA.ext (X3.out.trans (X8.out.trans XR.out)));have HDA:=Hd (hldA.ext (X3.out.trans (X8.out.trans XR.out)))
    obtain⟨sA,hsgA⟩:∃ s,aA.2.1=s:=⟨_,rfl⟩
    rw[hsgA]at hatA;have HSGA:=Hd hsgA;have DA0:Hid (At blA (offA+r*6) (.int .u8 (kA:Int)) _):=(hatA 0 (.int .u8 (kA:Int)) rfl).ext (X3.out.trans (X8.out.trans XR.out));have DA1:Hid (At blA (offA+r*6+1) (.int .i64 nA) _):=(hatA 1 (.int .i64 nA) rfl).ext (X3.out.trans (X8.out.trans XR.out));have DA2:Hid (At blA (offA+r*6+2) (.slice pA xA yA) _):=(hatA 2 (.slice pA xA yA) rfl).ext (X3.out.trans (X8.out.trans XR.out));have DA3:Hid (At blA (offA+r*6+3) (.bool sA) _):=(hatA 3 (.bool sA) rfl).ext (X3.out.trans (X8.out.trans XR.out));have DA4:Hid (At blA (offA+r*6+4) (.slice qA cA dA) _):=(hatA 4 (.slice qA cA dA) rfl).ext (X3.out.trans (X8.out.trans XR.out));have DA5:Hid (At blA (offA+r*6+5) (.slice rA eA fA) _):=(hatA 5 (.slice rA eA fA) rfl).ext (X3.out.trans (X8.out.trans XR.out));clear haA hatA hviA hlaA hldA hsgA;subst hpA;have HR:Hid ((i+y) % n=r):=hr;have h0:=DA0.out.1;have h1:=DA1.out.1;have h2:=DA2.out.1;have h3:=DA3.out.1;have h4:=DA4.out.1;have h5:=DA5.out.1;have fb:=DA5.out.2
    have HCL:Hid (Cs.length≤100000):=by
     show _≤_
     rw[HAL.out.1];refine Nat.le_trans (List.length_filterMap_le _ _) ?_;rw[List.length_range];have:=H40.out;omega
    clear hi m5 hy8 hlt hr hrn
    go_wp2_with (at_builtin;refine append_raw (B:=w8.heap.size) (R:=Cs) (e:=[.int .u8 (kA:Int),.int .i64 nA,.slice pA xA yA,.bool sA,.slice qA cA dA,.slice rA eA fA]) rfl _ _ 25 Tryz.underlying25 rfl rfl rfl rfl rfl (by first | rfl | exact (Array.size_push ..).symm | simp) rfl HA.out rfl (by intro u hu;simp only[List.mem_cons,List.not_mem_nil,or_false]at hu;rcases hu with rfl | rfl | rfl | rfl | rfl | rfl <;> rfl) HCL.out XR.out.size ?_;intro v' w' hv' hb';have HV':=Hd hv';have HB':=Hd hb';clear hv' hb')
    obtain⟨pb,cb,hvs⟩:=HV'.out.slice;have HV2:=HV'.out;rw[hvs]at HV2 ⊢;have HVR:=Hd HV2;have XR2:Hid (Ext w8 w'):=Ext.below XR.out HB'.out
    have HRA:Hid (RaS w [.int .u8 (kA:Int),.int .i64 nA,.slice pA xA yA,.bool sA,.slice qA cA dA,.slice rA eA fA] aA):=by
     have h1:=HRAA.out;rw[HSGA.out]at h1;exact h1
    have HAL2:Hid (AlR w (Cs ++ [[.int .u8 (kA:Int),.int .i64 nA,.slice pA xA yA,.bool sA,.slice qA cA dA,.slice rA eA fA]]) (turnL Ls y (i+1))):=by
     show AlR _ _ _
     rw[turnL_succ (a:=aA) (by rw[HM.out,HR.out];exact HAA.out)];exact HAL.out.snoc HRA.out
    obtain⟨Cs2,hCs2⟩:∃ C,Cs ++ [[.int .u8 (kA:Int),.int .i64 nA,.slice pA xA yA,.bool sA,.slice qA cA dA,.slice rA eA fA]]=C:=⟨_,rfl⟩
    rw[hCs2]at HVR HAL2 ⊢;clear HV2 hvs hCs2 h0 h1 h2 h3 h4 h5 fb HV' HB'
    go_loopw [7,9] (fun v7 v9 wi => ∃ (k:Nat) (pl2:Bool),v9 = .int .i64 (k:Int)∧v7 = .bool pl2∧k≤i∧Ext w' wi∧Hid (pl2=true→(∀ i',i'<i → ∀ k,k<i'→SameAt Ls i' k) ∧ ∀ k',k'<k→SameAt Ls i k')) (fun _ v9 _=>i - (intOf v9).toNat)
    case atStart=>exact⟨0,pl,rfl,rfl,Nat.zero_le _,Ext.refl _,fun e=>⟨HPL.out e,fun k' hk=>absurd hk (Nat.not_lt_zero _)⟩⟩
    case round =>
     rename World=>wi
     obtain⟨k,pl2,rfl,rfl,hk,hx,HP2⟩:=hrel;have XI:=Hd hx;clear hx
     by_cases hki:k<i
     ·have hlk:(k:Int)<(i:Int):=by omega
      have hlk1:(k:Int)+1≤(i:Int):=by omega
      have m5:=H40.out;have hkn:k<n:=Nat.lt_trans hki LT.out
      have hknl:(k:Int)<(n:Int):=by omega
      have hwk:IntKind.i64.wrap ((k:Int)+1)=((k+1:Nat):Int):=by have:=LT.out;rw[IntWalk.i64_in _ (by omega)];omega
      have LTK:=Hd hki;clear DA0 DA1 DA2 DA3 DA4 DA5
      obtain⟨aB,haB⟩:∃ y,Ls[i]? = some y:=⟨_,List.getElem?_eq_getElem (by rw[HM.out];exact LT.out)⟩
      have HAB:=Hd haB;obtain⟨blB,offB,csB,hpB,hraB,hatB⟩:=H4.out (i) aB haB;obtain⟨kB,nB,pB,xB,yB,qB,cB,dB,rB,eB,fB,rfl,hviB,hlaB,hldB⟩:=hraB;have HVB:=Hd (hviB.ext (X3.out.trans (X8.out.trans (XR2.out.trans XI.out))));have HLB:=Hd (hlaB.ext (X3.out.trans (X8.out.trans (XR2.out.trans XI.out))));have HDB:=Hd (hldB.ext (X3.out.trans (X8.out.trans (XR2.out.trans XI.out))))
      obtain⟨sB,hsgB⟩:∃ s,aB.2.1=s:=⟨_,rfl⟩
      rw[hsgB]at hatB;have HSGB:=Hd hsgB;have DB0:Hid (At blB (offB+i*6) (.int .u8 (kB:Int)) _):=(hatB 0 (.int .u8 (kB:Int)) rfl).ext (X3.out.trans (X8.out.trans (XR2.out.trans XI.out)));have DB1:Hid (At blB (offB+i*6+1) (.int .i64 nB) _):=(hatB 1 (.int .i64 nB) rfl).ext (X3.out.trans (X8.out.trans (XR2.out.trans XI.out)));have DB2:Hid (At blB (offB+i*6+2) (.slice pB xB yB) _):=(hatB 2 (.slice pB xB yB) rfl).ext (X3.out.trans (X8.out.trans (XR2.out.trans XI.out)));have DB3:Hid (At blB (offB+i*6+3) (.bool sB) _):=(hatB 3 (.bool sB) rfl).ext (X3.out.trans (X8.out.trans (XR2.out.trans XI.out)));have DB4:Hid (At blB (offB+i*6+4) (.slice qB cB dB) _):=(hatB 4 (.slice qB cB dB) rfl).ext (X3.out.trans (X8.out.trans (XR2.out.trans XI.out)));have DB5:Hid (At blB (offB+i*6+5) (.slice rB eB fB) _):=(hatB 5 (.slice rB eB fB) rfl).ext (X3.out.trans (X8.out.trans (XR2.out.trans XI.out)));clear haB hatB hviB hlaB hldB hsgB
      obtain⟨aC,haC⟩:∃ y,Ls[k]? = some y:=⟨_,List.getElem?_eq_getElem (by rw[HM.out];exact hkn)⟩
      have HAC:=Hd haC;obtain⟨blC,offC,csC,hpC,hraC,hatC⟩:=H4.out (k) aC haC;obtain⟨kC,nC,pC,xC,yC,qC,cC,dC,rC,eC,fC,rfl,hviC,hlaC,hldC⟩:=hraC;have HVC:=Hd (hviC.ext (X3.out.trans (X8.out.trans (XR2.out.trans XI.out))));have HLC:=Hd (hlaC.ext (X3.out.trans (X8.out.trans (XR2.out.trans XI.out))));have HDC:=Hd (hldC.ext (X3.out.trans (X8.out.trans (XR2.out.trans XI.out))))
      obtain⟨sC,hsgC⟩:∃ s,aC.2.1=s:=⟨_,rfl⟩
      rw[hsgC]at hatC;have HSGC:=Hd hsgC;have DC0:Hid (At blC (offC+k*6) (.int .u8 (kC:Int)) _):=(hatC 0 (.int .u8 (kC:Int)) rfl).ext (X3.out.trans (X8.out.trans (XR2.out.trans XI.out)));have DC1:Hid (At blC (offC+k*6+1) (.int .i64 nC) _):=(hatC 1 (.int .i64 nC) rfl).ext (X3.out.trans (X8.out.trans (XR2.out.trans XI.out)));have DC2:Hid (At blC (offC+k*6+2) (.slice pC xC yC) _):=(hatC 2 (.slice pC xC yC) rfl).ext (X3.out.trans (X8.out.trans (XR2.out.trans XI.out)));have DC3:Hid (At blC (offC+k*6+3) (.bool sC) _):=(hatC 3 (.bool sC) rfl).ext (X3.out.trans (X8.out.trans (XR2.out.trans XI.out)));have DC4:Hid (At blC (offC+k*6+4) (.slice qC cC dC) _):=(hatC 4 (.slice qC cC dC) rfl).ext (X3.out.trans (X8.out.trans (XR2.out.trans XI.out)));have DC5:Hid (At blC (offC+k*6+5) (.slice rC eC fC) _):=(hatC 5 (.slice rC eC fC) rfl).ext (X3.out.trans (X8.out.trans (XR2.out.trans XI.out)));clear haC hatC hviC hlaC hldC hsgC
      injection hpB with hpB
      injection hpB with hpB1 hpB2
      subst hpB1 hpB2
      injection hpC with hpC
      injection hpC with hpC1 hpC2
      subst hpC1 hpC2
      obtain⟨cv,hcv⟩:∃ c,cmpV aB.1 aC.1=c:=⟨_,rfl⟩
      have HCV:=Hd hcv
      obtain⟨sb,hsb⟩:∃ b,sameV aB.1 aC.1=b:=⟨_,rfl⟩
      have HSB:=Hd hsb
      have HCM:Hid (∀ X,Ext wi X→Calls Tryz.prog 10 #[.agg #[.int .u8 (kB:Int),.int .i64 nB,.slice pB xB yB],.agg #[.int .u8 (kC:Int),.int .i64 nC,.slice pC xC yC]] X fun e w'=>e = .returned (.int .i64 cv)∧Ext X w'):=fun X hX=>by
       rw[←hcv];exact vcmp_calls _ _ _ _ _ (HVB.out.ext hX) (HVC.out.ext hX)
      have HSM:Hid (∀ X,Ext wi X→Calls Tryz.prog 20 #[.agg #[.int .u8 (kB:Int),.int .i64 nB,.slice pB xB yB],.agg #[.int .u8 (kC:Int),.int .i64 nC,.slice pC xC yC]] X fun e w'=>e = .returned (.bool sb)∧Ext X w'):=fun X hX=>by
       rw[←hsb];exact vsame_calls _ _ _ _ _ (HVB.out.ext hX) (HVC.out.ext hX)
      have HSA:Hid (∀ b:Prop,(b→cmpV aB.1 aC.1≠0∨aB.1=aC.1)→b→SameAt Ls i k):=fun b hb h a c ha hc=>by
       rw[HAB.out]at ha;rw[HAC.out]at hc;obtain rfl:=Option.some.inj ha;obtain rfl:=Option.some.inj hc;exact hb h
      clear hcv hsb hk m5 hki hkn
      go_upto_region 15 with fail
      cases pl2
      case false =>
       refine wp_region_tail [65,66,67,68,69,70,71,72,73,74,75,76,77,78,79,80,81,82,83,84,85,86,87,88,89,90,91,92] [28] (fun ix__=>([Sx.val (.bool false),Sx.val (.bool false),Sx.val undef,Sx.val undef,Sx.val undef,Sx.val undef,Sx.val undef,Sx.val undef,Sx.val undef,Sx.val undef,Sx.val undef,Sx.val undef,Sx.val undef,Sx.val undef,Sx.val undef,Sx.val undef,Sx.val undef,Sx.val undef,Sx.val undef,Sx.val undef,Sx.val undef,Sx.val undef,Sx.val undef,Sx.val undef,Sx.val undef,Sx.val undef,Sx.val undef,Sx.val (.bool false)]:List Sx).getD ix__ (Sx.val undef)) (by kernel_rfl) (by kernel_rfl) ?hs ?ht
       case hs =>
        refine⟨?_,?_,?_,?_,?_,?_,?_,?_,?_,?_,?_,?_,?_,?_,?_,?_,?_,?_,?_,?_,?_,?_,?_,?_,?_,?_,?_,?_,fun _ => .inl rfl,trivial⟩
        ·refine XStep.op rfl fun ac wk hp K hK=>?_;have t7_:ac.tmps[7]?.getD undef = .bool false:=hp.slot 7 rfl rfl;clear hp;go_simp;exact hK.out _ _ rfl eR
        ·refine XStep.op rfl fun ac wk hp K hK=>?_;have t65_:=hp.v 0;clear hp;go_simp;exact hK.out _ _ rfl eR
        ·exact XStep.no 1 true rfl (by decide +kernel) rfl (.inl rfl) rfl
        ·exact XStep.no 1 true rfl (by decide +kernel) rfl (.inl rfl) rfl
        ·exact XStep.no 1 true rfl (by decide +kernel) rfl (.inl rfl) rfl
        ·exact XStep.no 1 true rfl (by decide +kernel) rfl (.inl rfl) rfl
        ·exact XStep.no 1 true rfl (by decide +kernel) rfl (.inl rfl) rfl
        ·exact XStep.no 1 true rfl (by decide +kernel) rfl (.inl rfl) rfl
        ·exact XStep.no 1 true rfl (by decide +kernel) rfl (.inl rfl) rfl
        ·exact XStep.no 1 true rfl (by decide +kernel) rfl (.inl rfl) rfl
        ·exact XStep.no 1 true rfl (by decide +kernel) rfl (.inl rfl) rfl
        ·exact XStep.no 1 true rfl (by decide +kernel) rfl (.inl rfl) rfl
        ·exact XStep.no 1 true rfl (by decide +kernel) rfl (.inl rfl) rfl
        ·exact XStep.no 1 true rfl (by decide +kernel) rfl (.inl rfl) rfl
        ·exact XStep.no 1 true rfl (by decide +kernel) rfl (.inl rfl) rfl
        ·exact XStep.no 14 false rfl (by decide +kernel) rfl (.inr rfl) rfl
        ·exact XStep.no 14 false rfl (by decide +kernel) rfl (.inr rfl) rfl
        ·exact XStep.no 14 false rfl (by decide +kernel) rfl (.inr rfl) rfl
        ·exact XStep.no 14 false rfl (by decide +kernel) rfl (.inr rfl) rfl
        ·exact XStep.no 14 false rfl (by decide +kernel) rfl (.inr rfl) rfl
        ·exact XStep.no 14 false rfl (by decide +kernel) rfl (.inr rfl) rfl
        ·exact XStep.no 14 false rfl (by decide +kernel) rfl (.inr rfl) rfl
        ·exact XStep.no 14 false rfl (by decide +kernel) rfl (.inr rfl) rfl
        ·exact XStep.no 14 false rfl (by decide +kernel) rfl (.inr rfl) rfl
        ·exact XStep.no 14 false rfl (by decide +kernel) rfl (.inr rfl) rfl
        ·exact XStep.no 14 false rfl (by decide +kernel) rfl (.inr rfl) rfl
        ·exact XStep.no 1 true rfl (by decide +kernel) rfl (.inl rfl) rfl
        ·refine XStep.op rfl fun ac wk hp K hK=>?_;have t66_:=hp.v 1;clear hp;go_simp;exact hK.out _ _ rfl eR
       case ht =>
        intro ac v2 hag hext hpost;have z92_:sl ac 92 = .bool false:=hpost 27 (by decide +kernel) rfl;rw[hag.lay];simp only[lay,List.foldl_cons,List.foldl_nil,List.setIfInBounds_toArray,List.set_cons_zero,List.set_cons_succ,z92_];have HEX:=Hd hext;clear hag hpost hext z92_;refine seqTail.op rfl rfl (fun K hK=>?_);have HK3:=Hd hK;clear hK;go_simp;refine HK3.out _ _ ?_;clear HK3
        show seqTail _ _ _ [] _ _
        unfold seqTail;go_wp2_with fail;exact⟨⟨k+1,false,by first | rfl | simp | rw[hwk],rfl,LTK.out,XI.out.trans HEX.out,fun e=>by cases e⟩,by simp only[intOf];have:=LTK.out;omega⟩
      case true =>
       by_cases hc0:cv=0
       ·have HC0:=Hd hc0
        have hcd:(cv != 0)=false:=by rw[hc0];rfl
        have hcd2:decide (cv≠0)=false:=decide_eq_false (fun h=>h hc0);clear hc0;refine wp_region_tail [65,66,67,68,69,70,71,72,73,74,75,76,77,78,79,80,81,82,83,84,85,86,87,88,89,90,91,92] [28] (fun ix__=>([Sx.val (.bool true),Sx.val (.bool true),Sx.val (.slice (some ⟨blA,offA,none⟩) n c),Sx.val (.int .i64 (i:Int)),Sx.val (.pointer (some ⟨blA,offA+i*6,none⟩)),Sx.val (.pointer (some ⟨blA,offA+i*6,none⟩)),Sx.val (.agg #[.int .u8 (kB:Int),.int .i64 nB,.slice pB xB yB]),Sx.val (.slice (some ⟨blA,offA,none⟩) n c),Sx.val (.int .i64 (k:Int)),Sx.val (.pointer (some ⟨blA,offA+k*6,none⟩)),Sx.val (.pointer (some ⟨blA,offA+k*6,none⟩)),Sx.val (.agg #[.int .u8 (kC:Int),.int .i64 nC,.slice pC xC yC]),Sx.val (.int .i64 cv),Sx.val (.bool false),Sx.val (.bool false),Sx.val (.slice (some ⟨blA,offA,none⟩) n c),Sx.val (.int .i64 (i:Int)),Sx.val (.pointer (some ⟨blA,offA+i*6,none⟩)),Sx.val (.pointer (some ⟨blA,offA+i*6,none⟩)),Sx.val (.agg #[.int .u8 (kB:Int),.int .i64 nB,.slice pB xB yB]),Sx.val (.slice (some ⟨blA,offA,none⟩) n c),Sx.val (.int .i64 (k:Int)),Sx.val (.pointer (some ⟨blA,offA+k*6,none⟩)),Sx.val (.pointer (some ⟨blA,offA+k*6,none⟩)),Sx.val (.agg #[.int .u8 (kC:Int),.int .i64 nC,.slice pC xC yC]),Sx.val (.bool sb),Sx.val (.bool sb),Sx.val (.bool sb)]:List Sx).getD ix__ (Sx.val undef)) (by kernel_rfl) (by kernel_rfl) ?hs ?ht
        case hs =>
         refine⟨?_,?_,?_,?_,?_,?_,?_,?_,?_,?_,?_,?_,?_,?_,?_,?_,?_,?_,?_,?_,?_,?_,?_,?_,?_,?_,?_,?_,fun _ => .inl rfl,trivial⟩
         ·refine XStep.op rfl fun ac wk hp K hK=>?_;have t7_:ac.tmps[7]?.getD undef = .bool true:=hp.slot 7 rfl rfl;clear hp;go_simp;exact hK.out _ _ rfl eR
         ·refine XStep.op rfl fun ac wk hp K hK=>?_;have t65_:=hp.v 0;clear hp;go_simp;exact hK.out _ _ rfl eR
         ·refine XStep.yes 1 true rfl (by decide +kernel) rfl rfl fun ac wk hp K hK=>?_;have t0_:ac.tmps[0]?.getD undef = .slice (some ⟨blA,offA,none⟩) n c:=hp.slot 0 rfl rfl;clear hp;go_simp;exact hK.out _ _ rfl eR
         ·refine XStep.yes 1 true rfl (by decide +kernel) rfl rfl fun ac wk hp K hK=>?_;have t8_:ac.tmps[8]?.getD undef = .int .i64 (i:Int):=hp.slot 8 rfl rfl;clear hp;go_simp;exact hK.out _ _ rfl eR
         ·refine XStep.yes 1 true rfl (by decide +kernel) rfl rfl fun ac wk hp K hK=>?_;have t67_:=hp.v 2;have t68_:=hp.v 3;clear hp;go_simp;exact hK.out _ _ rfl eR
         ·refine XStep.yes 1 true rfl (by decide +kernel) rfl rfl fun ac wk hp K hK=>?_;have t69_:=hp.v 4;clear hp;go_simp;exact hK.out _ _ rfl eR
         ·refine XStep.yes 1 true rfl (by decide +kernel) rfl rfl fun ac wk hp K hK=>?_;have t70_:=hp.v 5;have q0:=((DB0.out).ext hp.ext).1;have q1:=((DB1.out).ext hp.ext).1;have q2:=((DB2.out).ext hp.ext).1;clear hp;go_simp;exact hK.out _ _ rfl eR
         ·refine XStep.yes 1 true rfl (by decide +kernel) rfl rfl fun ac wk hp K hK=>?_;have t0_:ac.tmps[0]?.getD undef = .slice (some ⟨blA,offA,none⟩) n c:=hp.slot 0 rfl rfl;clear hp;go_simp;exact hK.out _ _ rfl eR
         ·refine XStep.yes 1 true rfl (by decide +kernel) rfl rfl fun ac wk hp K hK=>?_;have t9_:ac.tmps[9]?.getD undef = .int .i64 (k:Int):=hp.slot 9 rfl rfl;clear hp;go_simp;exact hK.out _ _ rfl eR
         ·refine XStep.yes 1 true rfl (by decide +kernel) rfl rfl fun ac wk hp K hK=>?_;have t72_:=hp.v 7;have t73_:=hp.v 8;clear hp;go_simp;exact hK.out _ _ rfl eR
         ·refine XStep.yes 1 true rfl (by decide +kernel) rfl rfl fun ac wk hp K hK=>?_;have t74_:=hp.v 9;clear hp;go_simp;exact hK.out _ _ rfl eR
         ·refine XStep.yes 1 true rfl (by decide +kernel) rfl rfl fun ac wk hp K hK=>?_;have t75_:=hp.v 10;have q0:=((DC0.out).ext hp.ext).1;have q1:=((DC1.out).ext hp.ext).1;have q2:=((DC2.out).ext hp.ext).1;clear hp;go_simp;exact hK.out _ _ rfl eR
         ·refine XStep.yes 1 true rfl (by decide +kernel) rfl rfl fun ac wk hp K hK=>?_;have t71_:=hp.v 6;have t76_:=hp.v 11;have xe:=Hd hp.ext;clear hp;go_simp;refine (HCM.out _ xe.out).mono ?_;rintro e wk' ⟨rfl,ix⟩;exact hK.out _ _ rfl ix
         ·refine XStep.yes 1 true rfl (by decide +kernel) rfl rfl fun ac wk hp K hK=>?_;have t77_:=hp.v 12;clear hp;go_simp;exact hK.out _ _ (by first | rfl | exact congrArg Value.bool hcd | (apply congrArg Value.bool;first | exact hcd2 | simp [HC0.out])) eR
         ·refine XStep.yes 1 true rfl (by decide +kernel) rfl rfl fun ac wk hp K hK=>?_;have t78_:=hp.v 13;clear hp;go_simp;exact hK.out _ _ rfl eR
         ·refine XStep.yes 14 false rfl (by decide +kernel) rfl rfl fun ac wk hp K hK=>?_;have t0_:ac.tmps[0]?.getD undef = .slice (some ⟨blA,offA,none⟩) n c:=hp.slot 0 rfl rfl;clear hp;go_simp;exact hK.out _ _ rfl eR
         ·refine XStep.yes 14 false rfl (by decide +kernel) rfl rfl fun ac wk hp K hK=>?_;have t8_:ac.tmps[8]?.getD undef = .int .i64 (i:Int):=hp.slot 8 rfl rfl;clear hp;go_simp;exact hK.out _ _ rfl eR
         ·refine XStep.yes 14 false rfl (by decide +kernel) rfl rfl fun ac wk hp K hK=>?_;have t80_:=hp.v 15;have t81_:=hp.v 16;clear hp;go_simp;exact hK.out _ _ rfl eR
         ·refine XStep.yes 14 false rfl (by decide +kernel) rfl rfl fun ac wk hp K hK=>?_;have t82_:=hp.v 17;clear hp;go_simp;exact hK.out _ _ rfl eR
         ·refine XStep.yes 14 false rfl (by decide +kernel) rfl rfl fun ac wk hp K hK=>?_;have t83_:=hp.v 18;have q0:=((DB0.out).ext hp.ext).1;have q1:=((DB1.out).ext hp.ext).1;have q2:=((DB2.out).ext hp.ext).1;clear hp;go_simp;exact hK.out _ _ rfl eR
         ·refine XStep.yes 14 false rfl (by decide +kernel) rfl rfl fun ac wk hp K hK=>?_;have t0_:ac.tmps[0]?.getD undef = .slice (some ⟨blA,offA,none⟩) n c:=hp.slot 0 rfl rfl;clear hp;go_simp;exact hK.out _ _ rfl eR
         ·refine XStep.yes 14 false rfl (by decide +kernel) rfl rfl fun ac wk hp K hK=>?_;have t9_:ac.tmps[9]?.getD undef = .int .i64 (k:Int):=hp.slot 9 rfl rfl;clear hp;go_simp;exact hK.out _ _ rfl eR
         ·refine XStep.yes 14 false rfl (by decide +kernel) rfl rfl fun ac wk hp K hK=>?_;have t85_:=hp.v 20;have t86_:=hp.v 21;clear hp;go_simp;exact hK.out _ _ rfl eR
         ·refine XStep.yes 14 false rfl (by decide +kernel) rfl rfl fun ac wk hp K hK=>?_;have t87_:=hp.v 22;clear hp;go_simp;exact hK.out _ _ rfl eR
         ·refine XStep.yes 14 false rfl (by decide +kernel) rfl rfl fun ac wk hp K hK=>?_;have t88_:=hp.v 23;have q0:=((DC0.out).ext hp.ext).1;have q1:=((DC1.out).ext hp.ext).1;have q2:=((DC2.out).ext hp.ext).1;clear hp;go_simp;exact hK.out _ _ rfl eR
         ·refine XStep.yes 14 false rfl (by decide +kernel) rfl rfl fun ac wk hp K hK=>?_;have t84_:=hp.v 19;have t89_:=hp.v 24;have xe:=Hd hp.ext;clear hp;go_simp;refine (HSM.out _ xe.out).mono ?_;rintro e wk' ⟨rfl,ix⟩;exact hK.out _ _ rfl ix
         ·refine XStep.yes 1 true rfl (by decide +kernel) rfl rfl fun ac wk hp K hK=>?_;have t79_:=hp.v 14;have t90_:=hp.v 25;clear hp;go_simp;exact hK.out _ _ rfl eR
         ·refine XStep.op rfl fun ac wk hp K hK=>?_;have t66_:=hp.v 1;have t91_:=hp.v 26;clear hp;go_simp;exact hK.out _ _ rfl eR
        case ht =>
         intro ac v2 hag hext hpost;have z92_:sl ac 92 = .bool sb:=hpost 27 (by decide +kernel) rfl;rw[hag.lay];simp only[lay,List.foldl_cons,List.foldl_nil,List.setIfInBounds_toArray,List.set_cons_zero,List.set_cons_succ,z92_];have HEX:=Hd hext;clear hag hpost hext z92_;refine seqTail.op rfl rfl (fun K hK=>?_);have HK3:=Hd hK;clear hK;go_simp;refine HK3.out _ _ ?_;clear HK3
         show seqTail _ _ _ [] _ _
         unfold seqTail;go_wp2_with fail
         exact⟨⟨k+1,sb,by first | rfl | simp | rw[hwk],rfl,LTK.out,XI.out.trans HEX.out,fun e=>⟨(HP2.out rfl).1,fun k2 hk2=>by
        rcases Nat.lt_succ_iff_lt_or_eq.1 hk2 with h | h
        ·exact (HP2.out rfl).2 k2 h
        ·subst h;exact HSA.out _ (fun _ => .inr (sameV_eq (by rw[HSB.out];exact e))) trivial⟩⟩,by simp only[intOf];have:=LTK.out;omega⟩
       ·have HC0:=Hd hc0
        have hcd:(cv != 0)=true:=by rw[bne_iff_ne];exact hc0
        have hcd2:decide (cv≠0)=true:=decide_eq_true hc0;clear hc0;refine wp_region_tail [65,66,67,68,69,70,71,72,73,74,75,76,77,78,79,80,81,82,83,84,85,86,87,88,89,90,91,92] [28] (fun ix__=>([Sx.val (.bool true),Sx.val (.bool true),Sx.val (.slice (some ⟨blA,offA,none⟩) n c),Sx.val (.int .i64 (i:Int)),Sx.val (.pointer (some ⟨blA,offA+i*6,none⟩)),Sx.val (.pointer (some ⟨blA,offA+i*6,none⟩)),Sx.val (.agg #[.int .u8 (kB:Int),.int .i64 nB,.slice pB xB yB]),Sx.val (.slice (some ⟨blA,offA,none⟩) n c),Sx.val (.int .i64 (k:Int)),Sx.val (.pointer (some ⟨blA,offA+k*6,none⟩)),Sx.val (.pointer (some ⟨blA,offA+k*6,none⟩)),Sx.val (.agg #[.int .u8 (kC:Int),.int .i64 nC,.slice pC xC yC]),Sx.val (.int .i64 cv),Sx.val (.bool true),Sx.val (.bool true),Sx.val undef,Sx.val undef,Sx.val undef,Sx.val undef,Sx.val undef,Sx.val undef,Sx.val undef,Sx.val undef,Sx.val undef,Sx.val undef,Sx.val undef,Sx.val (.bool true),Sx.val (.bool true)]:List Sx).getD ix__ (Sx.val undef)) (by kernel_rfl) (by kernel_rfl) ?hs ?ht
        case hs =>
         refine⟨?_,?_,?_,?_,?_,?_,?_,?_,?_,?_,?_,?_,?_,?_,?_,?_,?_,?_,?_,?_,?_,?_,?_,?_,?_,?_,?_,?_,fun _ => .inl rfl,trivial⟩
         ·refine XStep.op rfl fun ac wk hp K hK=>?_;have t7_:ac.tmps[7]?.getD undef = .bool true:=hp.slot 7 rfl rfl;clear hp;go_simp;exact hK.out _ _ rfl eR
         ·refine XStep.op rfl fun ac wk hp K hK=>?_;have t65_:=hp.v 0;clear hp;go_simp;exact hK.out _ _ rfl eR
         ·refine XStep.yes 1 true rfl (by decide +kernel) rfl rfl fun ac wk hp K hK=>?_;have t0_:ac.tmps[0]?.getD undef = .slice (some ⟨blA,offA,none⟩) n c:=hp.slot 0 rfl rfl;clear hp;go_simp;exact hK.out _ _ rfl eR
         ·refine XStep.yes 1 true rfl (by decide +kernel) rfl rfl fun ac wk hp K hK=>?_;have t8_:ac.tmps[8]?.getD undef = .int .i64 (i:Int):=hp.slot 8 rfl rfl;clear hp;go_simp;exact hK.out _ _ rfl eR
         ·refine XStep.yes 1 true rfl (by decide +kernel) rfl rfl fun ac wk hp K hK=>?_;have t67_:=hp.v 2;have t68_:=hp.v 3;clear hp;go_simp;exact hK.out _ _ rfl eR
         ·refine XStep.yes 1 true rfl (by decide +kernel) rfl rfl fun ac wk hp K hK=>?_;have t69_:=hp.v 4;clear hp;go_simp;exact hK.out _ _ rfl eR
         ·refine XStep.yes 1 true rfl (by decide +kernel) rfl rfl fun ac wk hp K hK=>?_;have t70_:=hp.v 5;have q0:=((DB0.out).ext hp.ext).1;have q1:=((DB1.out).ext hp.ext).1;have q2:=((DB2.out).ext hp.ext).1;clear hp;go_simp;exact hK.out _ _ rfl eR
         ·refine XStep.yes 1 true rfl (by decide +kernel) rfl rfl fun ac wk hp K hK=>?_;have t0_:ac.tmps[0]?.getD undef = .slice (some ⟨blA,offA,none⟩) n c:=hp.slot 0 rfl rfl;clear hp;go_simp;exact hK.out _ _ rfl eR
         ·refine XStep.yes 1 true rfl (by decide +kernel) rfl rfl fun ac wk hp K hK=>?_;have t9_:ac.tmps[9]?.getD undef = .int .i64 (k:Int):=hp.slot 9 rfl rfl;clear hp;go_simp;exact hK.out _ _ rfl eR
         ·refine XStep.yes 1 true rfl (by decide +kernel) rfl rfl fun ac wk hp K hK=>?_;have t72_:=hp.v 7;have t73_:=hp.v 8;clear hp;go_simp;exact hK.out _ _ rfl eR
         ·refine XStep.yes 1 true rfl (by decide +kernel) rfl rfl fun ac wk hp K hK=>?_;have t74_:=hp.v 9;clear hp;go_simp;exact hK.out _ _ rfl eR
         ·refine XStep.yes 1 true rfl (by decide +kernel) rfl rfl fun ac wk hp K hK=>?_;have t75_:=hp.v 10;have q0:=((DC0.out).ext hp.ext).1;have q1:=((DC1.out).ext hp.ext).1;have q2:=((DC2.out).ext hp.ext).1;clear hp;go_simp;exact hK.out _ _ rfl eR
         ·refine XStep.yes 1 true rfl (by decide +kernel) rfl rfl fun ac wk hp K hK=>?_;have t71_:=hp.v 6;have t76_:=hp.v 11;have xe:=Hd hp.ext;clear hp;go_simp;refine (HCM.out _ xe.out).mono ?_;rintro e wk' ⟨rfl,ix⟩;exact hK.out _ _ rfl ix
         ·refine XStep.yes 1 true rfl (by decide +kernel) rfl rfl fun ac wk hp K hK=>?_;have t77_:=hp.v 12;clear hp;go_simp;exact hK.out _ _ (by first | rfl | exact congrArg Value.bool hcd | (apply congrArg Value.bool;first | exact hcd2 | simp [HC0.out])) eR
         ·refine XStep.yes 1 true rfl (by decide +kernel) rfl rfl fun ac wk hp K hK=>?_;have t78_:=hp.v 13;clear hp;go_simp;exact hK.out _ _ rfl eR
         ·exact XStep.no 14 false rfl (by decide +kernel) rfl (.inl rfl) rfl
         ·exact XStep.no 14 false rfl (by decide +kernel) rfl (.inl rfl) rfl
         ·exact XStep.no 14 false rfl (by decide +kernel) rfl (.inl rfl) rfl
         ·exact XStep.no 14 false rfl (by decide +kernel) rfl (.inl rfl) rfl
         ·exact XStep.no 14 false rfl (by decide +kernel) rfl (.inl rfl) rfl
         ·exact XStep.no 14 false rfl (by decide +kernel) rfl (.inl rfl) rfl
         ·exact XStep.no 14 false rfl (by decide +kernel) rfl (.inl rfl) rfl
         ·exact XStep.no 14 false rfl (by decide +kernel) rfl (.inl rfl) rfl
         ·exact XStep.no 14 false rfl (by decide +kernel) rfl (.inl rfl) rfl
         ·exact XStep.no 14 false rfl (by decide +kernel) rfl (.inl rfl) rfl
         ·exact XStep.no 14 false rfl (by decide +kernel) rfl (.inl rfl) rfl
         ·refine XStep.yes 1 true rfl (by decide +kernel) rfl rfl fun ac wk hp K hK=>?_;have t79_:=hp.v 14;clear hp;go_simp;exact hK.out _ _ rfl eR
         ·refine XStep.op rfl fun ac wk hp K hK=>?_;have t66_:=hp.v 1;have t91_:=hp.v 26;clear hp;go_simp;exact hK.out _ _ rfl eR
        case ht =>
         intro ac v2 hag hext hpost;have z92_:sl ac 92 = .bool true:=hpost 27 (by decide +kernel) rfl;rw[hag.lay];simp only[lay,List.foldl_cons,List.foldl_nil,List.setIfInBounds_toArray,List.set_cons_zero,List.set_cons_succ,z92_];have HEX:=Hd hext;clear hag hpost hext z92_;refine seqTail.op rfl rfl (fun K hK=>?_);have HK3:=Hd hK;clear hK;go_simp;refine HK3.out _ _ ?_;clear HK3
         show seqTail _ _ _ [] _ _
         unfold seqTail;go_wp2_with fail
         exact⟨⟨k+1,true,by first | rfl | simp | rw[hwk],rfl,LTK.out,XI.out.trans HEX.out,fun e=>⟨(HP2.out rfl).1,fun k2 hk2=>by
        rcases Nat.lt_succ_iff_lt_or_eq.1 hk2 with h | h
        ·exact (HP2.out rfl).2 k2 h
        ·subst h;exact HSA.out _ (fun _ => .inl (by rw[HCV.out];exact HC0.out)) trivial⟩⟩,by simp only[intOf];have:=LTK.out;omega⟩
     ·have hlk:¬ (k:Int)<(i:Int):=by omega
      have hke:k=i:=by omega
      have HP3:Hid (pl2=true → ∀ i',i'<i+1 → ∀ k,k<i'→SameAt Ls i' k):=fun e i' hi' k' hk'=>by
       obtain⟨q1,q2⟩:=HP2.out e
       rcases Nat.lt_succ_iff_lt_or_eq.1 hi' with h | h
       ·exact q1 i' h k' hk'
       ·subst h;exact q2 k' (by omega)
      clear hk hki hke;go_wp2_with fail;exact⟨⟨i+1,pl2,Cs2,pb,cb,by first | rfl | simp | rw[hwi],rfl,rfl,LT.out,XR2.out.trans XI.out,HVR.out.ext XI.out,HAL2.out,HP3.out⟩,by simp only[intOf];have:=LT.out;omega⟩
   ·have hli:¬ (i:Int)<(n:Int):=by omega
    have hin:i=n:=by omega
    rw[hin]at HAL HPL;clear hi hlt hin;have HTU:Hid (SlS wr (.slice pa Cs.length ca) (turnL Ls y n)):=HA.out.slS HAL.out (X3.out.trans (X8.out.trans XR.out))
    have HTP:Hid ((turnL Ls y n).Perm Ls):=by have h:=turnL_perm Ls y;rw[HM.out]at h;exact h
    cases pl
    case' true =>
     have HPP:Hid (PlainP (Ls.map ptRa)):=sameAt_plain (by rw[HM.out];exact HPL.out rfl)
     have HOT:Hid (Calls Tryz.prog 18 #[.slice pa Cs.length ca] wr (GathRet wr ((turnL Ls y n).map ptRa))):=by
      have hl:(turnL Ls y n).length=n:=by rw[HTP.out.length_eq,HM.out]
      refine of_calls24 (HTU.out) (D:=D) (X:=X) (k:=241) (K:=6) (by decide) (by decide) (fun a ha=>HLM.out a (HTP.out.mem_iff.1 ha)) (by rw[hl];have:=H40.out;omega) (fun a ha=>HSZ.out a (HTP.out.mem_iff.1 ha)) (fun a ha=>?_) HD0.out HD.out (by rw[hl];exact HBG.out n (by have:=H40.out;omega)) (by decide) (by decide);obtain⟨b,hb,rfl⟩:=List.mem_map.1 ha;exact HDN.out _ (List.mem_map_of_mem (HTP.out.mem_iff.1 hb))
     go_wp2_with fail;refine HOT.out.mono ?_;rintro z w9 ⟨v9,out9,rfl,hg9,hs9,x9⟩;have e9:out=out9:=gath_uniq HPP.out (HTP.out.symm.map _) HG.out hg9;rw[←e9]at hs9;have HS9:=Hd hs9;have X9:=Hd x9;clear x9 hg9 hs9 e9 HOT;go_wp2_with fail;refine (isM_calls HS9.out (HS.out.ext (X8.out.trans (XR.out.trans X9.out))) rfl).mono ?_;rintro z wt ⟨rfl,x10⟩;have XT:=Hd (XR.out.trans (X9.out.trans x10));clear x10 HS9 X9;go_wp2_with fail
    case' false =>
     obtain⟨wt,hwt⟩:∃ x,x=wr:=⟨_,rfl⟩
     have XT:Hid (Ext w8 wt):=by rw[hwt];exact XR.out
     subst hwt;go_wp2_with fail
    all_goals
     have X9:=Hd (X8.out.trans XT.out);have HX9:=Hd (X3.out.trans X9.out)
     have HM4:Hid (∀ i a,(out.map raPt)[i]? = some a → ∃ bl off cs,mp=some ⟨bl,off,none⟩∧RaS w3 cs a ∧ ∀ j u,cs[j]? = some u→At bl (off+i*6+j) u w3):=by
      obtain⟨p',c',e',-,-,-,h5⟩:=HS.out
      injection e' with e' _ _
      subst e';exact h5
     have HOM2:Hid ((out.map raPt).length=m):=by show _=_;rw[List.length_map];exact HOM.out
     clear HA HAL HPL HTU HTP
     go_loopw [10] (fun v10 wl => ∃ i:Nat,v10 = .int .i64 (i:Int)∧i≤m∧Ext wt wl) (fun v10 _=>m - (intOf v10).toNat)
     case atStart=>exact⟨0,rfl,Nat.zero_le _,Ext.refl _⟩
     case round =>
      rename World=>wl
      obtain⟨i,rfl,hi,hx⟩:=hrel;have XL:=Hd hx;clear hx
      by_cases hlt:i<m
      ·have hli:(i:Int)<(m:Int):=by omega
       have hl1:(i:Int)+1≤(m:Int):=by omega
       have m5:=HOL.out
       have hwi:IntKind.i64.wrap ((i:Int)+1)=((i+1:Nat):Int):=by rw[IntWalk.i64_in _ (by omega)];omega
       have LT:=Hd hlt
       obtain⟨aM,haM⟩:∃ y,(out.map raPt)[i]? = some y:=⟨_,List.getElem?_eq_getElem (by rw[HOM2.out];exact hlt)⟩
       have HAM:=Hd haM;obtain⟨blM,offM,csM,hpM,hraM,hatM⟩:=HM4.out (i) aM haM;obtain⟨kM,nM,pM,xM,yM,qM,cM,dM,rM,eM,fM,rfl,hviM,hlaM,hldM⟩:=hraM;have HVM:=Hd (hviM.ext (X9.out.trans XL.out));have HLM_:=Hd (hlaM.ext (X9.out.trans XL.out));have HDM_:=Hd (hldM.ext (X9.out.trans XL.out))
       obtain⟨sM,hsgM⟩:∃ s,aM.2.1=s:=⟨_,rfl⟩
       rw[hsgM]at hatM;have HSGM:=Hd hsgM;have DM0:Hid (At blM (offM+i*6) (.int .u8 (kM:Int)) _):=(hatM 0 (.int .u8 (kM:Int)) rfl).ext (X9.out.trans XL.out);have DM1:Hid (At blM (offM+i*6+1) (.int .i64 nM) _):=(hatM 1 (.int .i64 nM) rfl).ext (X9.out.trans XL.out);have DM2:Hid (At blM (offM+i*6+2) (.slice pM xM yM) _):=(hatM 2 (.slice pM xM yM) rfl).ext (X9.out.trans XL.out);have DM3:Hid (At blM (offM+i*6+3) (.bool sM) _):=(hatM 3 (.bool sM) rfl).ext (X9.out.trans XL.out);have DM4:Hid (At blM (offM+i*6+4) (.slice qM cM dM) _):=(hatM 4 (.slice qM cM dM) rfl).ext (X9.out.trans XL.out);have DM5:Hid (At blM (offM+i*6+5) (.slice rM eM fM) _):=(hatM 5 (.slice rM eM fM) rfl).ext (X9.out.trans XL.out);clear haM hatM hviM hlaM hldM hsgM;subst hpM
       obtain⟨pt,hpt⟩:∃ q,out[i]? = some q:=⟨_,List.getElem?_eq_getElem (by rw[HOM.out];exact hlt)⟩
       have ea:aM=raPt pt:=by
        have h1:=HAM.out;rw[List.getElem?_map,hpt]at h1;exact (Option.some.inj h1).symm
       have hmem:=List.mem_of_getElem? hpt;have hQ1:atV out pt.1=pt.2:=atV_one HG.out.str hmem;have hQ2:atV (Ls.map ptRa) pt.1=pt.2:=HG.out.at hmem;rw[ea]at HVM HLM_ HDM_ HSGM
       obtain⟨q,hq⟩:∃ q,pt.2=q:=⟨_,rfl⟩
       have HIR:Hid (InR wl sM (.slice qM cM dM) (.slice rM eM fM) 241 q):=⟨_,_,HLM_.out,HDM_.out,by rw[←HSGM.out,←hq];exact qRa_pt pt,dig_len_le (HLO.out pt hmem).1,dig_len_le (HLO.out pt hmem).2,by decide⟩
       have HLQ:Hid (LenR 241 q):=by rw[←hq];exact HLO.out pt hmem
       have HA1:Hid (∀ X,Ext wl X→Calls Tryz.prog 12 #[.slice (some ⟨blM,offM,none⟩) m mc,.agg #[.int .u8 (kM:Int),.int .i64 nM,.slice pM xM yM]] X (RetQ X q)):=fun X' hX=>by
        have h:=atM_calls (D:=D) (X:=40*X) (k:=241) (K:=241) (HS.out.ext (X9.out.trans (XL.out.trans hX))) HD0.out HD.out HMX.out (by decide) (by decide) HDM.out (by decide) (by decide) HLO.out (HVM.out.ext hX);rw[show atV out (raPt pt).1=q by rw[←hq];exact hQ1]at h;exact h
       have HA2:Hid (∀ X,Ext wl X→Calls Tryz.prog 12 #[.slice p n c,.agg #[.int .u8 (kM:Int),.int .i64 nM,.slice pM xM yM]] X (RetQ X q)):=fun X' hX=>by
        have h:=at_calls (D:=D) (X:=X) (k:=241) (K:=6) (HSL.out.ext (HX9.out.trans (XL.out.trans hX))) HD0.out HD.out (by rw[HM.out];exact HBG.out n (by have:=H40.out;omega)) (by decide) (by decide) HDN.out (by decide) (by decide) HLM.out (HVM.out.ext hX);rw[show sumW (isV (raPt pt).1) (Ls.map ptRa)=q by rw[←hq];exact hQ2]at h;exact h
       have HSM:Hid (∀ X b p1 n1 c1 p2 n2 c2,Ext wl X→IsR X b (.slice p1 n1 c1) (.slice p2 n2 c2) q.num.natAbs q.den q→Calls Tryz.prog 11 #[.agg #[.bool b,.slice p1 n1 c1,.slice p2 n2 c2],.agg #[.bool sM,.slice qM cM dM,.slice rM eM fM]] X fun e w'=>e = .returned (.bool true)∧Ext X w'):=fun X' b p1 n1 c1 p2 n2 c2 hX hr =>
        rsame_calls (hr.inR HLQ.out) (HIR.out.ext hX) (by decide) true (by simp)
       clear hi m5 hlt hpt ea hmem hQ1 hQ2 hq
       go_upto_region 21 with fail
       refine wp_region_tail [107,108,109,110,111,112,113,114,115,116,117,118,119,120,121,122,123,124,125,126,127,128,129,130,131,132,133,134,135,136] [] (fun ix__=>([Sx.val (.slice (some ⟨blM,offM,none⟩) m mc),Sx.val (.slice (some ⟨blM,offM,none⟩) m mc),Sx.val (.int .i64 (i:Int)),Sx.val (.pointer (some ⟨blM,offM+i*6,none⟩)),Sx.val (.pointer (some ⟨blM,offM+i*6,none⟩)),Sx.val (.agg #[.int .u8 (kM:Int),.int .i64 nM,.slice pM xM yM]),Sx.isQ q,Sx.val (.slice (some ⟨blM,offM,none⟩) m mc),Sx.val (.int .i64 (i:Int)),Sx.val (.pointer (some ⟨blM,offM+i*6,none⟩)),Sx.val (.pointer (some ⟨blM,offM+i*6+3,none⟩)),Sx.val (.agg #[.bool sM,.slice qM cM dM,.slice rM eM fM]),Sx.val (.bool true),Sx.val (.bool false),Sx.val (.bool false),Sx.val (.slice p n c),Sx.val (.slice (some ⟨blM,offM,none⟩) m mc),Sx.val (.int .i64 (i:Int)),Sx.val (.pointer (some ⟨blM,offM+i*6,none⟩)),Sx.val (.pointer (some ⟨blM,offM+i*6,none⟩)),Sx.val (.agg #[.int .u8 (kM:Int),.int .i64 nM,.slice pM xM yM]),Sx.isQ q,Sx.val (.slice (some ⟨blM,offM,none⟩) m mc),Sx.val (.int .i64 (i:Int)),Sx.val (.pointer (some ⟨blM,offM+i*6,none⟩)),Sx.val (.pointer (some ⟨blM,offM+i*6+3,none⟩)),Sx.val (.agg #[.bool sM,.slice qM cM dM,.slice rM eM fM]),Sx.val (.bool true),Sx.val (.bool false),Sx.val (.bool false)]:List Sx).getD ix__ (Sx.val undef)) (by kernel_rfl) (by kernel_rfl) ?hs ?ht
       case hs =>
        refine⟨?_,?_,?_,?_,?_,?_,?_,?_,?_,?_,?_,?_,?_,?_,?_,?_,?_,?_,?_,?_,?_,?_,?_,?_,?_,?_,?_,?_,?_,?_,trivial⟩
        ·refine XStep.op rfl fun ac wk hp K hK=>?_;have t5_:ac.tmps[5]?.getD undef = .slice (some ⟨blM,offM,none⟩) m mc:=hp.slot 5 rfl rfl;clear hp;go_simp;exact hK.out _ _ rfl eR
        ·refine XStep.op rfl fun ac wk hp K hK=>?_;have t5_:ac.tmps[5]?.getD undef = .slice (some ⟨blM,offM,none⟩) m mc:=hp.slot 5 rfl rfl;clear hp;go_simp;exact hK.out _ _ rfl eR
        ·refine XStep.op rfl fun ac wk hp K hK=>?_;have t10_:ac.tmps[10]?.getD undef = .int .i64 (i:Int):=hp.slot 10 rfl rfl;clear hp;go_simp;exact hK.out _ _ rfl eR
        ·refine XStep.op rfl fun ac wk hp K hK=>?_;have t108_:=hp.v 1;have t109_:=hp.v 2;clear hp;go_simp;exact hK.out _ _ rfl eR
        ·refine XStep.op rfl fun ac wk hp K hK=>?_;have t110_:=hp.v 3;clear hp;go_simp;exact hK.out _ _ rfl eR
        ·refine XStep.op rfl fun ac wk hp K hK=>?_;have t111_:=hp.v 4;have q0:=((DM0.out).ext hp.ext).1;have q1:=((DM1.out).ext hp.ext).1;have q2:=((DM2.out).ext hp.ext).1;clear hp;go_simp;exact hK.out _ _ rfl eR
        ·refine XStep.op rfl fun ac wk hp K hK=>?_;have t107_:=hp.v 0;have t112_:=hp.v 5;have xe:=Hd hp.ext;clear hp;go_simp;refine (HA1.out _ xe.out).mono ?_;rintro e wk' ⟨b9,p9,n9,c9,r9,m9,d9,rfl,e9,ix⟩;exact hK.out _ _ ⟨_,_,_,_,_,_,_,rfl,e9⟩ ix
        ·refine XStep.op rfl fun ac wk hp K hK=>?_;have t5_:ac.tmps[5]?.getD undef = .slice (some ⟨blM,offM,none⟩) m mc:=hp.slot 5 rfl rfl;clear hp;go_simp;exact hK.out _ _ rfl eR
        ·refine XStep.op rfl fun ac wk hp K hK=>?_;have t10_:ac.tmps[10]?.getD undef = .int .i64 (i:Int):=hp.slot 10 rfl rfl;clear hp;go_simp;exact hK.out _ _ rfl eR
        ·refine XStep.op rfl fun ac wk hp K hK=>?_;have t114_:=hp.v 7;have t115_:=hp.v 8;clear hp;go_simp;exact hK.out _ _ rfl eR
        ·refine XStep.op rfl fun ac wk hp K hK=>?_;have t116_:=hp.v 9;clear hp;go_simp;exact hK.out _ _ rfl eR
        ·refine XStep.op rfl fun ac wk hp K hK=>?_;have t117_:=hp.v 10;have q0:=((DM3.out).ext hp.ext).1;have q1:=((DM4.out).ext hp.ext).1;have q2:=((DM5.out).ext hp.ext).1;clear hp;go_simp;exact hK.out _ _ rfl eR
        ·refine XStep.op rfl fun ac wk hp K hK=>?_;obtain⟨f113b,f113p,f113n,f113c,f113r,f113m,f113d,f113e,f113i⟩:=hp.g 6;have t113_:ac.tmps[113]?.getD undef = .agg #[.bool f113b,.slice f113p f113n f113c,.slice f113r f113m f113d]:=slot_is' f113e;have t118_:=hp.v 11;have xe:=Hd hp.ext;clear hp f113e;go_simp;refine (HSM.out _ _ _ _ _ _ _ _ xe.out f113i).mono ?_;rintro e wk' ⟨rfl,ix⟩;exact hK.out _ _ rfl ix
        ·refine XStep.op rfl fun ac wk hp K hK=>?_;have t119_:=hp.v 12;clear hp;go_simp;exact hK.out _ _ rfl eR
        ·refine XStep.op rfl fun ac wk hp K hK=>?_;have t120_:=hp.v 13;clear hp;go_simp;exact hK.out _ _ rfl eR
        ·refine XStep.yes 14 false rfl (by decide +kernel) rfl rfl fun ac wk hp K hK=>?_;have t0_:ac.tmps[0]?.getD undef = .slice p n c:=hp.slot 0 rfl rfl;clear hp;go_simp;exact hK.out _ _ rfl eR
        ·refine XStep.yes 14 false rfl (by decide +kernel) rfl rfl fun ac wk hp K hK=>?_;have t5_:ac.tmps[5]?.getD undef = .slice (some ⟨blM,offM,none⟩) m mc:=hp.slot 5 rfl rfl;clear hp;go_simp;exact hK.out _ _ rfl eR
        ·refine XStep.yes 14 false rfl (by decide +kernel) rfl rfl fun ac wk hp K hK=>?_;have t10_:ac.tmps[10]?.getD undef = .int .i64 (i:Int):=hp.slot 10 rfl rfl;clear hp;go_simp;exact hK.out _ _ rfl eR
        ·refine XStep.yes 14 false rfl (by decide +kernel) rfl rfl fun ac wk hp K hK=>?_;have t123_:=hp.v 16;have t124_:=hp.v 17;clear hp;go_simp;exact hK.out _ _ rfl eR
        ·refine XStep.yes 14 false rfl (by decide +kernel) rfl rfl fun ac wk hp K hK=>?_;have t125_:=hp.v 18;clear hp;go_simp;exact hK.out _ _ rfl eR
        ·refine XStep.yes 14 false rfl (by decide +kernel) rfl rfl fun ac wk hp K hK=>?_;have t126_:=hp.v 19;have q0:=((DM0.out).ext hp.ext).1;have q1:=((DM1.out).ext hp.ext).1;have q2:=((DM2.out).ext hp.ext).1;clear hp;go_simp;exact hK.out _ _ rfl eR
        ·refine XStep.yes 14 false rfl (by decide +kernel) rfl rfl fun ac wk hp K hK=>?_;have t122_:=hp.v 15;have t127_:=hp.v 20;have xe:=Hd hp.ext;clear hp;go_simp;refine (HA2.out _ xe.out).mono ?_;rintro e wk' ⟨b9,p9,n9,c9,r9,m9,d9,rfl,e9,ix⟩;exact hK.out _ _ ⟨_,_,_,_,_,_,_,rfl,e9⟩ ix
        ·refine XStep.yes 14 false rfl (by decide +kernel) rfl rfl fun ac wk hp K hK=>?_;have t5_:ac.tmps[5]?.getD undef = .slice (some ⟨blM,offM,none⟩) m mc:=hp.slot 5 rfl rfl;clear hp;go_simp;exact hK.out _ _ rfl eR
        ·refine XStep.yes 14 false rfl (by decide +kernel) rfl rfl fun ac wk hp K hK=>?_;have t10_:ac.tmps[10]?.getD undef = .int .i64 (i:Int):=hp.slot 10 rfl rfl;clear hp;go_simp;exact hK.out _ _ rfl eR
        ·refine XStep.yes 14 false rfl (by decide +kernel) rfl rfl fun ac wk hp K hK=>?_;have t129_:=hp.v 22;have t130_:=hp.v 23;clear hp;go_simp;exact hK.out _ _ rfl eR
        ·refine XStep.yes 14 false rfl (by decide +kernel) rfl rfl fun ac wk hp K hK=>?_;have t131_:=hp.v 24;clear hp;go_simp;exact hK.out _ _ rfl eR
        ·refine XStep.yes 14 false rfl (by decide +kernel) rfl rfl fun ac wk hp K hK=>?_;have t132_:=hp.v 25;have q0:=((DM3.out).ext hp.ext).1;have q1:=((DM4.out).ext hp.ext).1;have q2:=((DM5.out).ext hp.ext).1;clear hp;go_simp;exact hK.out _ _ rfl eR
        ·refine XStep.yes 14 false rfl (by decide +kernel) rfl rfl fun ac wk hp K hK=>?_;obtain⟨f128b,f128p,f128n,f128c,f128r,f128m,f128d,f128e,f128i⟩:=hp.g 21;have t128_:ac.tmps[128]?.getD undef = .agg #[.bool f128b,.slice f128p f128n f128c,.slice f128r f128m f128d]:=slot_is' f128e;have t133_:=hp.v 26;have xe:=Hd hp.ext;clear hp f128e;go_simp;refine (HSM.out _ _ _ _ _ _ _ _ xe.out f128i).mono ?_;rintro e wk' ⟨rfl,ix⟩;exact hK.out _ _ rfl ix
        ·refine XStep.yes 14 false rfl (by decide +kernel) rfl rfl fun ac wk hp K hK=>?_;have t134_:=hp.v 27;clear hp;go_simp;exact hK.out _ _ rfl eR
        ·refine XStep.op rfl fun ac wk hp K hK=>?_;have t121_:=hp.v 14;have t135_:=hp.v 28;clear hp;go_simp;exact hK.out _ _ rfl eR
       case ht =>
        intro ac v2 hag hext hpost;have z136_:sl ac 136 = .bool false:=hpost 29 (by decide +kernel) rfl;rw[hag.lay];simp only[lay,List.foldl_cons,List.foldl_nil,List.setIfInBounds_toArray,List.set_cons_zero,List.set_cons_succ,z136_];have HEX:=Hd hext;clear hag hpost hext z136_;unfold seqTail;go_wp2_with fail;exact⟨⟨i+1,by first | rfl | simp | rw[hwi],LT.out,XL.out.trans HEX.out⟩,by simp only[intOf];have:=LT.out;omega⟩
      ·have hli:¬ (i:Int)<(m:Int):=by omega
       clear hi hlt;go_wp2_with fail;go_ret;exact⟨rfl,HX9.out.trans XL.out⟩
end Go.Proofs.YtfofjalebhajhaaGreatDoor
