/- tombolalaw24.Long. -/
import Derived.Test.YtfofjalebhajhaaGreatDoorMass19
import Derived.Test.YtfofjalebhajhaaGreatDoorMass17
namespace Go.Proofs.YtfofjalebhajhaaGreatDoor
open Go Go.RowKit
def ShortS (Ls:List Ra):Prop:=∀ a∈Ls,(a.2.2.1.length≤6∧a.2.2.2.length≤6)∧szV a.1≤6000
def SlL (w:World) (v:Value) (Lss:List (List Ra)):Prop:=∃ s,v = .slice (some ⟨s,0,none⟩) Lss.length Lss.length ∧ ∀ i L,Lss[i]? = some L → ∃ u,At s i u w∧SlS w u L
def lenS:List (List Ra)→Nat
 | []=>0
 | L :: l=>L.length+lenS l
theorem lenS_app:∀ l m,lenS (l ++ m)=lenS l+lenS m
 | [],m=>by simp [lenS]
 | L :: l,m=>by have:=lenS_app l m;simp only[List.cons_append,lenS];omega
theorem lenS_take {l:List (List Ra)}{i:Nat}{L:List Ra}(h:l[i]? = some L):lenS (l.take (i+1))=lenS (l.take i)+L.length:=by
 rw[List.take_add_one,h,lenS_app];simp [lenS]
def LongRet (w:World) (Lss:List (List Ra)) (z:Ending) (w':World):Prop:=∃ c,z = .returned (.bool c)∧Ext w w'∧(c=false→lenS Lss≤40 ∧ ∀ L∈Lss,ShortS L)
set_option maxHeartbeats 4000000 in
set_option maxRecDepth 100000 in
theorem long24_calls {w:World}{v:Value}{Lss:List (List Ra)}(h:SlL w v Lss) (hm:Lss.length≤100) :
  Calls Tryz.prog 17 #[v] w (LongRet w Lss):=by
 obtain⟨s,rfl,h4⟩:=h
 obtain⟨m,hml⟩:∃ m,Lss.length=m:=⟨_,rfl⟩
 have H4:=Hd h4;have HM:=Hd hml;rw[hml]at hm ⊢;have M5:=Hd hm;clear h4 hml hm
 go_enter Tryz.func17,Tryz.ntmps17
 go_wp2_with fail
 go_loopw [3,4] (fun v3 v4 wr => ∃ i n:Nat,v3 = .int .i64 (n:Int)∧v4 = .int .i64 (i:Int)∧i≤m∧n≤40∧Ext w wr∧Hid (lenS (Lss.take i)=n ∧ ∀ j L,j<i→Lss[j]? = some L→ShortS L)) (fun _ v4 _=>m - (intOf v4).toNat)
 case atStart=>exact⟨0,0,rfl,rfl,Nat.zero_le _,Nat.zero_le _,Ext.refl _,rfl,fun j L hj=>absurd hj (Nat.not_lt_zero _)⟩
 case round =>
  rename World=>wr
  obtain⟨i,n,rfl,rfl,hi,hn,hx,HW⟩:=hrel;have XE:=Hd hx;have HN:=Hd hn;clear hx
  by_cases hlt:i<m
  ·have hli:(i:Int)<(m:Int):=by omega
   have hl1:(i:Int)+1≤(m:Int):=by omega
   have m5:=M5.out
   have hwi:IntKind.i64.wrap ((i:Int)+1)=((i+1:Nat):Int):=by rw[IntWalk.i64_in _ (by omega)];omega
   obtain⟨L,hL⟩:∃ y,Lss[i]? = some y:=⟨_,List.getElem?_eq_getElem (by rw[HM.out];exact hlt)⟩
   have HL:=Hd hL;obtain⟨u,hu,hsl⟩:=H4.out i L hL;have HU:=Hd hu;obtain⟨p,c,rfl,g1,g2,g3,g4⟩:=hsl;unfold maxLen at g2
   obtain⟨len,hlen⟩:∃ n,L.length=n:=⟨_,rfl⟩
   rw[hlen]at HU g1;have HLEN:=Hd hlen;have G4:=Hd g4;have h0:=(HU.out.ext XE.out).1;have fb:=(HU.out.ext XE.out).2
   have hlm:(len:Int)≤9223372036854775807:=by omega
   have LT:=Hd hlt
   by_cases hbig:40<n+len
   ·
    obtain⟨mn,hmn,hms,hml⟩:∃ x:Nat,min (1000:Int) (len:Int)=(x:Int)∧40<n+x∧x≤1000:=by
     by_cases h:len≤1000
     ·exact⟨len,by omega,hbig,h⟩
     ·exact⟨1000,by omega,by omega,Nat.le_refl _⟩
    have hwn:IntKind.i64.wrap ((n:Int)+(mn:Int))=((n+mn:Nat):Int):=by rw[IntWalk.i64_in _ (by omega)];omega
    have hg:(40:Int)<((n+mn:Nat):Int):=by omega
    have hg2:(40:Int)<(n:Int)+(mn:Int):=by omega
    clear hms hml hbig hi hn m5 hlt g1 g2 g3 g4 hL hu hlen;go_wp2_with fail;go_ret;exact⟨true,rfl,XE.out,fun h=>by cases h⟩
   ·have hle:n+len≤40:=Nat.le_of_not_lt hbig
    have hmn:min (1000:Int) (len:Int)=(len:Int):=by omega
    have hwn:IntKind.i64.wrap ((n:Int)+(len:Int))=((n+len:Nat):Int):=by rw[IntWalk.i64_in _ (by omega)];omega
    have hg:¬ (40:Int)<((n+len:Nat):Int):=by omega
    have hg2:¬ (40:Int)<(n:Int)+(len:Int):=by omega
    have HLE:=Hd hle;clear hbig hi hn m5 hlt g1 g2 g3 g4 hL hu hlen hle;go_wp2_with fail
    go_loopw [5] (fun v5 wi => ∃ k:Nat,v5 = .int .i64 (k:Int)∧k≤len∧Ext wr wi∧Hid (∀ j a,j<k→L[j]? = some a→(a.2.2.1.length≤6∧a.2.2.2.length≤6)∧szV a.1≤6000)) (fun v5 _=>len - (intOf v5).toNat)
    case atStart=>exact⟨0,rfl,Nat.zero_le _,Ext.refl _,fun j a hj=>absurd hj (Nat.not_lt_zero _)⟩
    case round =>
     rename World=>wi
     obtain⟨k,rfl,hk,hx,HK⟩:=hrel;have XI:=Hd hx;clear hx;have h0:=(HU.out.ext (XE.out.trans XI.out)).1;have fb:=(HU.out.ext (XE.out.trans XI.out)).2
     by_cases hlt:k<len
     ·have hlk:(k:Int)<(len:Int):=by omega
      have hlk1:(k:Int)+1≤(len:Int):=by omega
      have m6:=HLE.out
      have hwk:IntKind.i64.wrap ((k:Int)+1)=((k+1:Nat):Int):=by rw[IntWalk.i64_in _ (by omega)];omega
      have LTK:=Hd hlt
      obtain⟨a,ha⟩:∃ y,L[k]? = some y:=⟨_,List.getElem?_eq_getElem (by rw[HLEN.out];exact hlt)⟩
      have HA:=Hd ha;obtain⟨bl,off,cs,rfl,hra,hat⟩:=G4.out k a ha;obtain⟨vk,vn,vp,vx,vy,q1,c1,d1,r1,e1,f1,rfl,hv,hla,hld⟩:=hra;have XX:=XE.out.trans XI.out;have HV:=Hd (hv.ext XX);have HLA:=Hd (hla.ext XX);have HLD:=Hd (hld.ext XX)
      obtain⟨sg,hsg⟩:∃ b,a.2.1=b:=⟨_,rfl⟩
      rw[hsg]at hat;have HSG:=Hd hsg;have Y0:=Hd ((hat 0 _ rfl).ext XX);have Y1:=Hd ((hat 1 _ rfl).ext XX);have Y2:=Hd ((hat 2 _ rfl).ext XX);have y3:=((hat 3 _ rfl).ext XX).1;have y4:=((hat 4 _ rfl).ext XX).1;have y5:=((hat 5 _ rfl).ext XX).1;have fy:=((hat 5 _ rfl).ext XX).2;rw[Nat.add_zero]at Y0
      obtain⟨b1,hb1⟩:∃ b,longR [(sg,a.2.2.1,a.2.2.2)]=b:=⟨_,rfl⟩
      have HB1:=Hd hb1
      obtain⟨b2,hb2⟩:∃ b,decide (6000≤wgs [a.1] 0 6000)=b:=⟨_,rfl⟩
      have HB2:=Hd hb2
      have HC1:Hid (∀ X s,Ext wi X→At s 0 (.bool sg) X→At s 1 (.slice q1 c1 d1) X→At s 2 (.slice r1 e1 f1) X→Calls Tryz.prog 29 #[.slice (some ⟨s,0,none⟩) 1 1] X fun e w'=>e = .returned (.bool b1)∧Ext X w'):=fun X s hX a0 a1 a2 =>
       long_calls (Ls:=[(sg,a.2.2.1,a.2.2.2)]) (sl3_1 a0 a1 a2 ⟨rfl,HLA.out.ext hX,HLD.out.ext hX⟩) b1 hb1
      have HC2:Hid (∀ X,Ext wi X→Calls Tryz.prog 7 #[.slice (some ⟨X.heap.size,0,none⟩) 1 1] (X.alloc (.cells #[.int .u8 (vk:Int),.int .i64 vn,.slice vp vx vy] 29)) fun e w'=>e = .returned (.bool b2)∧Ext X w'):=fun X hX =>
       (long14_calls (slV_lit (w:=X) (A:=#[.int .u8 (vk:Int),.int .i64 vn,.slice vp vx vy]) (t := 29) (C:=[[.int .u8 (vk:Int),.int .i64 vn,.slice vp vx vy]]) (Ts:=[a.1]) rfl (fun e he=>by
        simp only[List.mem_cons,List.not_mem_nil,or_false]at he;subst he
        exact⟨rfl,vk,vn,vp,vx,vy,rfl⟩) 1 rfl (by decide) rfl (fun i cs t h1 h2=>by
        match i,h1,h2 with
        | 0,h1,h2=>simp only[List.getElem?_cons_zero,Option.some.injEq]at h1 h2;subst h1 h2;exact HV.out.ext hX
        | i+1,h1,h2=>simp at h1)) b2 hb2).mono fun e w' ⟨q,x⟩=>⟨q,(eR.alloc _).trans x⟩
      clear hk hlt m6 ha hat hv hla hld hsg XX hb1 hb2;go_wp2_with fail;refine (HC1.out _ _ (eR.alloc _) (at_new rfl) (at_new rfl) (at_new rfl)).mono ?_;rintro z w1 ⟨rfl,x1⟩;have X1:Hid (Ext wi w1):=(eR.alloc _).trans x1;have z0:=(HU.out.ext (XE.out.trans (XI.out.trans X1.out))).1;have zf:=(HU.out.ext (XE.out.trans (XI.out.trans X1.out))).2;clear x1 y3 y4 y5 fy h0 fb
      cases b1
      case true =>
       go_wp2_with fail;go_ret;exact⟨true,rfl,XE.out.trans (XI.out.trans X1.out),fun h=>by cases h⟩
      case false =>
       have y0:=(Y0.out.ext X1.out).1;have y1:=(Y1.out.ext X1.out).1;have y2:=(Y2.out.ext X1.out).1;have fy:=(Y2.out.ext X1.out).2;go_wp2_with fail;refine (HC2.out _ X1.out).mono ?_;rintro z w2 ⟨rfl,x2⟩;have X2:=Hd (X1.out.trans x2);clear x2 y0 y1 y2 fy z0 zf
       cases b2
       case true =>
        go_wp2_with fail;go_ret;exact⟨true,rfl,XE.out.trans (XI.out.trans X2.out),fun h=>by cases h⟩
       case false =>
        have HSH:Hid ((a.2.2.1.length≤6∧a.2.2.2.length≤6)∧szV a.1≤6000):=⟨longR_get (a:=(sg,a.2.2.1,a.2.2.2)) HB1.out (List.mem_singleton.2 rfl),long14_sz HB2.out _ (by simp)⟩
        go_wp2_with fail;refine⟨⟨k+1,by first | rfl | simp | rw[hwk],LTK.out,XI.out.trans X2.out,fun j b hj hb=>?_⟩,by simp only[intOf];have:=LTK.out;omega⟩
        rcases Nat.lt_succ_iff_lt_or_eq.1 hj with hj | hj
        ·exact HK.out j b hj hb
        ·subst hj;rw[HA.out]at hb;obtain rfl:=Option.some.inj hb;exact HSH.out
     ·have hlk:¬ (k:Int)<(len:Int):=by omega
      have hkl:k=len:=by omega
      have HSS:Hid (ShortS L):=fun a ha=>by
       obtain⟨j,hj⟩:=List.getElem?_of_mem ha;exact HK.out j a (by have:=(List.getElem?_eq_some_iff.1 hj).1;rw[HLEN.out]at this;omega) hj
      clear hk hlt hkl;go_wp2_with fail;refine⟨⟨i+1,n+len,by first | rfl | simp,by first | rfl | simp | rw[hwi],LT.out,HLE.out,XE.out.trans XI.out,?_⟩,by simp only[intOf];have:=LT.out;omega⟩;refine⟨by rw[lenS_take HL.out,HW.out.1,HLEN.out],fun j M hj hM=>?_⟩
      rcases Nat.lt_succ_iff_lt_or_eq.1 hj with hj | hj
      ·exact HW.out.2 j M hj hM
      ·subst hj;rw[HL.out]at hM;obtain rfl:=Option.some.inj hM;exact HSS.out
  ·have hli:¬ (i:Int)<(m:Int):=by omega
   have him:i=m:=by omega
   have HF:Hid (lenS Lss≤40 ∧ ∀ L∈Lss,ShortS L):=by
    obtain⟨h1,h2⟩:=HW.out;rw[him,List.take_of_length_le (by rw[HM.out];exact Nat.le_refl _)]at h1;refine⟨by rw[h1];exact HN.out,fun L hL=>?_⟩;obtain⟨j,hj⟩:=List.getElem?_of_mem hL;exact h2 j L (by have:=(List.getElem?_eq_some_iff.1 hj).1;rw[HM.out]at this;omega) hj
   clear hi hn hlt him;go_wp2_with fail;go_ret;exact⟨false,rfl,XE.out,fun _=>HF.out⟩
end Go.Proofs.YtfofjalebhajhaaGreatDoor
