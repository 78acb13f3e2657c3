/- stableCmpFunc and SortStableFunc of shares. -/
import Derived.Test.YtfofjalebhajhaaGreatDoorShare8
namespace Go.Proofs.YtfofjalebhajhaaGreatDoor
open Go Go.RowKit
inductive Full (k:Nat):List Sh→Prop
 | nil:Full k []
 | cons {B R:List Sh}(hl:B.length=k) (hs:SortedS B) (h:Full k R):Full k (B ++ R)
theorem Full.append {k:Nat}{A B:List Sh}(h:Full k A) (g:Full k B):Full k (A ++ B):=by
 induction h with
 | nil=>exact g
 | cons hl hs _ ih=>rw[List.append_assoc];exact .cons hl hs ih
theorem Full.one {k:Nat}{B:List Sh}(hl:B.length=k) (hs:SortedS B):Full k B:=by
 have:=Full.cons hl hs (Full.nil (k:=k));simpa using this
def Blk (k:Nat) (R:List Sh):Prop:=∃ D T,R=D ++ T∧Full k D∧T.length<k∧SortedS T
theorem Blk.split {k:Nat}{R:List Sh}(h:Blk k R) (hl:2*k≤R.length) (hk:1≤k):∃ X Y R',R=X ++ Y ++ R'∧X.length=k∧Y.length=k∧SortedS X∧SortedS Y∧Blk k R':=by
 obtain⟨D,T,rfl,hD,hT,hs⟩:=h
 cases hD with
 | nil=>simp at hl;omega
 | cons h1 h2 h3 =>
  cases h3 with
  | nil=>simp at hl;omega
  | cons g1 g2 g3=>exact⟨_,_,_,by rw[List.append_assoc,List.append_assoc,←List.append_assoc],h1,g1,h2,g2,_,T,rfl,g3,hT,hs⟩
theorem Blk.last {k:Nat}{R:List Sh}(h:Blk k R) (hl:R.length<2*k) (hk:k<R.length):∃ X Y,R=X ++ Y∧X.length=k∧1≤Y.length∧SortedS X∧SortedS Y:=by
 obtain⟨D,T,rfl,hD,hT,hs⟩:=h
 cases hD with
 | nil=>simp at hk;omega
 | cons h1 h2 h3 =>
  cases h3 with
  | nil=>exact⟨_,T,by simp,h1,by simp at hk;omega,h2,hs⟩
  | cons g1 g2 g3=>simp at hl;omega
theorem Blk.low {k:Nat}{R:List Sh}(h:Blk k R) (hl:R.length≤k):SortedS R:=by
 obtain⟨D,T,rfl,hD,hT,hs⟩:=h
 cases hD with
 | nil=>simpa using hs
 | cons h1 h2 h3 =>
  cases h3 with
  | nil =>
   have:T = []:=List.eq_nil_of_length_eq_zero (by simp at hl;omega);subst this;simpa using h2
  | cons g1 g2 g3 =>
   simp at hl;omega
set_option maxHeartbeats 2000000 in
set_option maxRecDepth 1000000 in
theorem stable_calls {g cap:Nat}{R:List Sh}{w:World}(hR:RowS g cap R w) (hlen:R.length≤100000){n:Nat}(hn:R.length=n) :
  Calls Tryz.prog 106 #[.slice (some ⟨g,0,none⟩) n cap,.int .i64 (n:Int),.func (.func 53) #[] #[]] w fun e w'=>e = .returned (.tuple #[]) ∧ ∃ R',RowS g cap R' w'∧Below g w w'∧R'.Perm R∧SortedS R'∧(n≤20→SortedS R→R'=R):=by
 have HM:=Hd hn;have HR:=Hd hR
 have M5:Hid (n≤100000):=by show _≤_;rw[←hn];exact hlen
 clear hR hn hlen
 go_enter Tryz.func106,Tryz.ntmps106
 go_wp2_with fail
 go_loopw [7,8] (fun v7 v8 wr => ∃ (a b:Nat) (D U:List Sh),v7 = .int .i64 (a:Int)∧v8 = .int .i64 (b:Int)∧Hid (b=a+20)∧Hid (a≤n)∧Hid (D.length=a)∧Full 20 D∧(D ++ U).Perm R∧(SortedS R→D ++ U=R)∧RowS g cap (D ++ U) wr∧Below g w wr) (fun v7 _ _=>n - (intOf v7).toNat)
 case atStart=>exact⟨0,20,[],R,rfl,rfl,rfl,Nat.zero_le _,rfl,.nil,List.Perm.refl _,fun _=>rfl,HR.out,Below.refl _ _⟩
 case round =>
  rename World=>wr
  obtain⟨a,b,D,U,rfl,rfl,HAB,HAN,HD,hF,hP,hS,hRow,hBl⟩:=hrel;have HF:=Hd hF;have HP:=Hd hP;have HS:=Hd hS;have RR:=Hd hRow;have BB:=Hd hBl
  have HL:Hid ((D ++ U).length=n):=by show _=_;rw[hP.length_eq];exact HM.out
  clear hF hP hS hRow hBl;have m5:=M5.out;have hab:=HAB.out;have han:=HAN.out
  by_cases hbn:b≤n
  ·have hbi:(b:Int)≤(n:Int):=by omega
   have hwb:IntKind.i64.wrap ((b:Int)+20)=((b+20:Nat):Int):=by rw[IntWalk.i64_in _ (by omega)];omega
   have HIC:=Hd (insSort_calls RR.out a b (by omega) (by rw[HL.out];exact hbn) (by rw[HL.out];exact m5));rw[HL.out]at HIC;have HBN:=Hd hbn;clear m5 hab han hbn;go_wp2_with fail;refine HIC.out.mono ?_;rintro e w1 ⟨rfl,L',r1,x1,i1⟩
   have FZ:Hid (∃ B U',L'=D ++ (B ++ U')∧B.length=20∧SortedS B∧(D ++ (B ++ U')).Perm R∧(SortedS R→D ++ (B ++ U')=R)):=by
    obtain⟨P,S,S',T,e1,e2,e3,e4,e5,e6,e7⟩:=i1.ex
    have h1:D=P:=by
     have h2:=congrArg (List.take a) e1;rw[List.take_left' HD.out,List.append_assoc,List.take_left' e3]at h2;exact h2
    have hUT:U=S ++ T:=by rw[h1,List.append_assoc]at e1;exact List.append_cancel_left e1
    refine⟨S',T,by rw[e2,h1];simp,by rw[e5.length_eq,e4];have:=HAB.out;omega,e6,?_,fun hs=>?_⟩
    ·refine List.Perm.trans ?_ HP.out;rw[hUT];exact (List.Perm.append_right T e5).append_left D
    ·have h3:=HS.out hs;rw[←h3,hUT]at hs;rw[e7 ((List.pairwise_append.1 (List.pairwise_append.1 hs).2.1).1),←hUT];exact h3
   have R1:=Hd r1;have B1:=Hd x1;clear r1 x1 i1 HIC;go_wp2_with fail;obtain⟨B,U',e1,e2,e3,e4,e5⟩:=FZ.out;refine⟨⟨b,b+20,D ++ B,U',rfl,by first | rfl | simp | rw[hwb],rfl,HBN.out,by show _=_;rw[List.length_append,HD.out,e2];exact HAB.out.symm,HF.out.append (Full.one e2 e3),by rw[List.append_assoc];exact e4,fun hs=>by rw[List.append_assoc];exact e5 hs,by rw[List.append_assoc,←e1];exact R1.out,Below.trans BB.out B1.out⟩,by simp only[intOf];have:=HAB.out;have:=HBN.out;omega⟩
  ·have hbi:¬ (b:Int)≤(n:Int):=by omega
   have HIC:=Hd (insSort_calls RR.out a n (by omega) (by rw[HL.out];exact Nat.le_refl _) (by rw[HL.out];exact m5));rw[HL.out]at HIC;have HBN:=Hd hbn;clear m5 hab han hbn;go_wp2_with fail;refine HIC.out.mono ?_;rintro e w1 ⟨rfl,L',r1,x1,i1⟩
   have FZ:Hid (Blk 20 L'∧L'.Perm R∧(SortedS R→L'=R)):=by
    obtain⟨P,S,S',T,e1,e2,e3,e4,e5,e6,e7⟩:=i1.ex
    have h1:D=P:=by
     have h2:=congrArg (List.take a) e1;rw[List.take_left' HD.out,List.append_assoc,List.take_left' e3]at h2;exact h2
    have hT:T = []:=by
     have h2:=congrArg List.length e1;rw[HL.out,List.length_append,List.length_append,e3,e4]at h2;exact List.eq_nil_of_length_eq_zero (by have:=HAN.out;omega)
    subst hT
    have hUT:U=S:=by rw[h1,List.append_assoc,List.append_nil]at e1;exact List.append_cancel_left e1
    rw[List.append_nil]at e2;refine⟨⟨D,S',by rw[e2,h1],HF.out,by rw[e5.length_eq,e4];have:=HAB.out;have:=HBN.out;omega,e6⟩,?_,fun hs=>?_⟩
    ·refine List.Perm.trans ?_ HP.out;rw[e2,←h1,hUT];exact e5.append_left D
    ·have h3:=HS.out hs;rw[←h3,hUT]at hs;rw[e2,e7 (List.pairwise_append.1 hs).2.1,←h1,←hUT];exact h3
   have R1:=Hd r1;have B1:=Hd (Below.trans BB.out x1);clear r1 x1 i1 HIC hbi;go_wp2_with fail
   go_loopw [6,7,8,9] (fun v6 _ _ _ wr => ∃ (bs:Nat) (L:List Sh),v6 = .int .i64 (bs:Int)∧Hid (20≤bs)∧Hid (bs≤200000)∧Hid (L.length=n)∧Blk bs L∧L.Perm R∧(n≤20→SortedS R→L=R)∧RowS g cap L wr∧Below g w wr) (fun v6 _ _ _ _=>n - (intOf v6).toNat)
   case atStart=>exact⟨20,L',rfl,Nat.le_refl _,(by show _≤_;omega),(by show _=_;rw[FZ.out.2.1.length_eq];exact HM.out),FZ.out.1,FZ.out.2.1,fun _ hs=>FZ.out.2.2 hs,R1.out,B1.out⟩
   case round =>
    clear FZ R1 B1 HF HP HS RR BB HL HAB HAN HD HBN
    rename World=>wq
    obtain⟨bs,L,rfl,H20,HBS,HLL,hK,hP,hS,hRow,hBl⟩:=hrel;have HK:=Hd hK;have HP:=Hd hP;have HS:=Hd hS;have RR:=Hd hRow;have BB:=Hd hBl;clear hK hP hS hRow hBl;have m5:=M5.out;have h20:=H20.out;have hbs:=HBS.out
    by_cases hlt:bs<n
    ·have hlti:(bs:Int)<(n:Int):=by omega
     obtain⟨bb,hbb⟩:∃ bb,2*bs=bb:=⟨_,rfl⟩
     have hw2:IntKind.i64.wrap (2*(bs:Int))=(bb:Int):=by rw[IntWalk.i64_in _ (by omega)];omega
     have hw3:IntKind.i64.wrap ((bs:Int)*2)=(bb:Int):=by rw[IntWalk.i64_in _ (by omega)];omega
     have LT:=Hd hlt;have HBB:=Hd hbb;clear m5 h20 hbs hlt hbb;go_wp2_with fail
     go_loopw [7,8] (fun v7 v8 wr => ∃ (a b:Nat) (D U:List Sh),v7 = .int .i64 (a:Int)∧v8 = .int .i64 (b:Int)∧Hid (b=a+bb)∧Hid (a≤n)∧Hid (D.length=a)∧Full bb D∧Blk bs U∧(D ++ U).Perm R∧RowS g cap (D ++ U) wr∧Below g w wr) (fun v7 _ _=>n - (intOf v7).toNat)
     case atStart=>exact⟨0,bb,[],L,rfl,rfl,(Nat.zero_add _).symm,Nat.zero_le _,rfl,.nil,HK.out,HP.out,RR.out,BB.out⟩
     case round =>
      clear RR BB HK
      rename World=>wr
      obtain⟨a,b,D,U,rfl,rfl,HAB,HAN,HD,hF,hK,hP2,hRow,hBl⟩:=hrel;have HF:=Hd hF;have HK:=Hd hK;have HP2:=Hd hP2;have RR:=Hd hRow;have BB:=Hd hBl
      have HL:Hid (D.length+U.length=n):=by show _=_;rw[←List.length_append,hP2.length_eq];exact HM.out
      clear hF hK hP2 hRow hBl;have m5:=M5.out;have h20:=H20.out;have hbs:=HBS.out;have hab:=HAB.out;have han:=HAN.out;have hd:=HD.out;have hl:=HL.out;have hbb:=HBB.out;have lt:=LT.out
      obtain⟨k,hk⟩:∃ k,a+bs=k:=⟨_,rfl⟩
      have hwk:IntKind.i64.wrap ((a:Int)+(bs:Int))=(k:Int):=by rw[IntWalk.i64_in _ (by omega)];omega
      by_cases hbn:b≤n
      ·have hbi:(b:Int)≤(n:Int):=by omega
       have hwb:IntKind.i64.wrap ((b:Int)+(bb:Int))=((b+bb:Nat):Int):=by rw[IntWalk.i64_in _ (by omega)];omega
       obtain⟨X,Y,U',hU,hX,hY,hsX,hsY,hB⟩:=HK.out.split (by omega) (by omega);have HIC:=Hd (symm_calls (b - a) g cap (D ++ U) wr D X Y U' n a k b RR.out (by rw[List.length_append];omega) (by rw[hU];simp) (by rw[List.length_append];omega) HD.out (by omega) (by omega) (by omega) (by omega) hsX hsY (by omega));have HU:=Hd hU;have HXL:=Hd hX;have HYL:=Hd hY;have HKB:=Hd hB;have HBN:=Hd hbn;clear m5 h20 hbs hab han hd hl hbb lt hk hbn hU hX hY hsX hsY hB;go_wp2_with fail;refine HIC.out.mono ?_;rintro e w1 ⟨rfl,Z,r1,x1,p1,s1⟩;have R1:=Hd r1;have B1:=Hd x1;have P1:=Hd p1;have S1:=Hd s1;clear r1 x1 p1 s1 HIC;go_wp2_with fail
       have hZL:Z.length=bb:=by rw[P1.out.length_eq,List.length_append,HXL.out,HYL.out];have:=HBB.out;omega
       refine⟨⟨b,b+bb,D ++ Z,U',rfl,by first | rfl | simp | rw[hwb],rfl,HBN.out,by show _=_;rw[List.length_append,HD.out,hZL];exact HAB.out.symm,HF.out.append (Full.one hZL S1.out),HKB.out,?_,R1.out,Below.trans BB.out B1.out⟩,by simp only[intOf];have:=HAB.out;have:=HBN.out;have:=HBB.out;have:=H20.out;omega⟩;refine List.Perm.trans ?_ HP2.out;rw[HU.out,List.append_assoc,List.append_assoc X Y U',←List.append_assoc X Y U'];exact (List.Perm.append_right U' P1.out).append_left D
      ·have hbi:¬ (b:Int)≤(n:Int):=by omega
       have FIN:Hid (∀ (L':List Sh) wz,Blk bb L'→L'.Perm R→RowS g cap L' wz→Below g w wz→(∃ (bs:Nat) (L:List Sh),Value.int .i64 (bb:Int) = .int .i64 (bs:Int)∧Hid (20≤bs)∧Hid (bs≤200000)∧Hid (L.length=n)∧Blk bs L∧L.Perm R∧(n≤20→SortedS R→L=R)∧RowS g cap L wz∧Below g w wz)∧n - (intOf (.int .i64 (bb:Int))).toNat<n - (intOf (.int .i64 (bs:Int))).toNat):=by
        intro L' wz h1 h2 h3 h4;refine⟨⟨bb,L',rfl,(by show _≤_;omega),(by show _≤_;omega),(by show _=_;rw[h2.length_eq];exact HM.out),h1,h2,fun h=>absurd h (by omega),h3,h4⟩,by simp only[intOf];omega⟩
       by_cases hkn:k<n
       ·have hki:(k:Int)<(n:Int):=by omega
        obtain⟨X,Y,hU,hX,hY,hsX,hsY⟩:=HK.out.last (by omega) (by omega)
        have hUl:U.length=X.length+Y.length:=by rw[hU,List.length_append]
        have HIC:=Hd (symm_calls (n - a) g cap (D ++ U) wr D X Y [] n a k n RR.out (by rw[List.length_append];omega) (by rw[hU];simp) (by rw[List.length_append];omega) HD.out (by omega) (by omega) (by omega) hY hsX hsY (by omega))
        have FZ:Hid (∀ Z,Z.Perm (X ++ Y)→SortedS Z→Blk bb (D ++ Z ++ [])∧(D ++ Z ++ []).Perm R):=by
         intro Z p1 s1;rw[List.append_nil];exact⟨⟨D,Z,rfl,HF.out,by rw[p1.length_eq,List.length_append];omega,s1⟩,(p1.append_left D).trans (by rw[←hU];exact HP2.out)⟩
        clear m5 h20 hbs hab han hd hl hbb lt hk hbn hkn hU hX hY hsX hsY hUl;go_wp2_with fail;refine HIC.out.mono ?_;rintro e w1 ⟨rfl,Z,r1,x1,p1,s1⟩;have F2:=Hd (FIN.out _ _ (FZ.out Z p1 s1).1 (FZ.out Z p1 s1).2 r1 (Below.trans BB.out x1));clear r1 x1 p1 s1 HIC FIN FZ;go_wp2_with fail;exact F2.out
       ·have hki:¬ (k:Int)<(n:Int):=by omega
        have F2:=Hd (FIN.out _ _ ⟨D,U,rfl,HF.out,by omega,HK.out.low (by omega)⟩ HP2.out RR.out BB.out);clear m5 h20 hbs hab han hd hl hbb lt hk hbn hkn FIN;go_wp2_with fail;exact F2.out
    ·have hlti:¬ (bs:Int)<(n:Int):=by omega
     have HSL:Hid (SortedS L):=HK.out.low (by rw[HLL.out];omega);clear m5 h20 hbs hlt;go_wp2_with fail
     go_end0
     exact⟨rfl,L,RR.out,BB.out,HP.out,HSL.out,HS.out⟩
theorem sortStable_calls {g cap:Nat}{R:List Sh}{w:World}(hR:RowS g cap R w) (hlen:R.length≤100000){n:Nat}(hn:R.length=n) :
  Calls Tryz.prog 80 #[.slice (some ⟨g,0,none⟩) n cap,.func (.func 53) #[] #[]] w fun e w'=>e = .returned (.tuple #[]) ∧ ∃ R',RowS g cap R' w'∧Below g w w'∧R'.Perm R∧SortedS R'∧(n≤20→SortedS R→R'=R):=by
 have HIC:=Hd (stable_calls hR hlen hn);clear hR hlen hn
 go_enter Tryz.func80,Tryz.ntmps80
 go_wp2_with fail;refine HIC.out.mono ?_;rintro e w1 ⟨rfl,h⟩;have H:=Hd h;clear h HIC;go_wp2_with fail
 go_end0
 exact⟨rfl,H.out⟩
theorem insSort_nil (w:World) :
  Calls Tryz.prog 134 #[.slice none 0 0,.int .i64 0,.int .i64 0,.func (.func 53) #[] #[]] w fun e w'=>e = .returned (.tuple #[])∧w'=w:=by
 go_enter Tryz.func134,Tryz.ntmps134
 go_wp2_with fail
 go_loopw [8] (fun v8 wr=>v8 = .int .i64 1∧wr=w) (fun _ _=>0)
 case atStart=>exact⟨rfl,rfl⟩
 case round =>
  obtain⟨rfl,rfl⟩:=hrel;go_wp2_with fail
  go_end0
  exact⟨rfl,rfl⟩
theorem stable_nil (w:World) :
  Calls Tryz.prog 106 #[.slice none 0 0,.int .i64 0,.func (.func 53) #[] #[]] w fun e w'=>e = .returned (.tuple #[])∧w'=w:=by
 go_enter Tryz.func106,Tryz.ntmps106
 go_wp2_with fail
 go_loopw [7,8] (fun v7 v8 wr=>v7 = .int .i64 0∧v8 = .int .i64 20∧wr=w) (fun _ _ _=>0)
 case atStart=>exact⟨rfl,rfl,rfl⟩
 case round =>
  obtain⟨rfl,rfl,rfl⟩:=hrel;go_wp2_with fail;refine (insSort_nil _).mono ?_;rintro e w1 ⟨rfl,rfl⟩;go_wp2_with fail
  go_loopw [6] (fun v6 wr=>v6 = .int .i64 20∧wr=w1) (fun _ _=>0)
  case atStart=>exact⟨rfl,rfl⟩
  case round =>
   obtain⟨rfl,rfl⟩:=hrel;go_wp2_with fail
   go_end0
   exact⟨rfl,rfl⟩
theorem sortStable_nil (w:World) :
  Calls Tryz.prog 80 #[.slice none 0 0,.func (.func 53) #[] #[]] w fun e w'=>e = .returned (.tuple #[])∧w'=w:=by
 go_enter Tryz.func80,Tryz.ntmps80
 go_wp2_with fail;refine (stable_nil _).mono ?_;rintro e w1 ⟨rfl,rfl⟩;go_wp2_with fail
 go_end0
 exact⟨rfl,rfl⟩
end Go.Proofs.YtfofjalebhajhaaGreatDoor
