/- rotateCmpFunc of shares. -/
import Derived.Test.YtfofjalebhajhaaGreatDoorShare4
namespace Go.Proofs.YtfofjalebhajhaaGreatDoor
open Go Go.RowKit
set_option maxHeartbeats 1000000 in
set_option maxRecDepth 1000000 in
theorem rotate_calls {g cap:Nat}{R:List Sh}{w:World}(hR:RowS g cap R w) (hlen:R.length≤100000){P X Y T:List Sh}(he:R=P ++ X ++ Y ++ T){m a k b:Nat}(hm:R.length=m) (ha:P.length=a) (hk:a+X.length=k) (hb:k+Y.length=b) (hx:1≤X.length) (hy:1≤Y.length) :
  Calls Tryz.prog 147 #[.slice (some ⟨g,0,none⟩) m cap,.int .i64 (a:Int),.int .i64 (k:Int),.int .i64 (b:Int),.func (.func 53) #[] #[]] w fun e w'=>e = .returned (.tuple #[])∧RowS g cap (P ++ Y ++ X ++ T) w'∧Below g w w':=by
 have HM:=Hd hm;have HR:=Hd hR;have HE:=Hd he;have HA:=Hd ha;have HK:=Hd hk;have HB:=Hd hb;have HX:=Hd hx;have HY:=Hd hy
 have hbm:b≤m:=by rw[←hm,he];simp;omega
 have hm5:m≤100000:=by rw[←hm];exact hlen
 obtain⟨i0,hi0⟩:∃ i,X.length=i:=⟨_,rfl⟩
 obtain⟨j0,hj0⟩:∃ i,Y.length=i:=⟨_,rfl⟩
 have HI0:=Hd hi0;have HJ0:=Hd hj0
 have hw1:IntKind.i64.wrap ((k:Int) - (a:Int))=(i0:Int):=by rw[IntWalk.i64_in _ (by omega)];omega
 have hw2:IntKind.i64.wrap ((b:Int) - (k:Int))=(j0:Int):=by rw[IntWalk.i64_in _ (by omega)];omega
 have KM:Hid (k+j0≤m):=by show _≤_;omega
 have M5:=Hd hm5
 have SZ:Hid (i0≤k):=by show _≤_;omega
 clear hR hm ha hb hk he hlen hx hy hbm hm5 hi0 hj0
 go_enter Tryz.func147,Tryz.ntmps147
 go_wp2_with fail
 go_loopw [10,11] (fun v10 v11 wr => ∃ (i j:Nat) (L P' X' Y' T':List Sh),v10 = .int .i64 (i:Int)∧v11 = .int .i64 (j:Int)∧Hid (1≤i)∧Hid (1≤j)∧Hid (i≤i0)∧Hid (j≤j0)∧Hid (X'.length=i)∧Hid (Y'.length=j)∧Hid (P'.length+i=k)∧Hid (L=P' ++ X' ++ Y' ++ T')∧Hid (L.length=m)∧Hid (P ++ Y ++ X ++ T=P' ++ Y' ++ X' ++ T')∧RowS g cap L wr∧Below g w wr) (fun v10 v11 _=>(intOf v10).toNat+(intOf v11).toNat)
 case atStart=>exact⟨i0,j0,R,P,X,Y,T,rfl,rfl,by show _≤_;rw[←HI0.out];exact HX.out,by show _≤_;rw[←HJ0.out];exact HY.out,Nat.le_refl _,Nat.le_refl _,HI0.out,HJ0.out,by show _=_;rw[←HK.out,HA.out,HI0.out],HE.out,HM.out,rfl,HR.out,Below.refl _ _⟩
 case round =>
  rename World=>wr
  obtain⟨i,j,L,P',X',Y',T',rfl,rfl,H1,H2,H3,H4,HXL,HYL,HPL,HL,HLM,HT,hRow,hBl⟩:=hrel;have RR:=Hd hRow;have HBL:=Hd hBl;clear hRow hBl;have b1:=H1.out;have b2:=H2.out;have b3:=H3.out;have b4:=H4.out;have b5:=HPL.out;have b6:=KM.out;have b7:=M5.out;have b8:=SZ.out
  have hkj:k+j≤m:=by rw[←HLM.out,HL.out];simp only[List.length_append,HXL.out,HYL.out];omega
  by_cases hij:i=j
  ·subst hij
   have HSW:Hid (Calls Tryz.prog 153 #[.slice (some ⟨g,0,none⟩) m cap,.int .i64 (P'.length:Int),.int .i64 (k:Int),.int .i64 (i:Int),.func (.func 53) #[] #[]] wr fun e w'=>e = .returned (.tuple #[])∧RowS g cap (P' ++ Y' ++ [] ++ X' ++ T') w'∧Below g wr w') :=
    swapRange_calls RR.out (by rw[HLM.out];exact b7) (P:=P') (X:=X') (M:=[]) (Y:=Y') (T:=T') (by rw[HL.out];simp) HLM.out rfl (by simp;exact b5) HXL.out HYL.out
   have hw3:IntKind.i64.wrap ((k:Int) - (i:Int))=(P'.length:Int):=by rw[IntWalk.i64_in _ (by omega)];omega
   clear b1 b2 b3 b4 b5 b6 b7 b8 hkj;go_wp2_with fail;refine HSW.out.mono ?_;rintro e w1 ⟨rfl,r1,x1⟩;have RZ:=Hd r1;have BZ:=Hd x1;clear r1 x1;go_wp2_with fail
   go_end0
   refine⟨rfl,?_,Below.trans HBL.out BZ.out⟩;rw[HT.out]
   simpa using RZ.out
  ·have n1:¬ (i:Int)=(j:Int):=by omega
   by_cases hgt:j<i
   ·have g1:(j:Int)<(i:Int):=by omega
    obtain⟨X1,X2,hX,hX1⟩:∃ X1 X2,X'=X1 ++ X2∧X1.length=j:=⟨X'.take j,X'.drop j,(List.take_append_drop _ _).symm,by rw[List.length_take,HXL.out];omega⟩
    have hX2:X2.length=i - j:=by have h:=HXL.out;rw[hX,List.length_append]at h;omega
    have HSW:Hid (Calls Tryz.prog 153 #[.slice (some ⟨g,0,none⟩) m cap,.int .i64 (P'.length:Int),.int .i64 (k:Int),.int .i64 (j:Int),.func (.func 53) #[] #[]] wr fun e w'=>e = .returned (.tuple #[])∧RowS g cap (P' ++ Y' ++ X2 ++ X1 ++ T') w'∧Below g wr w') :=
     swapRange_calls RR.out (by rw[HLM.out];exact b7) (P:=P') (X:=X1) (M:=X2) (Y:=Y') (T:=T') (by rw[HL.out,hX];simp) HLM.out rfl (by rw[hX2];omega) hX1 HYL.out
    have hw3:IntKind.i64.wrap ((k:Int) - (i:Int))=(P'.length:Int):=by rw[IntWalk.i64_in _ (by omega)];omega
    have hw4:IntKind.i64.wrap ((i:Int) - (j:Int))=((i - j:Nat):Int):=by rw[IntWalk.i64_in _ (by omega)];omega
    have FIN:Hid (∀ w1,RowS g cap (P' ++ Y' ++ X2 ++ X1 ++ T') w1→Below g wr w1→(∃ (i' j':Nat) (L P' X' Y' T':List Sh),Value.int .i64 ((i - j:Nat):Int) = .int .i64 (i':Int)∧Value.int .i64 (j:Int) = .int .i64 (j':Int)∧Hid (1≤i')∧Hid (1≤j')∧Hid (i'≤i0)∧Hid (j'≤j0)∧Hid (X'.length=i')∧Hid (Y'.length=j')∧Hid (P'.length+i'=k)∧Hid (L=P' ++ X' ++ Y' ++ T')∧Hid (L.length=m)∧Hid (P ++ Y ++ X ++ T=P' ++ Y' ++ X' ++ T')∧RowS g cap L w1∧Below g w w1)∧(intOf (.int .i64 ((i - j:Nat):Int))).toNat+(intOf (.int .i64 (j:Int))).toNat<(intOf (.int .i64 (i:Int))).toNat+(intOf (.int .i64 (j:Int))).toNat):=by
     intro w1 r1 x1;refine⟨⟨i - j,j,_,P' ++ Y',X2,X1,T',rfl,rfl,(by show _≤_;omega),H2.out,(by show _≤_;omega),H4.out,hX2,hX1,(by show _=_;rw[List.length_append,HYL.out];omega),rfl,(by show _=_;rw[←HLM.out,HL.out,hX];simp;omega),(by show _=_;rw[HT.out,hX];simp),r1,Below.trans HBL.out x1⟩,?_⟩;simp only[intOf];omega
    clear b1 b2 b3 b4 b5 b6 b7 b8 hkj hX hX1 hX2 hij hgt;go_wp2_with fail;refine HSW.out.mono ?_;rintro e w1 ⟨rfl,r1,x1⟩;have FZ:=Hd (FIN.out _ r1 x1);clear r1 x1 FIN HSW;go_wp2_with fail;exact FZ.out
   ·have g1:¬ (j:Int)<(i:Int):=by omega
    obtain⟨Y1,Y2,hY,hY2⟩:∃ X1 X2,Y'=X1 ++ X2∧X2.length=i:=⟨Y'.take (j - i),Y'.drop (j - i),(List.take_append_drop _ _).symm,by rw[List.length_drop,HYL.out];omega⟩
    have hY1:Y1.length=j - i:=by have h:=HYL.out;rw[hY,List.length_append]at h;omega
    have HSW:Hid (Calls Tryz.prog 153 #[.slice (some ⟨g,0,none⟩) m cap,.int .i64 (P'.length:Int),.int .i64 ((k+j - i:Nat):Int),.int .i64 (i:Int),.func (.func 53) #[] #[]] wr fun e w'=>e = .returned (.tuple #[])∧RowS g cap (P' ++ Y2 ++ Y1 ++ X' ++ T') w'∧Below g wr w') :=
     swapRange_calls RR.out (by rw[HLM.out];exact b7) (P:=P') (X:=X') (M:=Y1) (Y:=Y2) (T:=T') (by rw[HL.out,hY];simp) HLM.out rfl (by rw[hY1];omega) HXL.out hY2
    have hw3:IntKind.i64.wrap ((k:Int) - (i:Int))=(P'.length:Int):=by rw[IntWalk.i64_in _ (by omega)];omega
    have hw4:IntKind.i64.wrap ((j:Int) - (i:Int))=((j - i:Nat):Int):=by rw[IntWalk.i64_in _ (by omega)];omega
    have hw5:IntKind.i64.wrap ((k:Int)+(j:Int))=(k:Int)+(j:Int):=by rw[IntWalk.i64_in _ (by omega)]
    have hw6:IntKind.i64.wrap ((k:Int)+(j:Int) - (i:Int))=((k+j - i:Nat):Int):=by rw[IntWalk.i64_in _ (by omega)];omega
    have FIN:Hid (∀ w1,RowS g cap (P' ++ Y2 ++ Y1 ++ X' ++ T') w1→Below g wr w1→(∃ (i' j':Nat) (L P' X' Y' T':List Sh),Value.int .i64 (i:Int) = .int .i64 (i':Int)∧Value.int .i64 ((j - i:Nat):Int) = .int .i64 (j':Int)∧Hid (1≤i')∧Hid (1≤j')∧Hid (i'≤i0)∧Hid (j'≤j0)∧Hid (X'.length=i')∧Hid (Y'.length=j')∧Hid (P'.length+i'=k)∧Hid (L=P' ++ X' ++ Y' ++ T')∧Hid (L.length=m)∧Hid (P ++ Y ++ X ++ T=P' ++ Y' ++ X' ++ T')∧RowS g cap L w1∧Below g w w1)∧(intOf (.int .i64 (i:Int))).toNat+(intOf (.int .i64 ((j - i:Nat):Int))).toNat<(intOf (.int .i64 (i:Int))).toNat+(intOf (.int .i64 (j:Int))).toNat):=by
     intro w1 r1 x1;refine⟨⟨i,j - i,_,P',Y2,Y1,X' ++ T',rfl,rfl,H1.out,(by show _≤_;omega),H3.out,(by show _≤_;omega),hY2,hY1,b5,rfl,(by show _=_;rw[←HLM.out,HL.out,hY];simp;omega),(by show _=_;rw[HT.out,hY];simp),(by simpa using r1),Below.trans HBL.out x1⟩,?_⟩;simp only[intOf];omega
    clear b1 b2 b3 b4 b5 b6 b7 b8 hkj hY hY1 hY2 hij hgt
    generalize k+j - i=kji at *
    go_wp2_with fail;refine HSW.out.mono ?_;rintro e w1 ⟨rfl,r1,x1⟩;have FZ:=Hd (FIN.out _ r1 x1);clear r1 x1 FIN HSW;go_wp2_with fail;exact FZ.out
end Go.Proofs.YtfofjalebhajhaaGreatDoor
