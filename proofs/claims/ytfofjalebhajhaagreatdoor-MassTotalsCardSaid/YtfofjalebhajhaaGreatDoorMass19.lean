/- tombolalaw14.weigh, tombolalaw14.Long. -/
import Derived.Test.YtfofjalebhajhaaGreatDoorMass14
namespace Go.Proofs.YtfofjalebhajhaaGreatDoor
open Go Go.RowKit
mutual
def wg:VT→Nat→Nat
 | .mk _ _ l,m=>wgs l 1 m
def wgs:List VT→Nat→Nat→Nat
 | [],n,_=>n
 | a :: l,n,m=>if n<m then wgs l (n+wg a (m - n)) m else n
end
theorem wgs_stop (l:List VT){n m:Nat}(h:¬ n<m):wgs l n m=n:=by
 cases l with
 | nil=>unfold wgs;rfl
 | cons a l=>unfold wgs;rw[if_neg h]
mutual
theorem wg_le:∀ (t:VT) (m:Nat),1≤m→wg t m≤m
 | .mk _ _ l,m,h=>by unfold wg;exact wgs_le l 1 m h
theorem wgs_le:∀ (l:List VT) (n m:Nat),n≤m→wgs l n m≤m
 | [],n,m,h=>by unfold wgs;exact h
 | a :: l,n,m,h=>by
  unfold wgs
  split
  ·rename_i h2
   have:=wg_le a (m - n) (by omega);exact wgs_le l _ m (by omega)
  ·exact h
end
mutual
theorem wg_sz:∀ (t:VT) (m:Nat),1≤m→wg t m<m→szV t=wg t m
 | .mk _ _ l,m,h,h2=>by
  unfold wg at h2 ⊢;unfold szV;have:=wgs_sz l 1 m h h2;omega
theorem wgs_sz:∀ (l:List VT) (n m:Nat),n≤m→wgs l n m<m→wgs l n m=n+szVs l
 | [],n,m,_,_=>by unfold wgs szVs;rfl
 | a :: l,n,m,h,h2=>by
  unfold wgs at h2 ⊢;unfold szVs
  split at h2
  ·rename_i h3
   rw[if_pos h3];have hle:=wg_le a (m - n) (by omega);have h4:=wgs_sz l (n+wg a (m - n)) m (by omega) h2;rw[h4]at h2 ⊢;have:=wg_sz a (m - n) (by omega) (by omega);omega
  ·omega
end
set_option maxHeartbeats 2000000 in
set_option maxRecDepth 100000 in
theorem weigh_step (k:Nat) (n0:Int) (l:List VT) (ih:∀ x∈l,∀ (w:World) (v:Value) (m:Nat),IsV w v x→1≤m→m≤6000→Calls Tryz.prog 42 #[v,.int .i64 (m:Int)] w fun z w'=>z = .returned (.int .i64 (wg x m:Int))∧Ext w w')
  (w:World) (p:Option Addr) (c:Nat) (h:IsV w (.agg #[.int .u8 (k:Int),.int .i64 n0,.slice p l.length c]) (.mk k n0 l)) (m:Nat) (h1:1≤m) (h2:m≤6000) :
  Calls Tryz.prog 42 #[.agg #[.int .u8 (k:Int),.int .i64 n0,.slice p l.length c],.int .i64 (m:Int)] w fun z w'=>z = .returned (.int .i64 (wg (.mk k n0 l) m:Int))∧Ext w w':=by
 have HLEN:Hid ((l.length:Int)≤9223372036854775807):=h.len;have HI:=Hd ih;have HV:=Hd h;have H1:=Hd h1;have H2:=Hd h2
 obtain⟨len,hlen⟩:∃ n,l.length=n:=⟨_,rfl⟩
 have HL:=Hd hlen;rw[hlen]at HV HLEN ⊢;clear ih h h1 h2 hlen
 go_enter Tryz.func42,Tryz.ntmps42
 go_wp2_with fail
 obtain⟨W1,hW1⟩:∃ X,X=w.alloc (.cells #[.int .u8 (k:Int),.int .i64 n0,.slice p len c] 29):=⟨_,rfl⟩
 obtain⟨b2,hb2⟩:∃ s,w.heap.size=s:=⟨_,rfl⟩
 have X1:Hid (Ext w W1):=by rw[hW1];exact eR.alloc _
 have PB:Hid (At b2 2 (.slice p len c) W1):=by rw[hW1,←hb2];exact at_new rfl
 rw[hb2,←hW1];clear hW1 hb2
 go_loopw [5,6] (fun v5 v6 wr => ∃ i n:Nat,v5 = .int .i64 (n:Int)∧v6 = .int .i64 (i:Int)∧i≤len∧n≤m∧Ext W1 wr∧Hid (wgs l 1 m=wgs (l.drop i) n m)) (fun _ v6 _=>len - (intOf v6).toNat)
 case atStart=>exact⟨0,1,rfl,rfl,Nat.zero_le _,H1.out,Ext.refl _,rfl⟩
 case round =>
  rename World=>wr
  obtain⟨i,n,rfl,rfl,hi,hn,hx,HW⟩:=hrel;have XE:=Hd hx;have y2:=(PB.out.ext hx).1;have fy:=(PB.out.ext hx).2;have HN:=Hd hn;clear hx
  by_cases hlt:i<len
  ·have hli:(i:Int)<(len:Int):=by omega
   have hl1:(i:Int)+1≤(len:Int):=by omega
   have m5:=HLEN.out
   have hwi:IntKind.i64.wrap ((i:Int)+1)=((i+1:Nat):Int):=by rw[IntWalk.i64_in _ (by omega)];omega
   by_cases hnm:n<m
   ·have hnl:(n:Int)<(m:Int):=by omega
    have hil:i<l.length:=by rw[HL.out];exact hlt
    have HD:Hid (l.drop i=l[i] :: l.drop (i+1)):=List.drop_eq_getElem_cons hil;obtain⟨bo,o,q,d,hp,a0,a1,a2,hv⟩:=(show IsV w (.agg #[.int .u8 (k:Int),.int .i64 n0,.slice p l.length c]) (.mk k n0 l) from by rw[HL.out];exact HV.out).item0 hil;subst hp;have XWR:=X1.out.trans XE.out;have h0:=(a0.ext XWR).1;have h1:=(a1.ext XWR).1;have h2:=(a2.ext XWR).1;have fb:=(a2.ext XWR).2
    obtain⟨d1,hd1⟩:∃ d,m - n=d:=⟨_,rfl⟩
    have hmn:(m:Int) - (n:Int)=(d1:Int):=by omega
    have m6:=H2.out
    have hwm:IntKind.i64.wrap ((m:Int) - (n:Int))=(d1:Int):=by rw[IntWalk.i64_in _ (by omega)];omega
    have hwm2:wrap64 ((m:Int) - (n:Int))=(d1:Int):=by unfold wrap64;omega
    obtain⟨g,hg⟩:∃ g,wg l[i] d1=g:=⟨_,rfl⟩
    have hgl:g≤d1:=by rw[←hg];exact wg_le _ _ (by omega)
    have HC:Hid (∀ X,Ext wr X→Calls Tryz.prog 42 #[.agg #[.int .u8 ((l[i]).k:Int),.int .i64 (l[i]).n,.slice q (l[i]).l.length d],.int .i64 (d1:Int)] X fun z w'=>z = .returned (.int .i64 (g:Int))∧Ext X w'):=fun X hX=>by
     rw[←hg];exact HI.out _ (List.getElem_mem hil) X _ d1 ((hv.ext XWR).ext hX) (by omega) (by omega)
    obtain⟨vk,hvk⟩:∃ a,((l[i]).k:Int)=a:=⟨_,rfl⟩
    obtain⟨vn,hvn⟩:∃ a,(l[i]).n=a:=⟨_,rfl⟩
    obtain⟨vl,hvl⟩:∃ a,(l[i]).l.length=a:=⟨_,rfl⟩
    rw[hvk]at h0 HC;rw[hvn]at h1 HC;rw[hvl]at h2 HC
    have hwn:IntKind.i64.wrap ((n:Int)+(g:Int))=((n+g:Nat):Int):=by rw[IntWalk.i64_in _ (by omega)];omega
    have hwn2:wrap64 ((n:Int)+(g:Int))=((n+g:Nat):Int):=by unfold wrap64;omega
    have HW2:Hid (wgs l 1 m=wgs (l.drop (i+1)) (n+g) m):=by
     show _=_
     rw[HW.out,HD.out]
     conv=>lhs;unfold wgs
     rw[if_pos hnm,hd1,hg]
    have LT:=Hd hlt
    have HNG:Hid (n+g≤m):=by show _≤_;omega
    clear HD hi hn m5 m6 hnm hil hv a0 a1 a2 XWR hd1 hg hgl hvk hvn hvl hlt hmn;go_wp2_with fail
    first | rw[hwm2] | skip
    refine (HC.out _ eR).mono ?_;rintro z w2 ⟨rfl,x2⟩;have X2:=Hd x2;clear x2 h0 h1 h2 fb y2 fy;go_wp2_with fail;refine⟨⟨i+1,n+g,?_,?_,LT.out,HNG.out,XE.out.trans X2.out,HW2.out⟩,?_⟩
    ·first | rfl | exact congrArg (Value.int .i64) hwn2 | simp | (rw[hwn2])
    ·first | rfl | simp | rw[hwi]
    ·clear hwn hwn2 hwm hwm2 hwi;simp only[intOf];have:=LT.out;omega
   ·have hnl:¬ (n:Int)<(m:Int):=by omega
    have HR:Hid (wg (.mk k n0 l) m=n):=by show _=_;unfold wg;rw[HW.out,wgs_stop _ hnm]
    clear hi hn m5 hnm hlt hwi;go_wp2_with fail;go_ret;exact⟨ret_eq (int_eq (by rw[HR.out])),X1.out.trans XE.out⟩
  ·have hli:¬ (i:Int)<(len:Int):=by omega
   have HR:Hid (wg (.mk k n0 l) m=n):=by
    show _=_
    unfold wg;rw[HW.out,List.drop_of_length_le (by rw[HL.out];omega)];unfold wgs;rfl
   clear hi hn hlt;go_wp2_with fail;go_ret;exact⟨ret_eq (int_eq (by rw[HR.out])),X1.out.trans XE.out⟩
theorem weigh_calls:∀ (t:VT) (w:World) (v:Value) (m:Nat),IsV w v t→1≤m→m≤6000→Calls Tryz.prog 42 #[v,.int .i64 (m:Int)] w fun z w'=>z = .returned (.int .i64 (wg t m:Int))∧Ext w w':=by
 refine VT.ind1 ?_;intro k n l ih w v m h h1 h2;obtain⟨p,c,rfl⟩:=h.shape;exact weigh_step k n l ih w p c h m h1 h2
set_option maxHeartbeats 2000000 in
set_option maxRecDepth 100000 in
theorem long14_calls {w:World}{v:Value}{Ts:List VT}(h:SlV w v Ts) (r:Bool) (hr:decide (6000≤wgs Ts 0 6000)=r):Calls Tryz.prog 7 #[v] w fun z w'=>z = .returned (.bool r)∧Ext w w':=by
 obtain⟨C,⟨p,c,rfl,h1,h2,h3,h4⟩,hl,hv⟩:=h;unfold maxLen at h2
 obtain⟨len,hlen⟩:∃ n,Ts.length=n:=⟨_,rfl⟩
 rw[hlen]at hl;rw[hl]at h1 ⊢
 have HLEN:Hid ((len:Int)≤9223372036854775807):=by show _≤_;omega
 have H4:=Hd h4;have HV:=Hd hv;have HL:=Hd hlen;have HCL:=Hd hl;have HR:=Hd hr;clear h1 h2 h3 h4 hl hlen hv hr
 go_enter Tryz.func7,Tryz.ntmps7
 go_wp2_with fail
 go_loopw [3,4] (fun v3 v4 wr => ∃ i n:Nat,v3 = .int .i64 (n:Int)∧v4 = .int .i64 (i:Int)∧i≤len∧n≤6000∧Ext w wr∧Hid (wgs Ts 0 6000=wgs (Ts.drop i) n 6000)) (fun _ v4 _=>len - (intOf v4).toNat)
 case atStart=>exact⟨0,0,rfl,rfl,Nat.zero_le _,Nat.zero_le _,Ext.refl _,rfl⟩
 case round =>
  rename World=>wr
  obtain⟨i,n,rfl,rfl,hi,hn,hx,HW⟩:=hrel;have XE:=Hd hx;have HN:=Hd hn;clear hx
  have done:wgs Ts 0 6000=n→decide ((n:Int)≥6000)=r:=fun e=>by rw[←HR.out,e];apply decide_eq_decide.2;omega
  have DONE:=Hd done;clear done
  by_cases hlt:i<len
  ·have hli:(i:Int)<(len:Int):=by omega
   have hl1:(i:Int)+1≤(len:Int):=by omega
   have m5:=HLEN.out
   have hwi:IntKind.i64.wrap ((i:Int)+1)=((i+1:Nat):Int):=by rw[IntWalk.i64_in _ (by omega)];omega
   by_cases hnm:n<6000
   ·have hnl:(n:Int)<6000:=by omega
    have hil:i<Ts.length:=by rw[HL.out];exact hlt
    have HD:Hid (Ts.drop i=Ts[i] :: Ts.drop (i+1)):=List.drop_eq_getElem_cons hil
    obtain⟨cs,hcs⟩:∃ y,C[i]? = some y:=⟨_,List.getElem?_eq_getElem (by rw[HCL.out];exact hlt)⟩
    have hiv:=HV.out i cs _ hcs (List.getElem?_eq_getElem hil);obtain⟨⟨vk,vn,vp,vx,vy,rfl⟩,bl,off,rfl,hat⟩:=H4.out i cs hcs;have h0:=((hat 0 _ rfl).ext XE.out).1;have h1:=((hat 1 _ rfl).ext XE.out).1;have h2:=((hat 2 _ rfl).ext XE.out).1;have fb:=((hat 2 _ rfl).ext XE.out).2;rw[Nat.add_zero]at h0
    obtain⟨d1,hd1⟩:∃ d,6000 - n=d:=⟨_,rfl⟩
    have hwm:IntKind.i64.wrap (6000 - (n:Int))=(d1:Int):=by rw[IntWalk.i64_in _ (by omega)];omega
    have hwm2:wrap64 (6000 - (n:Int))=(d1:Int):=by unfold wrap64;omega
    obtain⟨g,hg⟩:∃ g,wg Ts[i] d1=g:=⟨_,rfl⟩
    have hgl:g≤d1:=by rw[←hg];exact wg_le _ _ (by omega)
    have HC:Hid (∀ X,Ext wr X→Calls Tryz.prog 42 #[.agg #[.int .u8 (vk:Int),.int .i64 vn,.slice vp vx vy],.int .i64 (d1:Int)] X fun z w'=>z = .returned (.int .i64 (g:Int))∧Ext X w'):=fun X hX=>by
     rw[←hg];exact weigh_calls _ X _ d1 ((hiv.ext XE.out).ext hX) (by omega) (by omega)
    have hwn:IntKind.i64.wrap ((n:Int)+(g:Int))=((n+g:Nat):Int):=by rw[IntWalk.i64_in _ (by omega)];omega
    have hwn2:wrap64 ((n:Int)+(g:Int))=((n+g:Nat):Int):=by unfold wrap64;omega
    have HW2:Hid (wgs Ts 0 6000=wgs (Ts.drop (i+1)) (n+g) 6000):=by
     show _=_
     rw[HW.out,HD.out]
     conv=>lhs;unfold wgs
     rw[if_pos hnm,hd1,hg]
    have LT:=Hd hlt
    have HNG:Hid (n+g≤6000):=by show _≤_;rw[←hd1]at hgl;exact Nat.le_trans (Nat.add_le_add_left hgl n) (Nat.le_of_eq (Nat.add_sub_cancel' (Nat.le_of_lt hnm)))
    clear HD hi hn m5 hnm hil hiv hat hd1 hg hgl hlt hcs;go_wp2_with fail
    first | rw[hwm2] | skip
    refine (HC.out _ eR).mono ?_;rintro z w2 ⟨rfl,x2⟩;have X2:=Hd x2;clear x2 h0 h1 h2 fb;go_wp2_with fail;refine⟨⟨i+1,n+g,?_,?_,LT.out,HNG.out,XE.out.trans X2.out,HW2.out⟩,?_⟩
    ·first | rfl | exact congrArg (Value.int .i64) hwn2 | simp | (rw[hwn2])
    ·first | rfl | simp | rw[hwi]
    ·clear hwn hwn2 hwm hwm2 hwi;simp only[intOf];have:=LT.out;omega
   ·have hnl:¬ (n:Int)<6000:=by omega
    have HB:=Hd (DONE.out (by rw[HW.out,wgs_stop _ hnm]));clear hi hn m5 hnm hlt hwi DONE;go_wp2_with fail;go_ret;exact⟨ret_eq (congrArg Value.bool (by have h:=HB.out;rw[decide_eq_true (show (n:Int)≥6000 by omega)]at h;exact h)),XE.out⟩
  ·have hli:¬ (i:Int)<(len:Int):=by omega
   have HB:=Hd (DONE.out (by
    rw[HW.out,List.drop_of_length_le (by rw[HL.out];omega)]
    unfold wgs;rfl))
   clear hi hn hlt DONE;go_wp2_with fail;go_ret;exact⟨ret_eq (congrArg Value.bool (by have h:=HB.out;simpa using h)),XE.out⟩
theorem long14_sz {Ts:List VT}(h:decide (6000≤wgs Ts 0 6000)=false):∀ t∈Ts,szV t≤6000:=by
 intro t ht;have h1:=of_decide_eq_false h;have h2:=wgs_sz Ts 0 6000 (by omega) (by omega);have:=szVs_mem ht;omega
end Go.Proofs.YtfofjalebhajhaaGreatDoor
