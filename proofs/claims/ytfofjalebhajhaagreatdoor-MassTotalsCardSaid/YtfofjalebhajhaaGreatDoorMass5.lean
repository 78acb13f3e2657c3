/- slices.DeleteFunc of shares. -/
import Derived.Test.YtfofjalebhajhaaGreatDoorMass4
import Derived.Test.YtfofjalebhajhaaGreatDoorShare4
namespace Go.Proofs.YtfofjalebhajhaaGreatDoor
open Go Go.RowKit
def RowV (g:Nat) (G:List Sh) (w:World):Prop:=∀ i e,G[i]? = some e→ElO w e ∧ ∀ j u,e.1[j]? = some u→At g (i*6+j) u w
theorem RowV.ext {g:Nat}{G:List Sh}{w w':World}(h:RowV g G w) (x:Ext w w'):RowV g G w':=fun i e hi=>⟨(h i e hi).1.ext x,fun j u hj=>((h i e hi).2 j u hj).ext x⟩
theorem RowS.rowV {g cap:Nat}{R:List Sh}{w:World}(h:RowS g cap R w):RowV g R w:=fun i e hi=>⟨h.its e (List.mem_of_getElem? hi),fun _ _ hj=>h.cell hi hj⟩
theorem RowS.cap_le {g cap:Nat}{R:List Sh}{w:World}(h:RowS g cap R w):R.length≤cap∧cap≤9223372036854775807:=by
 rcases h.row.2 with⟨e,-⟩ | ⟨g',cap',cur,e,-,-,h1,h2,-⟩
 ·cases e
 ·injection e with _ _ e
  subst e;exact⟨h1,h2⟩
theorem at_new {w:World}{cs:Array Value}{t:TypeId}{o:Nat}{u:Value}(h:cs[o]? = some u):At w.heap.size o u (w.alloc (.cells cs t)):=by
 refine⟨?_,by show _<(w.heap.push _).size;rw[Array.size_push];exact Nat.lt_succ_self _⟩;unfold World.cell?;rw[show (w.alloc (.cells cs t)).heap[w.heap.size]? = some (.cells cs t) from heap_alloc_new w _];exact h
def keep (e:Sh):Bool:=!low e
theorem idx_some {R:List Sh}{t:Sh→Bool}{i:Nat}(h:idxOf R t=(i:Int)):i<R.length ∧ ∀ j e,j<i→R[j]? = some e→t e=false:=by
 unfold idxOf at h
 cases hf:R.findIdx? t with
 | none=>rw[hf]at h;exact absurd h (by show ¬ ((-1:Int)=(i:Int));omega)
 | some k =>
  rw[hf]at h
  have hk:k=i:=by have h:(k:Int)=(i:Int):=h;omega
  subst hk;obtain⟨hl,-,h2⟩:=List.findIdx?_eq_some_iff_getElem.1 hf;refine⟨hl,fun j e hj he=>?_⟩;obtain⟨hj2,he2⟩:=List.getElem?_eq_some_iff.1 he;have:=h2 j hj;rw[he2]at this
  simpa using this
theorem idx_cases (R:List Sh) (t:Sh→Bool):(idxOf R t = -1 ∧ ∀ e∈R,t e=false) ∨ ∃ i:Nat,idxOf R t=(i:Int)∧i<R.length∧(∀ j e,j<i→R[j]? = some e→t e=false) ∧ ∀ e,R[i]? = some e→t e=true:=by
 cases hf:R.findIdx? t with
 | none=>exact .inl ⟨by unfold idxOf;rw[hf],List.findIdx?_eq_none_iff.1 hf⟩
 | some k =>
  have hi:idxOf R t=(k:Int):=by unfold idxOf;rw[hf]
  obtain⟨h1,h2⟩:=idx_some hi;obtain⟨hl,h3,-⟩:=List.findIdx?_eq_some_iff_getElem.1 hf;exact .inr ⟨k,hi,h1,h2,fun e he=>by obtain⟨hj2,he2⟩:=List.getElem?_eq_some_iff.1 he;rw[←he2];exact h3⟩
set_option maxHeartbeats 2000000 in
set_option maxRecDepth 100000 in
theorem delete_calls {F:Nat}(hLF:LowFn F){g cap:Nat}{R:List Sh}{w:World}(hR:RowS g cap R w) (hlen:R.length≤100000){n:Nat}(hn:R.length=n){K:Nat}(hk:K≤20000) (hF:∀ e∈R,LenR K e.2.2) :
  Calls Tryz.prog 81 #[.slice (some ⟨g,0,none⟩) n cap,.func (.func F) #[] #[]] w fun z w'=>z = .returned (.slice (some ⟨g,0,none⟩) (R.filter keep).length cap)∧RowV g (R.filter keep) w'∧Below g w w':=by
 have HIX:=Hd (index_calls hLF hR hlen hn hk hF);have eF:=hLF.enter;have LF:=Hd hLF;clear hLF;have HCP:=Hd hR.cap_le;have HM:=Hd hn;have HR:=Hd hR;have HF:=Hd hF;have HK:=Hd hk
 have M5:Hid (n≤100000):=by show _≤_;rw[←hn];exact hlen
 clear hR hn hlen hF hk
 rcases idx_cases R low with⟨h1,h2⟩ | ⟨i0,h1,h2,h3,h4⟩
 ·rw[h1]at HIX
  have HFE:Hid (R.filter keep=R):=List.filter_eq_self.2 fun e he=>by unfold keep;rw[h2 e he];rfl
  clear h1 h2
  go_enter Tryz.func81,Tryz.ntmps81
  go_wp2_with fail;refine HIX.out.mono ?_;rintro z w1 ⟨rfl,x1⟩;have XX:=Hd x1;clear x1 HIX;go_wp2_with fail;go_ret;rw[HFE.out,HM.out];exact⟨rfl,(HR.out.ext XX.out).rowV,XX.out.mono (Nat.le_of_lt HR.out.lt)⟩
 ·rw[h1]at HIX;have HI0:=Hd h2;have HB:=Hd h3;have HT:=Hd h4;clear h1 h3 h4;rw[HM.out]at h2;have m5:=M5.out
  have hne:¬ (i0:Int) = -1:=by omega
  have hne2:((i0:Int) == -1)=false:=beq_eq_false_iff_ne.2 hne
  have hw1:IntKind.i64.wrap ((i0:Int)+1)=((i0+1:Nat):Int):=by rw[IntWalk.i64_in _ (by omega)];omega
  clear h2 m5
  go_enter Tryz.func81,Tryz.ntmps81
  go_wp2_with fail;refine HIX.out.mono ?_;rintro z w1 ⟨rfl,x1⟩;have XX:=Hd x1;clear x1 HIX;go_wp2_with fail
  go_loopw [5,6] (fun v5 v6 wr => ∃ (i j:Nat) (L:List Sh),v5 = .int .i64 (i:Int)∧v6 = .int .i64 (j:Int)∧Hid (i<j)∧Hid (j≤n)∧Hid (L.length=n)∧Hid (L.take i=(R.take j).filter keep)∧Hid (L.drop j=R.drop j)∧RowS g cap L wr∧Below g w wr) (fun _ v6 _=>n - (intOf v6).toNat)
  case atStart =>
   refine⟨i0,i0+1,R,rfl,by first | rfl | simp,Nat.lt_succ_self _,by show _≤_;rw[←HM.out];exact HI0.out,HM.out,?_,rfl,HR.out.ext XX.out,XX.out.mono (Nat.le_of_lt HR.out.lt)⟩
   show _=_
   rw[List.take_succ_eq_append_getElem HI0.out,List.filter_append,List.filter_eq_self.2 (fun e he=>?_)]
   ·have:=HT.out _ (List.getElem?_eq_getElem HI0.out);simp [keep,this]
   ·obtain⟨j,hj,he⟩:=List.mem_take_iff_getElem.1 he;have:=HB.out j e (by omega) (by rw[←he];exact List.getElem?_eq_getElem _);simp [keep,this]
  case round =>
   clear XX
   rename World=>wr
   obtain⟨i,j,L,rfl,rfl,HIJ,HJN,HLN,HTK,HDR,hRow,hBl⟩:=hrel;have RR:=Hd hRow;have BB:=Hd hBl;clear hRow hBl;have hij:=HIJ.out;have hjn:=HJN.out;have m5:=M5.out
   by_cases hlt:j<n
   ·have hli:(j:Int)<(n:Int):=by omega
    have hl1:(j:Int)+1≤(n:Int):=by omega
    have hl2:(i:Int)+1≤(n:Int):=by omega
    have hwi:IntKind.i64.wrap ((i:Int)+1)=((i+1:Nat):Int):=by rw[IntWalk.i64_in _ (by omega)];omega
    have hwj:IntKind.i64.wrap ((j:Int)+1)=((j+1:Nat):Int):=by rw[IntWalk.i64_in _ (by omega)];omega
    obtain⟨x,hx⟩:∃ y,L[j]? = some y:=⟨_,List.getElem?_eq_getElem (by rw[HLN.out];exact hlt)⟩
    obtain⟨y,hy⟩:∃ y,L[i]? = some y:=⟨_,List.getElem?_eq_getElem (by rw[HLN.out];omega)⟩
    have HXJ:=Hd hx;have HYI:=Hd hy
    have HRX:Hid (R[j]? = some x):=by
     show _=_
     have h:=congrArg List.head? HDR.out;rw[List.head?_drop,List.head?_drop,hx]at h;exact h.symm
    have LT:=Hd hlt
    have hi6:i<n:=by omega
    clear hx hy m5 hlt hij hjn;have HE1:=Hd (RR.out.its x (List.mem_of_getElem? HXJ.out));obtain⟨k1,n1,p1,a1,b1,s1,r1,c1,d1,u1,e1,f1,hx1⟩:=HE1.out.shape;have HX1:=Hd hx1;have D10:Hid (At g (j*6) (.int .u8 (k1:Int)) _):=RR.out.cell HXJ.out (j:=0) (u:=.int .u8 (k1:Int)) (by rw[hx1];rfl);have D11:Hid (At g (j*6+1) (.int .i64 n1) _):=RR.out.cell HXJ.out (j:=1) (u:=.int .i64 n1) (by rw[hx1];rfl);have D12:Hid (At g (j*6+2) (.slice p1 a1 b1) _):=RR.out.cell HXJ.out (j:=2) (u:=.slice p1 a1 b1) (by rw[hx1];rfl);have D13:Hid (At g (j*6+3) (.bool s1) _):=RR.out.cell HXJ.out (j:=3) (u:=.bool s1) (by rw[hx1];rfl);have D14:Hid (At g (j*6+4) (.slice r1 c1 d1) _):=RR.out.cell HXJ.out (j:=4) (u:=.slice r1 c1 d1) (by rw[hx1];rfl);have D15:Hid (At g (j*6+5) (.slice u1 e1 f1) _):=RR.out.cell HXJ.out (j:=5) (u:=.slice u1 e1 f1) (by rw[hx1];rfl);clear hx1;have HE2:=Hd (RR.out.its y (List.mem_of_getElem? HYI.out));obtain⟨k2,n2,p2,a2,b2,s2,r2,c2,d2,u2,e2,f2,hx2⟩:=HE2.out.shape;have HX2:=Hd hx2;have D20:Hid (At g (i*6) (.int .u8 (k2:Int)) _):=RR.out.cell HYI.out (j:=0) (u:=.int .u8 (k2:Int)) (by rw[hx2];rfl);have D21:Hid (At g (i*6+1) (.int .i64 n2) _):=RR.out.cell HYI.out (j:=1) (u:=.int .i64 n2) (by rw[hx2];rfl);have D22:Hid (At g (i*6+2) (.slice p2 a2 b2) _):=RR.out.cell HYI.out (j:=2) (u:=.slice p2 a2 b2) (by rw[hx2];rfl);have D23:Hid (At g (i*6+3) (.bool s2) _):=RR.out.cell HYI.out (j:=3) (u:=.bool s2) (by rw[hx2];rfl);have D24:Hid (At g (i*6+4) (.slice r2 c2 d2) _):=RR.out.cell HYI.out (j:=4) (u:=.slice r2 c2 d2) (by rw[hx2];rfl)
    have D25:Hid (At g (i*6+5) (.slice u2 e2 f2) _):=RR.out.cell HYI.out (j:=5) (u:=.slice u2 e2 f2) (by rw[hx2];rfl);clear hx2;have h0:=D10.out.1;have h1:=D11.out.1;have h2:=D12.out.1;have h3:=D13.out.1;have h4:=D14.out.1;have h5:=D15.out.1
    obtain⟨W1,hW1⟩:∃ W,wr.alloc (.cells #[.int .u8 (k1:Int),.int .i64 n1,.slice p1 a1 b1,.bool s1,.slice r1 c1 d1,.slice u1 e1 f1] 47)=W:=⟨_,rfl⟩
    have A0:Hid (At wr.heap.size 0 (.int .u8 (k1:Int)) W1):=hW1 ▸ at_new rfl;have A1:Hid (At wr.heap.size 1 (.int .i64 n1) W1):=hW1 ▸ at_new rfl;have A2:Hid (At wr.heap.size 2 (.slice p1 a1 b1) W1):=hW1 ▸ at_new rfl;have A3:Hid (At wr.heap.size 3 (.bool s1) W1):=hW1 ▸ at_new rfl;have A4:Hid (At wr.heap.size 4 (.slice r1 c1 d1) W1):=hW1 ▸ at_new rfl;have A5:Hid (At wr.heap.size 5 (.slice u1 e1 f1) W1):=hW1 ▸ at_new rfl;have XW:Hid (Ext wr W1):=hW1 ▸ (Ext.refl wr).alloc _
    have HC:Hid (Calls Tryz.prog F #[.agg #[.int .u8 (k1:Int),.int .i64 n1,.slice p1 a1 b1,.bool s1,.slice r1 c1 d1,.slice u1 e1 f1]] W1 fun z w'=>z = .returned (.bool (low x))∧Ext W1 w'):=by
     have h:=LF.out.call (HE1.out.ext XW.out) HK.out (HF.out x (List.mem_of_getElem? HRX.out));rw[show x.1=_ from congrArg Prod.fst HX1.out]at h;exact h
    obtain⟨tb,htb⟩:∃ b,low x=b:=⟨_,rfl⟩
    rw[htb]at HC;have HTB:=Hd htb;clear htb;have HWW:=Hd hW1;clear hW1
    cases tb
    case true =>
     go_wp2_with (rw[HWW.out];go_at_fn F;refine HC.out.mono ?_;rintro z w2 ⟨rfl,x2⟩)
     have X2:=Hd (XW.out.trans x2);refine⟨⟨i,j+1,L,rfl,by first | rfl | simp | rw[hwj],Nat.lt_succ_of_lt HIJ.out,LT.out,HLN.out,?_,?_,RR.out.ext X2.out,Below.trans BB.out (X2.out.mono (Nat.le_of_lt RR.out.lt))⟩,by simp only[intOf];have:=LT.out;omega⟩
     ·show _=_
      obtain⟨hj2,he2⟩:=List.getElem?_eq_some_iff.1 HRX.out;rw[HTK.out,List.take_succ_eq_append_getElem hj2,List.filter_append,he2];simp [keep,HTB.out]
     ·show _=_
      have h:=congrArg List.tail HDR.out;rw[List.tail_drop,List.tail_drop]at h;exact h
    case false =>
     go_wp2_with (rw[HWW.out];go_at_fn F;refine HC.out.mono ?_;rintro z w2 ⟨rfl,x2⟩;have X2:=Hd (XW.out.trans x2);have a0:=(A0.out.ext x2).1;have a1:=(A1.out.ext x2).1;have a2:=(A2.out.ext x2).1;have a3:=(A3.out.ext x2).1;have a4:=(A4.out.ext x2).1;have a5:=(A5.out.ext x2).1;have y0:=(D20.out.ext X2.out).1;have y1:=(D21.out.ext X2.out).1;have y2:=(D22.out.ext X2.out).1;have y3:=(D23.out.ext X2.out).1;have y4:=(D24.out.ext X2.out).1;have y5:=(D25.out.ext X2.out).1;have R2:=Hd (RR.out.ext X2.out);have z0:=R2.out.free (i*6);have z1:=R2.out.free (i*6+1);have z2:=R2.out.free (i*6+2);have z3:=R2.out.free (i*6+3);have z4:=R2.out.free (i*6+4);have z5:=R2.out.free (i*6+5);clear x2)
     have hset:RowS g cap (L.set i x) _:=sw_row R2.out HYI.out HX1.out (HE1.out.ext X2.out);refine⟨⟨i+1,j+1,L.set i x,by first | rfl | simp | rw[hwi],by first | rfl | simp | rw[hwj],Nat.succ_lt_succ HIJ.out,LT.out,by show _=_;rw[List.length_set];exact HLN.out,?_,?_,hset,below6 (Below.trans BB.out (X2.out.mono (Nat.le_of_lt RR.out.lt))) _ _ _ _ _ _ _ _ _ _ _ _⟩,by simp only[intOf];have:=LT.out;omega⟩
     ·show _=_
      obtain⟨hj2,he2⟩:=List.getElem?_eq_some_iff.1 HRX.out
      have hil:i<(L.set i x).length:=by rw[List.length_set,HLN.out];exact hi6
      rw[List.take_succ_eq_append_getElem hil,List.take_set_of_le (Nat.le_refl _),HTK.out,List.take_succ_eq_append_getElem hj2,List.filter_append,he2];simp [keep,HTB.out]
     ·show _=_
      rw[List.drop_set_of_lt (by have:=HIJ.out;omega)];have h:=congrArg List.tail HDR.out;rw[List.tail_drop,List.tail_drop]at h;exact h
   ·have hli:¬ (j:Int)<(n:Int):=by omega
    have hj:j=n:=by omega
    subst hj
    have hil:i<L.length:=by rw[HLN.out];exact hij
    have HFI:Hid (L.take i=R.filter keep):=by show _=_;rw[HTK.out,List.take_of_length_le (by rw[HM.out];exact Nat.le_refl _)]
    have HGL:Hid ((R.filter keep).length=i):=by show _=_;rw[←HFI.out,List.length_take];omega
    obtain⟨d,hd⟩:∃ d,j - i=d:=⟨_,rfl⟩
    have hcp:=HCP.out;rw[HM.out]at hcp
    obtain⟨cw,hcw⟩:∃ d,cap - i=d:=⟨_,rfl⟩
    obtain⟨wz,hz1,hz2,hz3⟩:=clear_shares RR.out hil (t := 25) (ty:=0) Tryz.underlying25 cw;have HZ2:=Hd hz2;have HZ3:=Hd hz3;rw[HLN.out,hd]at hz1
    have i1:(i:Int)≤(j:Int):=by omega
    have i2:(j:Int)≤(cap:Int):=by omega
    have i3:(i:Int)≤(cap:Int):=by omega
    have i4:¬ cap=i:=by omega
    clear hz2 hz3 hli hij hjn m5 hlt;go_wp2_with fail;go_ret;rw[HGL.out];refine⟨rfl,fun m e hm=>?_,HZ2.out _ BB.out⟩;rw[←HFI.out,List.getElem?_take]at hm
    split at hm
    ·rename_i hmi
     exact HZ3.out m e hmi hm
    ·cases hm
end Go.Proofs.YtfofjalebhajhaaGreatDoor
