/- slices.IndexFunc of shares. -/
import Derived.Test.YtfofjalebhajhaaGreatDoorMass2
namespace Go.Proofs.YtfofjalebhajhaaGreatDoor
open Go Go.RowKit
def low (e:Sh):Bool:=!decide (0<e.2.2)
def idxOf (R:List Sh) (t:Sh→Bool):Int:=match R.findIdx? t with | some i=>(i:Int) | none => -1
theorem idx_hit {R:List Sh}{t:Sh→Bool}{i:Nat}{x:Sh}(hx:R[i]? = some x) (ht:t x=true) (h:∀ j e,j<i→R[j]? = some e→t e=false):idxOf R t=(i:Int):=by
 obtain⟨hi,he⟩:=List.getElem?_eq_some_iff.1 hx
 have:R.findIdx? t=some i:=by
  rw[List.findIdx?_eq_some_iff_getElem];refine⟨hi,by rw[he];exact ht,fun j hj=>?_⟩;have:=h j _ hj (List.getElem?_eq_getElem (by omega));simp [this]
 unfold idxOf;rw[this]
theorem idx_none {R:List Sh}{t:Sh→Bool}(h:∀ j e,j<R.length→R[j]? = some e→t e=false):idxOf R t = -1:=by
 have:R.findIdx? t=none:=by
  rw[List.findIdx?_eq_none_iff];intro x hx;obtain⟨j,hj⟩:=List.getElem?_of_mem hx;exact h j x (List.getElem?_eq_some_iff.1 hj).1 hj
 unfold idxOf;rw[this]
structure LowFn (F:Nat):Prop where
 enter:∀ args w,(callFunc F args).run Tryz.prog w = .ok (.enter F args) w
 call:∀ {w:World}{e:Sh}{K:Nat},ElO w e→K≤20000→LenR K e.2.2→Calls Tryz.prog F #[.agg e.1.toArray] w fun z w'=>z = .returned (.bool (low e))∧Ext w w'
theorem lowV:LowFn 82:=by
 refine⟨fun args w => Tryz.call82 args w,fun {w e K} h hk hl=>?_⟩;obtain⟨k,n,p,a,b,s,p1,n1,c1,p2,n2,c2,ex⟩:=h.shape;rw[ex]at h;have hr:=h.val.2;rw[show e.1 = [.int .u8 (k:Int),.int .i64 n,.slice p a b,.bool s,.slice p1 n1 c1,.slice p2 n2 c2] from congrArg Prod.fst ex];exact dropV_calls (hr.inR hl) hk
theorem lowS:LowFn 96:=by
 refine⟨fun args w => Tryz.call96 args w,fun {w e K} h hk hl=>?_⟩;obtain⟨k,n,p,a,b,s,p1,n1,c1,p2,n2,c2,ex⟩:=h.shape;rw[ex]at h;have hr:=h.val.2;rw[show e.1 = [.int .u8 (k:Int),.int .i64 n,.slice p a b,.bool s,.slice p1 n1 c1,.slice p2 n2 c2] from congrArg Prod.fst ex];exact dropS_calls (hr.inR hl) hk
theorem lowP:LowFn 98:=by
 refine⟨fun args w => Tryz.call98 args w,fun {w e K} h hk hl=>?_⟩;obtain⟨k,n,p,a,b,s,p1,n1,c1,p2,n2,c2,ex⟩:=h.shape;rw[ex]at h;have hr:=h.val.2;rw[show e.1 = [.int .u8 (k:Int),.int .i64 n,.slice p a b,.bool s,.slice p1 n1 c1,.slice p2 n2 c2] from congrArg Prod.fst ex];exact dropP_calls (hr.inR hl) hk
set_option maxHeartbeats 1000000 in
set_option maxRecDepth 100000 in
theorem index_calls {F:Nat}(hLF:LowFn F){g cap:Nat}{R:List Sh}{w:World}(hR:RowS g cap R w) (hlen:R.length≤100000){n:Nat}(hn:R.length=n){K:Nat}(hk:K≤20000) (hF:∀ e∈R,LenR K e.2.2) :
  Calls Tryz.prog 107 #[.slice (some ⟨g,0,none⟩) n cap,.func (.func F) #[] #[]] w fun z w'=>z = .returned (.int .i64 (idxOf R low))∧Ext w w':=by
 have eF:=hLF.enter;have LF:=Hd hLF;clear hLF;have HM:=Hd hn;have HR:=Hd hR;have HF:=Hd hF;have HK:=Hd hk
 have M5:Hid (n≤100000):=by show _≤_;rw[←hn];exact hlen
 clear hR hn hlen hF hk
 go_enter Tryz.func107,Tryz.ntmps107
 go_wp2_with fail
 go_loopw [8] (fun v8 wr => ∃ i:Nat,v8 = .int .i64 (i:Int)∧i≤n∧Ext w wr∧Hid (∀ j e,j<i→R[j]? = some e→low e=false)) (fun v8 _=>n - (intOf v8).toNat)
 case atStart=>exact⟨0,rfl,Nat.zero_le _,Ext.refl _,fun j e h=>absurd h (Nat.not_lt_zero _)⟩
 case round =>
  rename World=>wr
  obtain⟨i,rfl,hi,hx,HA⟩:=hrel;have XX:=Hd hx;have RR:=Hd (HR.out.ext hx);clear hx
  by_cases hlt:i<n
  ·have hli:(i:Int)<(n:Int):=by omega
   have hl1:(i:Int)+1≤(n:Int):=by omega
   have m5:=M5.out
   have hwi:IntKind.i64.wrap ((i:Int)+1)=((i+1:Nat):Int):=by rw[IntWalk.i64_in _ (by omega)];omega
   obtain⟨x,hx⟩:∃ y,R[i]? = some y:=⟨_,List.getElem?_eq_getElem (by rw[HM.out];exact hlt)⟩
   have HXI:=Hd hx;have LT:=Hd hlt;clear hx hi m5 hlt;have HE1:=Hd (RR.out.its x (List.mem_of_getElem? HXI.out));obtain⟨k1,n1,p1,a1,b1,s1,r1,c1,d1,u1,e1,f1,hx1⟩:=HE1.out.shape;have HX1:=Hd hx1;have D10:Hid (At g (i*6) (.int .u8 (k1:Int)) _):=RR.out.cell HXI.out (j:=0) (u:=.int .u8 (k1:Int)) (by rw[hx1];rfl);have D11:Hid (At g (i*6+1) (.int .i64 n1) _):=RR.out.cell HXI.out (j:=1) (u:=.int .i64 n1) (by rw[hx1];rfl);have D12:Hid (At g (i*6+2) (.slice p1 a1 b1) _):=RR.out.cell HXI.out (j:=2) (u:=.slice p1 a1 b1) (by rw[hx1];rfl);have D13:Hid (At g (i*6+3) (.bool s1) _):=RR.out.cell HXI.out (j:=3) (u:=.bool s1) (by rw[hx1];rfl);have D14:Hid (At g (i*6+4) (.slice r1 c1 d1) _):=RR.out.cell HXI.out (j:=4) (u:=.slice r1 c1 d1) (by rw[hx1];rfl);have D15:Hid (At g (i*6+5) (.slice u1 e1 f1) _):=RR.out.cell HXI.out (j:=5) (u:=.slice u1 e1 f1) (by rw[hx1];rfl);clear hx1;have h0:=D10.out.1;have h1:=D11.out.1;have h2:=D12.out.1;have h3:=D13.out.1;have h4:=D14.out.1;have h5:=D15.out.1
   have HC:Hid (Calls Tryz.prog F #[.agg #[.int .u8 (k1:Int),.int .i64 n1,.slice p1 a1 b1,.bool s1,.slice r1 c1 d1,.slice u1 e1 f1]] wr fun z w'=>z = .returned (.bool (low x))∧Ext wr w'):=by
    have h:=LF.out.call HE1.out HK.out (HF.out x (List.mem_of_getElem? HXI.out));rw[show x.1=_ from congrArg Prod.fst HX1.out]at h;exact h
   obtain⟨tb,htb⟩:∃ b,low x=b:=⟨_,rfl⟩
   rw[htb]at HC;have HTB:=Hd htb;clear htb
   cases tb
   case true =>
    go_wp2_with (go_at_fn F;refine HC.out.mono ?_;rintro e w1 ⟨rfl,x1⟩)
    go_ret;exact⟨ret_eq (int_eq (idx_hit HXI.out HTB.out HA.out).symm),XX.out.trans x1⟩
   case false =>
    go_wp2_with (go_at_fn F;refine HC.out.mono ?_;rintro e w1 ⟨rfl,x1⟩)
    exact⟨⟨i+1,by first | rfl | simp | rw[hwi],LT.out,XX.out.trans x1,fun j e hj he=>(by
     rcases Nat.lt_succ_iff_lt_or_eq.1 hj with h | h
     ·exact HA.out j e h he
     ·subst h;rw[HXI.out]at he;injection he with he;rw[←he];exact HTB.out)⟩,by simp only[intOf];have:=LT.out;omega⟩
  ·have hli:¬ (i:Int)<(n:Int):=by omega
   have hi:i=n:=by omega
   have HI:=Hd hi;clear hlt hi;go_wp2_with fail;go_ret;exact⟨ret_eq (int_eq (idx_none (fun j e hj he=>HA.out j e (by have:=HI.out;have:=HM.out;omega) he)).symm),XX.out⟩
end Go.Proofs.YtfofjalebhajhaaGreatDoor
