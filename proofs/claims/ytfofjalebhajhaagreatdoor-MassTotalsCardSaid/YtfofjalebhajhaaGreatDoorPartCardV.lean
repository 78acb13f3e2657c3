/- The frame of the cards, joined: values too. -/
import Derived.Test.YtfofjalebhajhaaGreatDoorPartA
import Derived.Test.YtfofjalebhajhaaGreatDoorMass14
import Derived.ProofKit
import Derived.OpenShut
import Derived.LaidMore
import Derived.Lay
import Derived.SevenTiedAt
import Derived.Stop.Joined
import Derived.Carry
import Derived.ChangeSlices
import Derived.ShutString
namespace Go.Proofs.YtfofjalebhajhaaGreatDoor
open Go Go.ChangeShapes Go.WideShapes Go.ChangeAt Go.RowKit
set_option maxRecDepth 100000
theorem seat_own:ownKnob Tryz.prog.godebug=none:=by kernel_rfl
theorem seat_laid:laidOutB Tryz.prog=true:=by kernel_rfl
theorem cells_u64:Tryz.prog.cellsOf 53 = 1:=by kernel_rfl
noncomputable def readsB (t:TypeId):Bool:=Tryz.prog.readableRec t && decide (t < Tryz.prog.types.size)
theorem readsB_iff {t:TypeId}(h:readsB t=true):Tryz.prog.readableRec t=true∧t < Tryz.prog.types.size:=by
 simpa [readsB] using h
section
variable {H:Type}{enc:TypeId × Value→H}{W:World}{base:Nat}
theorem trodAll_stays {W W':World}(hb:Below W.heap.size W W'):∀ {ts:List TypeId}{vs:List Value}{ds:List (DataW H)}{ps:List MemPlace}{sp:Nat→Bool},(∀ t∈ts,readsB t=true) →
  DataW.TrodAll enc Tryz.prog W 0 (fun _=>true) true ts vs ds ps→(∀ x∈ps,x.block<W.heap.size)→(∀ x∈ps,sp x.block=true)→DataW.TrodAll enc Tryz.prog W' 0 sp true ts vs ds ps
 | [],[],[],_,_,_,h,_,_=>h
 | [],_ :: _,_,_,_,_,h,_,_=>h.elim
 | [],[],_ :: _,_,_,_,h,_,_=>h.elim
 | _ :: _,[],_,_,_,_,h,_,_=>h.elim
 | _ :: _,_ :: _,[],_,_,_,h,_,_=>h.elim
 | t :: ts,v :: vs,d :: ds,ps,sp,hr,⟨p,q,h1,h2,e⟩,hlt,hs=>by
  obtain⟨r1,r2⟩:=readsB_iff (hr t (List.mem_cons_self ..))
  exact⟨p,q,WideElems.Trod_stays seat_laid r1 r2 h1 (fun x hx=>hb.same (hlt x (by rw[e];exact List.mem_append_left _ hx))) (fun x hx=>hs x (by rw[e];exact List.mem_append_left _ hx)),
   trodAll_stays hb (fun t ht=>hr t (List.mem_cons_of_mem _ ht)) h2 (fun x hx=>hlt x (by rw[e];exact List.mem_append_right _ hx)) (fun x hx=>hs x (by rw[e];exact List.mem_append_right _ hx)),e⟩
theorem law_post {f:Func}{s:ChangeSpec}{W':World}{args:Array Value}{ds:List (DataW H)}{before:List MemPlace}
  (hW:DataW.Whole enc Tryz.prog f.params.toList s.vars false W args.toList ds [] before)
  (hv:s.vars = []) (hf:s.fn H (ds ++ []) = { results:=[.lit (.bool true)],args:=ds }) (hr:f.resultTypes = #[4]) (hp:(f.params.toList.all readsB)=true) (hb:Ext W W') :
  s.post enc Tryz.prog f false true false false W args (.bool true) W':=by
 have hlt:∀ p∈before,p.block<W.heap.size:=fun p hp=>hW.lt p hp
 have hW0:=hW;obtain⟨p,q,hA,hV,hpq,hz,hn⟩:=hW;rw[hv]at hV;obtain⟨-,rfl⟩:=trodVars_none hV;rw[List.append_nil]at hpq;subst hpq
 have hargs:∀ sp:Nat→Bool,(∀ p∈before,sp p.block=true)→DataW.TrodAll enc Tryz.prog W' 0 sp true f.params.toList args.toList (s.fn H (ds ++ [])).args before:=by
  intro sp hs;rw[hf];exact trodAll_stays hb (fun t ht=>List.all_eq_true.1 hp t ht) hA hlt hs
 have hvars:∀ sp:Nat→Bool,DataW.TrodVars enc Tryz.prog W' sp s.vars (s.fn H (ds ++ [])).vars []:=by
  intro sp;rw[hf,hv];exact rfl
 have hres:∀ (b:Nat) (sp:Nat→Bool) (hd:Bool),DataW.TrodAll enc Tryz.prog W' b sp hd f.resultTypes.toList ((Value.bool true).resultList f.resultTypes.size) (s.fn H (ds ++ [])).results []:=by
  intro b sp hd;rw[hf,hr];exact trodAll_mk1 (shut_bool Tryz.underlying4 true)
 have hold:∀ p∈before,(fun b=>decide (b<W.heap.size)) p.block=true:=fun p hp=>by simpa using hlt p hp
 refine⟨ds,[],before,[],before,[],hW0,hres _ _ _,hargs _ hold,hvars _,World.keptBut_mono (fun p hp=>⟨hp,?_⟩) (Below.frame hb (· ∈ before)),fun h=>(by cases h)⟩;exact Or.inr (Or.inl hp)
end
section
variable {H:Type}{enc:TypeId × Value→H}{W:World}{base b0:Nat}{spare:Nat→Bool}
theorem open_limbs {t:TypeId}{v:Value}{d:DataW H}{ps:List MemPlace}{r:Reach}(ht:Tryz.prog.underlying t=some (.slice 53)) (hval:Value.okWide Tryz.prog W r b0 t v) (h:DataW.Trod enc Tryz.prog W base (fun _=>true) true t v d ps):∃ A,Limbs W v A:=by
 obtain⟨a,len,cap,rfl⟩:=okWide_slice ht hval;obtain⟨fuel,hf⟩:=h
 rcases open_ints ht Tryz.underlying53 cells_u64 hf with⟨hc,-⟩ | ⟨a',len',cap',zs,hc,hb,hl,hm,hz,-,hcell,hwf⟩
 ·have e:Value.slice a len cap = .slice none 0 0:=by simpa [Value.cells] using hc
  rw[e];exact⟨[],Limbs.nil W⟩
 ·have e:Value.slice a len cap = .slice (some a') len' cap':=by simpa [Value.cells] using hc
  rw[e];simp only[if_true]at hz;refine⟨(zs.take len').map Int.toNat,⟨by simp,some a',cap',?_,by simp;omega,hm,(fun e=>by cases e),fun p hp h0=>?_⟩,fun x hx=>?_⟩
  ·simp [hz,Nat.min_eq_left hl]
  ·obtain rfl:=Option.some.inj hp
   have h1:0<zs.length:=by simp at h0;omega
   obtain⟨b,off,rfl,hc2⟩:=ints_at hcell h1;refine⟨rfl,?_,fun j hj=>?_⟩
   ·have:=hc2 0 h1
    rcases Nat.lt_or_ge b W.heap.size with g | g
    ·exact g
    ·simp [World.cell?,Array.getElem?_eq_none g]at this
   ·have hj':j<zs.length∧j<len':=by simp at hj;omega
    rw[hc2 j hj'.1];have hb0:=bounds_u64 (hwf zs[j] (List.getElem_mem hj'.1));simp [lv,List.getD,hj'.1];omega
  ·obtain⟨z,hz',rfl⟩:=List.mem_map.1 hx;have hb0:=bounds_u64 (hwf z (List.mem_of_mem_take hz'));rw[Bs_def];omega
theorem open_u8 {v:Value}{d:DataW H}{ps:List MemPlace}{r:Reach}(hval:Value.okWide Tryz.prog W r b0 5 v) (h:DataW.Trod enc Tryz.prog W base spare true 5 v d ps):∃ n:Nat,v = .int .u8 (n:Int)∧n<256:=by
 obtain⟨n,rfl,-,-,hw⟩:=open_int Tryz.underlying5 hval h;have:=bounds_u8 hw;exact⟨n.toNat,by rw[Int.toNat_of_nonneg this.1],by omega⟩
end
theorem stand_of {f:Func}(h:(f.params.toList.all fun t => !Tryz.prog.wantsStandIn t)=true) (j:Nat) (t:TypeId) (ht:f.params[j]? = some t):Tryz.prog.wantsStandIn t=false:=by
 have hm:t∈f.params.toList:=by
  rw[←Array.getElem?_toList]at ht;exact List.mem_of_getElem? ht
 have:=List.all_eq_true.1 h t hm
 simpa using this
end Go.Proofs.YtfofjalebhajhaaGreatDoor
namespace Go.Proofs.YtfofjalebhajhaaGreatDoor
open Go Go.ChangeShapes Go.WideShapes Go.ChangeAt Go.RowKit
set_option maxRecDepth 100000
theorem cells_nat:Tryz.prog.cellsOf 32 = 1:=by kernel_rfl
theorem cells_bool:Tryz.prog.cellsOf 4 = 1:=by kernel_rfl
theorem cells_int:Tryz.prog.cellsOf 34 = 2:=by kernel_rfl
section
variable {H:Type}{enc:TypeId × Value→H}{W:World}{base b0:Nat}
theorem limbs_of_trod {t:TypeId}{fuel:Nat}{c:Value}{x:DataW H × List MemPlace}(ht:Tryz.prog.underlying t=some (.slice 53)) (hf:DataW.trod enc Tryz.prog W base (fun _=>true) true fuel t [c]=some x):∃ A,Limbs W c A:=by
 rcases open_ints ht Tryz.underlying53 cells_u64 hf with⟨hc,-⟩ | ⟨a',len',cap',zs,hc,hb,hl,hm,hz,-,hcell,hwf⟩
 ·have e:c = .slice none 0 0:=by simpa using hc
  rw[e];exact⟨[],Limbs.nil W⟩
 ·have e:c = .slice (some a') len' cap':=by simpa using hc
  rw[e];simp only[if_true]at hz;refine⟨(zs.take len').map Int.toNat,⟨by simp,some a',cap',?_,by simp;omega,hm,(fun e=>by cases e),fun p hp h0=>?_⟩,fun x hx=>?_⟩
  ·simp [hz,Nat.min_eq_left hl]
  ·obtain rfl:=Option.some.inj hp
   have h1:0<zs.length:=by simp at h0;omega
   obtain⟨b,off,rfl,hc2⟩:=ints_at hcell h1;refine⟨rfl,?_,fun j hj=>?_⟩
   ·have:=hc2 0 h1
    rcases Nat.lt_or_ge b W.heap.size with g | g
    ·exact g
    ·simp [World.cell?,Array.getElem?_eq_none g]at this
   ·have hj':j<zs.length∧j<len':=by simp at hj;omega
    rw[hc2 j hj'.1];have hb0:=bounds_u64 (hwf zs[j] (List.getElem_mem hj'.1));simp [lv,List.getD,hj'.1];omega
  ·obtain⟨z,hz',rfl⟩:=List.mem_map.1 hx;have hb0:=bounds_u64 (hwf z (List.mem_of_mem_take hz'));rw[Bs_def];omega
theorem bool_of_trod {t:TypeId}{fuel:Nat}{c:Value}{x:DataW H × List MemPlace}(ht:Tryz.prog.underlying t=some .bool) (hf:DataW.trod enc Tryz.prog W base (fun _=>true) true fuel t [c]=some x):∃ b,c = .bool b:=by
 cases fuel with
 | zero=>simp [DataW.trod]at hf
 | succ n =>
  unfold DataW.trod at hf;rw[ht]at hf
  cases c <;> simp_all
end
end Go.Proofs.YtfofjalebhajhaaGreatDoor
namespace Go.Proofs.YtfofjalebhajhaaGreatDoor
open Go Go.ChangeShapes Go.WideShapes Go.ChangeAt Go.RowKit
set_option maxRecDepth 100000
theorem cells_rat:Tryz.prog.cellsOf 36 = 3:=by kernel_rfl
section
variable {H:Type}{enc:TypeId × Value→H}{W:World}{base b0:Nat}
theorem open_rat {v:Value}{d:DataW H}{ps:List MemPlace}{r:Reach}(hval:Value.okWide Tryz.prog W r b0 36 v) (h:DataW.Trod enc Tryz.prog W base (fun _=>true) true 36 v d ps) :
  ∃ b x y A B,v = .agg #[.bool b,x,y]∧Limbs W x A∧Limbs W y B:=by
 obtain⟨cs,rfl,hsz⟩:=okWide_struct Tryz.underlying36 hval;rw[cells_rat]at hsz
 obtain⟨c0,c1,c2,rfl⟩:∃ c0 c1 c2,cs = #[c0,c1,c2]:=⟨cs[0],cs[1],cs[2],by
  refine Array.ext (by simpa using hsz) fun i h1 h2=>?_
  have:i=0∨i=1∨i=2:=by simp at h2;omega
  rcases this with rfl | rfl | rfl <;> rfl⟩
 obtain⟨fuel,hf⟩:=h;obtain⟨y0,y1,n,-,-,h0,h1⟩:=trod_struct2 Tryz.underlying36 hf;simp only[Value.cells,cells_int,cells_nat,List.drop_zero,List.take_succ_cons,List.take_zero,List.drop_succ_cons,List.take_nil]at h0 h1;obtain⟨z0,z1,n',-,-,k0,k1⟩:=trod_struct2 Tryz.underlying34 h0;simp only[cells_bool,cells_nat,List.drop_zero,List.take_succ_cons,List.take_zero,List.drop_succ_cons,List.take_nil]at k0 k1;obtain⟨b,rfl⟩:=bool_of_trod Tryz.underlying4 k0;obtain⟨A,hA⟩:=limbs_of_trod Tryz.underlying32 k1;obtain⟨B,hB⟩:=limbs_of_trod Tryz.underlying32 h1;exact⟨b,c1,c2,A,B,rfl,hA,hB⟩
end
end Go.Proofs.YtfofjalebhajhaaGreatDoor
namespace Go.Proofs.YtfofjalebhajhaaGreatDoor
open Go Go.ChangeShapes Go.WideShapes Go.ChangeAt Go.RowKit
set_option maxRecDepth 100000
theorem cells_val:Tryz.prog.cellsOf 29 = 3:=by kernel_rfl
theorem cells_u8:Tryz.prog.cellsOf 5 = 1:=by kernel_rfl
theorem cells_n64:Tryz.prog.cellsOf 2 = 1:=by kernel_rfl
theorem cells_vals:Tryz.prog.cellsOf 22 = 1:=by kernel_rfl
section
variable {H:Type}{enc:TypeId × Value→H}{W:World}{base b0:Nat}{spare:Nat→Bool}{held:Bool}
theorem cells_get {w:World}{b:Nat}{a:Addr}{n:Nat}{cs:List Value}(h:w.cells? b a n=some cs):cs.length=n ∧ ∀ j u,cs[j]? = some u→w.cell? (a.add j)=some u:=by
 obtain⟨-,h2,h3⟩:=World.cells?_some h;exact⟨h2,fun j u hj=>by rw[h3 j (by rw[←h2];exact (List.getElem?_eq_some_iff.1 hj).1),hj]⟩
theorem trod_struct3 {P:Program}{t:TypeId}{f0 f1 f2:Field}{fuel:Nat}{cs:List Value}{x:DataW H × List MemPlace}(ht:P.underlying t=some (.struct #[f0,f1,f2])) (h:DataW.trod enc P W base spare held fuel t cs=some x) :
  ∃ y0 y1 y2 n,fuel=n+1∧cs.length=P.cellsOf t∧DataW.trod enc P W base spare held n f0.type ((cs.drop f0.offset).take (P.cellsOf f0.type))=some y0 ∧
   DataW.trod enc P W base spare held n f1.type ((cs.drop f1.offset).take (P.cellsOf f1.type))=some y1∧DataW.trod enc P W base spare held n f2.type ((cs.drop f2.offset).take (P.cellsOf f2.type))=some y2:=by
 obtain⟨xs,n,e,-,hl,hlen,hf⟩:=DataW.trod_struct ht h
 match xs,hlen with
 | [y0,y1,y2],_=>exact⟨y0,y1,y2,n,e,hl,by simpa using hf 0 f0 rfl,by simpa using hf 1 f1 rfl,by simpa using hf 2 f2 rfl⟩
def OpV (W:World) (cs:List Value) (t:VT):Prop:=∃ (k:Nat) (n:Int) (p:Option Addr) (c:Nat),cs = [.int .u8 (k:Int),.int .i64 n,.slice p t.l.length c]∧IsV W (.agg #[.int .u8 (k:Int),.int .i64 n,.slice p t.l.length c]) t
theorem items_of {fuel:Nat}(ih:∀ (n:Nat),n<fuel → ∀ (cs:List Value) (x:DataW H × List MemPlace),DataW.trod enc Tryz.prog W base spare held n 29 cs=some x → ∃ t,OpV W cs t)
  {c:Value}{x:DataW H × List MemPlace}(h:DataW.trod enc Tryz.prog W base spare held fuel 22 [c]=some x) :
  ∃ (p:Option Addr) (cap:Nat) (l:List VT) (Cs:List (List Value)),c = .slice p l.length cap∧l.length≤cap∧cap≤maxLen∧(p=none→l = []∧cap=0)∧Cs.length=l.length ∧
   (∀ a,p=some a→0<l.length→a.spot=none∧a.block<W.heap.size) ∧ ∀ i cs t,Cs[i]? = some cs→l[i]? = some t→OpV W cs t ∧ ∃ a,p=some a ∧ ∀ j u,cs[j]? = some u→W.cell? ((a.add (i*3)).add j)=some u:=by
 rcases DataW.trod_slice Tryz.underlying22 h with⟨hc,-⟩ | ⟨a,len,cap,elems,rest,n,hn,hc,-,-,hl,hm,hlen,hel,-,-⟩
 ·have e:c = .slice none 0 0:=by simpa using hc
  exact⟨none,0,[],[],e,Nat.le_refl _,Nat.zero_le _,fun _=>⟨rfl,rfl⟩,rfl,fun a e=>(by cases e),fun i cs t hi=>by simp at hi⟩
 ·have e:c = .slice (some a) len cap:=by simpa using hc
  rw[cells_val]at hel
  have hall:∀ i,i<len → ∃ q:List Value × VT,OpV W q.1 q.2 ∧ ∀ j u,q.1[j]? = some u→W.cell? ((a.add (i*3)).add j)=some u:=fun i hi=>by
   have h1:=hel i hi;rw[List.getElem?_eq_getElem (by omega),Option.bind_eq_some_iff]at h1;obtain⟨cs,hcs,hy⟩:=h1;obtain⟨t,ht⟩:=ih n (by omega) cs _ hy;exact⟨(cs,t),ht,(cells_get hcs).2⟩
  obtain⟨L,hL1,hL2⟩:=list_of len hall;refine⟨some a,cap,L.map (·.2),L.map (·.1),by rw[List.length_map,hL1];exact e,by rw[List.length_map,hL1];exact hl,hm,fun e=>(by cases e),by simp,fun a' ha h0=>?_,fun i cs t hi ht=>?_⟩
  ·obtain rfl:=Option.some.inj ha;rw[List.length_map,hL1]at h0;obtain⟨⟨k,n',p,c',hcs,-⟩,hcell⟩:=hL2 0 _ (List.getElem?_eq_getElem (by omega));have h2:=hcell 0 (.int .u8 (k:Int)) (by rw[hcs];rfl);have h3:=World.cell?_spot h2;obtain⟨b,off,spot⟩:=a
   have hs:spot=none:=by simpa [Addr.add] using h3
   subst hs;refine⟨rfl,?_⟩;rw[add_plain,add_plain]at h2
   rcases Nat.lt_or_ge b W.heap.size with g | g
   ·exact g
   ·simp [World.cell?,Array.getElem?_eq_none g]at h2
  ·rw[List.getElem?_map]at hi ht
   cases hq:L[i]? with
   | none=>rw[hq]at hi;cases hi
   | some q =>
    rw[hq]at hi ht;obtain rfl:=Option.some.inj hi;obtain rfl:=Option.some.inj ht;obtain⟨h1,h2⟩:=hL2 i q hq;exact⟨h1,a,rfl,h2⟩
theorem getD_flat {C:List (List Value)}(hl:∀ e∈C,e.length=3){i:Nat}{a b c:Value}(h:C[i]? = some [a,b,c]):C.flatten.getD (i*3) undef=a∧C.flatten.getD (i*3+1) undef=b∧C.flatten.getD (i*3+2) undef=c:=by
 have h0:=flat_get hl h (j:=0) (by decide);have h1:=flat_get hl h (j:=1) (by decide);have h2:=flat_get hl h (j:=2) (by decide);simp only[Nat.add_zero,List.getElem?_cons_zero,List.getElem?_cons_succ]at h0 h1 h2;simp [List.getD,h0,h1,h2]
theorem flat_len {s:Nat}:∀ {C:List (List Value)}(_:∀ e∈C,e.length=s),C.flatten.length=C.length*s
 | [],_=>by simp
 | a :: C,hl=>by
  have:=hl a (List.mem_cons_self ..)
  have h2:=flat_len (C:=C) fun e he=>hl e (List.mem_cons_of_mem _ he)
  rw[List.flatten_cons,List.length_append,h2,this,List.length_cons,Nat.add_mul,Nat.one_mul,Nat.add_comm]
theorem val_of:∀ (fuel:Nat) (cs:List Value) (x:DataW H × List MemPlace),DataW.trod enc Tryz.prog W base spare held fuel 29 cs=some x → ∃ t,OpV W cs t:=by
 intro fuel
 induction fuel using Nat.strongRecOn with
 | _ fuel ih =>
  intro cs x h;obtain⟨y0,y1,y2,m,hm,hcl,h0,h1,h2⟩:=trod_struct3 Tryz.underlying29 h;rw[cells_val]at hcl
  obtain⟨c0,c1,c2,rfl⟩:∃ c0 c1 c2,cs = [c0,c1,c2]:=by
   match cs,hcl with
   | [a,b,c],_=>exact⟨a,b,c,rfl⟩
  simp only[cells_u8,cells_n64,cells_vals,List.drop_zero,List.take_succ_cons,List.take_zero,List.drop_succ_cons,List.take_nil]at h0 h1 h2;obtain⟨k0,hk0,-,hw0⟩:=DataW.trod_int Tryz.underlying5 h0;obtain⟨n0,hn0,-,hw1⟩:=DataW.trod_int Tryz.underlying2 h1
  have e0:c0 = .int .u8 k0:=by simpa using hk0
  have e1:c1 = .int .i64 n0:=by simpa using hn0
  have b0:=bounds_u8 hw0;have b1:=bounds_i64 hw1;obtain⟨p,cap,l,Cs,e2,g1,g2,g3,g4,g5,g6⟩:=items_of (fuel:=m) (fun n hn cs x hx=>ih n (by omega) cs x hx) h2;have hk:((k0.toNat:Nat):Int)=k0:=Int.toNat_of_nonneg b0.1
  have hC3:∀ e∈Cs,e.length=3:=fun e he=>by
   obtain⟨i,hi⟩:=List.getElem?_of_mem he;have hil:=(List.getElem?_eq_some_iff.1 hi).1;obtain⟨⟨k,n,q,c,hcs,-⟩,-⟩:=g6 i e _ hi (List.getElem?_eq_getElem (by omega));rw[hcs];rfl
  refine⟨.mk k0.toNat n0 l,k0.toNat,n0,p,cap,by rw[e0,e1,e2,hk];rfl,?_⟩
  refine IsV.mk k0.toNat n0 l p cap Cs.flatten (by omega) b1 ⟨by rw[flat_len hC3,g4],p,cap,rfl,g1,g2,fun e=>⟨by rw[(g3 e).1];rfl,(g3 e).2⟩,fun a ha hl=>?_⟩ fun i t hi=>?_
  ·obtain⟨q1,q2⟩:=g5 a ha hl;refine⟨q1,q2,fun j hj=>?_⟩;obtain⟨b,off,spot⟩:=a;have hs:spot=none:=q1;subst hs;rw[flat_len hC3]at hj
   have hji:j / 3<Cs.length:=by omega
   have hjl:j / 3<l.length:=by omega
   obtain⟨⟨k,n,q,c,hcs,-⟩,a',ha',hcell⟩:=g6 (j / 3) _ _ (List.getElem?_eq_getElem hji) (List.getElem?_eq_getElem hjl);rw[ha]at ha';obtain rfl:=Option.some.inj ha';have hlen3:(Cs[j / 3]).length=3:=hC3 _ (List.getElem_mem hji)
   have hm3:j % 3<(Cs[j / 3]).length:=by omega
   have hc:=hcell (j % 3) _ (List.getElem?_eq_getElem hm3);rw[add_plain,add_plain]at hc;have hfl:=flat_get hC3 (List.getElem?_eq_getElem hji) (j:=j % 3) (by omega);rw[show j / 3*3+j % 3=j by omega]at hfl;rw[show off+j / 3*3+j % 3=off+j by omega]at hc;rw[hc,←List.getElem?_eq_getElem hm3,←hfl,List.getElem?_eq_getElem]
  ·have hil:=(List.getElem?_eq_some_iff.1 hi).1;obtain⟨⟨k,n,q,c,hcs,hv⟩,-⟩:=g6 i _ t (List.getElem?_eq_getElem (by omega:i<Cs.length)) hi;have hg:=getD_flat hC3 (i:=i) (a:=.int .u8 (k:Int)) (b:=.int .i64 n) (c:=.slice q t.l.length c) (by rw[List.getElem?_eq_getElem (by omega:i<Cs.length),hcs]);rw[hg.1,hg.2.1,hg.2.2];exact hv
theorem open_vals {v:Value}{d:DataW H}{ps:List MemPlace}{r:Reach}(hval:Value.okWide Tryz.prog W r b0 22 v) (h:DataW.Trod enc Tryz.prog W base (fun _=>true) true 22 v d ps):∃ Ts,SlV W v Ts:=by
 obtain⟨a,len,cap,rfl⟩:=okWide_slice Tryz.underlying22 hval;obtain⟨fuel,hf⟩:=h;obtain⟨p,cap',l,Cs,e2,g1,g2,g3,g4,g5,g6⟩:=items_of (fuel:=fuel) (fun n _ cs x hx=>val_of n cs x hx) (c:=.slice a len cap) hf;rw[e2];refine⟨l,Cs,⟨p,cap',by rw[g4],by rw[g4];exact g1,g2,fun e=>?_,fun i cs hi=>?_⟩,g4,fun i cs t hi ht=>?_⟩
 ·have:=(g3 e).1;rw[this]at g4;exact List.eq_nil_of_length_eq_zero g4
 ·have hil:=(List.getElem?_eq_some_iff.1 hi).1;obtain⟨⟨k,n,q,c,hcs,-⟩,a',rfl,hcell⟩:=g6 i cs _ hi (List.getElem?_eq_getElem (by omega:i<l.length));refine⟨⟨k,n,q,_,c,hcs⟩,?_⟩;obtain⟨q1,q2⟩:=g5 a' rfl (by omega);obtain⟨b,off,spot⟩:=a';have hs:spot=none:=q1;subst hs;exact⟨b,off,rfl,fun j u hj=>⟨by have:=hcell j u hj;rwa [add_plain,add_plain]at this,q2⟩⟩
 ·obtain⟨⟨k,n,q,c,hcs,hv⟩,-⟩:=g6 i cs t hi ht;rw[hcs];exact hv
theorem cells_share:Tryz.prog.cellsOf 47 = 6:=by kernel_rfl
theorem share_of {fuel:Nat}{cs:List Value}{x:DataW H × List MemPlace}(h:DataW.trod enc Tryz.prog W base (fun _=>true) true fuel 47 cs=some x):∃ a,RaS W cs a:=by
 obtain⟨y0,y1,n,-,hcl,h0,h1⟩:=trod_struct2 Tryz.underlying47 h;rw[cells_share]at hcl
 obtain⟨c0,c1,c2,c3,c4,c5,rfl⟩:∃ c0 c1 c2 c3 c4 c5,cs = [c0,c1,c2,c3,c4,c5]:=by
  match cs,hcl with
  | [a,b,c,d,e,f],_=>exact⟨a,b,c,d,e,f,rfl⟩
 simp only[cells_val,cells_rat,List.drop_zero,List.take_succ_cons,List.take_zero,List.drop_succ_cons,List.take_nil]at h0 h1;obtain⟨t,k,n',p,c,hcs,hv⟩:=val_of _ _ _ h0;obtain⟨z0,z1,n2,-,-,k0,k1⟩:=trod_struct2 Tryz.underlying36 h1;simp only[cells_int,cells_nat,List.drop_zero,List.take_succ_cons,List.take_zero,List.drop_succ_cons,List.take_nil]at k0 k1;obtain⟨q0,q1,n3,-,-,l0,l1⟩:=trod_struct2 Tryz.underlying34 k0;simp only[cells_bool,cells_nat,List.drop_zero,List.take_succ_cons,List.take_zero,List.drop_succ_cons,List.take_nil]at l0 l1;obtain⟨b,rfl⟩:=bool_of_trod Tryz.underlying4 l0;obtain⟨A,hA⟩:=limbs_of_trod Tryz.underlying32 l1;obtain⟨B,hB⟩:=limbs_of_trod Tryz.underlying32 k1;simp only[List.cons.injEq,and_true]at hcs;obtain⟨rfl,rfl,rfl⟩:=hcs;obtain⟨p1,q1',e1,-,-,-⟩:=hA.open;obtain⟨p2,q2',e2,-,-,-⟩:=hB.open;refine⟨(t,b,A,B),k,n',p,t.l.length,c,p1,A.length,q1',p2,B.length,q2',by rw[e1,e2],hv,?_,?_⟩
 ·rw[←e1];exact hA
 ·rw[←e2];exact hB
theorem open_shares {v:Value}{d:DataW H}{ps:List MemPlace}{r:Reach}(hval:Value.okWide Tryz.prog W r b0 25 v) (h:DataW.Trod enc Tryz.prog W base (fun _=>true) true 25 v d ps):∃ Ls,SlS W v Ls:=by
 obtain⟨a,len,cap,rfl⟩:=okWide_slice Tryz.underlying25 hval;obtain⟨fuel,hf⟩:=h
 rcases DataW.trod_slice Tryz.underlying25 hf with⟨hc,-⟩ | ⟨a',len',cap',elems,rest,n,hn,hc,-,-,hl,hm,hlen,hel,-,-⟩
 ·have e:Value.slice a len cap = .slice none 0 0:=by simpa [Value.cells] using hc
  rw[e];exact⟨[],SlS.nil W⟩
 ·have e:Value.slice a len cap = .slice (some a') len' cap':=by simpa [Value.cells] using hc
  rw[e];rw[cells_share]at hel
  have hall:∀ i,i<len' → ∃ q:List Value × Ra,RaS W q.1 q.2 ∧ ∀ j u,q.1[j]? = some u→W.cell? ((a'.add (i*6)).add j)=some u:=fun i hi=>by
   have h1:=hel i hi;rw[List.getElem?_eq_getElem (by omega),Option.bind_eq_some_iff]at h1;obtain⟨cs,hcs,hy⟩:=h1;obtain⟨ra,hra⟩:=share_of hy;exact⟨(cs,ra),hra,(cells_get hcs).2⟩
  obtain⟨L,hL1,hL2⟩:=list_of len' hall;refine⟨L.map (·.2),some a',cap',by rw[List.length_map,hL1],by rw[List.length_map,hL1];exact hl,hm,fun e=>(by cases e),fun i ra hi=>?_⟩;rw[List.getElem?_map]at hi
  cases hq:L[i]? with
  | none=>rw[hq]at hi;cases hi
  | some q =>
   rw[hq]at hi;obtain rfl:=Option.some.inj hi;obtain⟨h1,h2⟩:=hL2 i q hq;have hil:=(List.getElem?_eq_some_iff.1 hq).1;obtain⟨⟨k,n,p,x,y,p1,n1,c1,p2,n2,c2,hcs,-⟩,h20⟩:=hL2 0 _ (List.getElem?_eq_getElem (by omega));have h3:=World.cell?_spot (h20 0 (.int .u8 (k:Int)) (by rw[hcs];rfl));obtain⟨b,off,spot⟩:=a'
   have hs:spot=none:=by simpa [Addr.add] using h3
   subst hs;obtain⟨h1,-⟩:=hL2 i q hq;refine⟨b,off,q.1,rfl,h1,fun j u hj=>?_⟩;have h4:=h2 j u hj;rw[add_plain,add_plain]at h4;refine⟨h4,?_⟩
   rcases Nat.lt_or_ge b W.heap.size with g | g
   ·exact g
   ·simp [World.cell?,Array.getElem?_eq_none g]at h4
theorem open_val {v:Value}{d:DataW H}{ps:List MemPlace}{r:Reach}(hval:Value.okWide Tryz.prog W r b0 29 v) (h:DataW.Trod enc Tryz.prog W base (fun _=>true) true 29 v d ps) :
  ∃ (k:Nat) (n:Int) (p:Option Addr) (x y:Nat) (t:VT),v = .agg #[.int .u8 (k:Int),.int .i64 n,.slice p x y]∧IsV W (.agg #[.int .u8 (k:Int),.int .i64 n,.slice p x y]) t:=by
 obtain⟨cs,rfl,hsz⟩:=okWide_struct Tryz.underlying29 hval;obtain⟨fuel,hf⟩:=h;obtain⟨t,k,n,p,c,hcs,hv⟩:=val_of _ _ _ hf
 have e:cs = #[.int .u8 (k:Int),.int .i64 n,.slice p t.l.length c]:=by
  have h1:cs.toList=_:=hcs;rw[←Array.toArray_toList (xs:=cs),h1]
 exact⟨k,n,p,_,c,t,by rw[e],hv⟩
end
end Go.Proofs.YtfofjalebhajhaaGreatDoor
