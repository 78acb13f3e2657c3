/- The contracts of chapter 24 for masses (fractions in lowest terms). -/
import Derived.Test.YtfofjalebhajhaaGreatDoorMass17
namespace Go.Proofs.YtfofjalebhajhaaGreatDoor
open Go Go.RowKit
theorem mem_pts {M:List Pt}{P:Pt→Prop}(h:∀ a∈M,P a):∀ a∈M.map raPt,P (ptRa a):=by
 intro a ha;obtain⟨p,hp,rfl⟩:=List.mem_map.1 ha;rw[ptRa_pt];exact h p hp
theorem GathRet.cast {w:World}{M M':List Pt}(e:M=M'){z:Ending}{w':World}(h:GathRet w M z w'):GathRet w M' z w':=e ▸ h
theorem ofM_calls {w:World}{v:Value}{M:List Pt}(h:SlM w v M){D X k K:Nat}(hK:K≤1000) (hK1:1≤K) (hl:∀ a∈M,LenR K a.2) (hlen:M.length≤100000) (hz:∀ a∈M,szV a.1≤1000000)
  (hdn:∀ a∈M,Dn D X a.2) (hD0:D≠0) (hD:D<Bs^k) (hX:M.length*X<Bs^k) (hk1:1≤k) (hk:k≤10000):Calls Tryz.prog 18 #[v] w (GathRet w M):=by
 have:=of_calls24 (D:=D) (X:=X) (k:=k) h hK hK1 (mem_map_raPt hl) (by rw[List.length_map];exact hlen) (fun a ha=>mem_pts (P:=fun p=>szV p.1≤1000000) hz a ha) (by rw[pts_map];exact hdn) hD0 hD (by rw[List.length_map];exact hX) hk1 hk;rw[pts_map]at this;exact this
theorem totalM_calls {w:World}{v:Value}{M:List Pt}(h:SlM w v M){D X k K:Nat}(hD0:D≠0) (hD:D<Bs^k) (hX:M.length*X<Bs^k) (hk1:1≤k) (hk:k≤10000) (hdn:∀ a∈M,Dn D X a.2) (hK:K≤10000) (hK1:1≤K) (hl:∀ a∈M,LenR K a.2) :
  Calls Tryz.prog 16 #[v] w (RetQ w (totV M)):=by
 have:=total_calls (D:=D) (X:=X) (k:=k) h hD0 hD (by rw[List.length_map];exact hX) hk1 hk (by rw[pts_map];exact hdn) hK hK1 (mem_map_raPt hl);rw[pts_map]at this;exact this
theorem atM_calls {w:World}{v:Value}{M:List Pt}(h:SlM w v M){D X k K:Nat}(hD0:D≠0) (hD:D<Bs^k) (hX:M.length*X<Bs^k) (hk1:1≤k) (hk:k≤10000) (hdn:∀ a∈M,Dn D X a.2) (hK:K≤10000) (hK1:1≤K) (hl:∀ a∈M,LenR K a.2)
  {vk:Nat}{vn:Int}{vp:Option Addr}{vx vy:Nat}{t:VT}(hv:IsV w (.agg #[.int .u8 (vk:Int),.int .i64 vn,.slice vp vx vy]) t) :
  Calls Tryz.prog 12 #[v,.agg #[.int .u8 (vk:Int),.int .i64 vn,.slice vp vx vy]] w (RetQ w (atV M t)):=by
 have:=at_calls (D:=D) (X:=X) (k:=k) h hD0 hD (by rw[List.length_map];exact hX) hk1 hk (by rw[pts_map];exact hdn) hK hK1 (mem_map_raPt hl) hv;rw[pts_map]at this;exact this
theorem mayM_calls {w:World}{v:Value}{M:List Pt}(h:SlM w v M) (hm:MassP M){K:Nat}(hK:K≤20000) (hK1:1≤K) (hl:∀ a∈M,LenR K a.2):Calls Tryz.prog 14 #[v] w fun e w'=>e = .returned (.bool true)∧Ext w w' :=
 mmay_calls h hK hK1 (mem_map_raPt hl) true ⟨fun _=>hm.may,fun _=>rfl⟩
theorem isM_calls {w:World}{v u:Value}{M M':List Pt}(h:SlM w v M) (h':SlM w u M') (e:M=M'):Calls Tryz.prog 19 #[v,u] w fun e w'=>e = .returned (.bool true)∧Ext w w' :=
 is_calls h h' true ⟨fun _=>by rw[e],fun _=>rfl⟩
theorem scaleM_calls {w:World}{v:Value}{M:List Pt}(h:SlM w v M){D X k K K':Nat}{b:Bool}{p1:Option Addr}{n1 c1:Nat}{p2:Option Addr}{n2 c2:Nat}{q:Rat}(hr:InR w b (.slice p1 n1 c1) (.slice p2 n2 c2) K' q) (hK:K≤500) (hK':K'≤500) (hK1:1≤K) (hl:∀ a∈M,LenR K a.2) (hlen:M.length≤100000) (hz:∀ a∈M,szV a.1≤1000000)
  (hdn:∀ a∈M,Dn D X (a.2*q)) (hD0:D≠0) (hD:D<Bs^k) (hX:M.length*X<Bs^k) (hk1:1≤k) (hk:k≤10000) :
  Calls Tryz.prog 37 #[v,.agg #[.bool b,.slice p1 n1 c1,.slice p2 n2 c2]] w (GathRet w (M.map fun a=>(a.1,a.2*q))):=by
 have:=scale_calls (D:=D) (X:=X) (k:=k) h hr hK hK' hK1 (mem_map_raPt hl) (by rw[List.length_map];exact hlen) (fun a ha=>mem_pts (P:=fun p=>szV p.1≤1000000) hz a ha) (fun a ha=>mem_pts (P:=fun p=>Dn D X (p.2*q)) hdn a ha) hD0 hD (by rw[List.length_map];exact hX) hk1 hk;rw[List.map_map]at this
 have e:(fun a:Ra=>(a.1,qRa a*q)) ∘ raPt=fun a:Pt=>(a.1,a.2*q):=by
  funext a
  show ((raPt a).1,qRa (raPt a)*q)=_
  rw[qRa_pt];rfl
 rw[e]at this;exact this
def pairsM (A B:List Pt):List (Pt × Pt):=A.flatMap fun a=>B.map fun b=>(a,b)
theorem pairsM_mem {A B:List Pt}{p:Pt × Pt}(h:p∈pairsM A B):p.1∈A∧p.2∈B:=by
 unfold pairsM at h;obtain⟨a,ha,h2⟩:=List.mem_flatMap.1 h;obtain⟨b,hb,rfl⟩:=List.mem_map.1 h2;exact⟨ha,hb⟩
theorem pairsM_raw (A B:List Pt):pairsL (A.map raPt) (B.map raPt)=(pairsM A B).map fun p=>(raPt p.1,raPt p.2):=by
 unfold pairsL pairsM;rw[List.flatMap_map,List.map_flatMap]
 congr 1
 funext a
 rw[List.map_map,List.map_map];rfl
theorem joinM_calls {w:World}{v u:Value}{A B:List Pt}(h:SlM w v A) (h':SlM w u B){G:Nat}{f:VT→VT→VT}(hG:HowFn G f){D X k K:Nat}(hK:K≤500) (hK1:1≤K) (hl:∀ a∈A,LenR K a.2) (hl':∀ a∈B,LenR K a.2)
  (hlen:A.length*B.length≤60000) (hl1:A.length≤60000) (hl2:B.length≤60000) (hz:∀ a∈A,szV a.1≤100000) (hz':∀ a∈B,szV a.1≤100000) (hzf:∀ p∈pairsM A B,szV (f p.1.1 p.2.1)≤1000000)
  (hdn:∀ p∈pairsM A B,Dn D X (p.1.2*p.2.2)) (hD0:D≠0) (hD:D<Bs^k) (hX:A.length*B.length*X<Bs^k) (hk1:1≤k) (hk:k≤10000) :
  Calls Tryz.prog 26 #[v,u,.func (.func G) #[] #[]] w (GathRet w ((pairsM A B).map fun p=>(f p.1.1 p.2.1,p.1.2*p.2.2))):=by
 have hq:∀ p:Pt × Pt,qRa (raPt p.1)*qRa (raPt p.2)=p.1.2*p.2.2:=fun p=>by rw[qRa_pt,qRa_pt]
 have:=join_calls (D:=D) (X:=X) (k:=k) h h' hG hK hK1 (mem_map_raPt hl) (mem_map_raPt hl') (by rw[List.length_map,List.length_map];exact hlen) (by rw[List.length_map];exact hl1) (by rw[List.length_map];exact hl2)
  (fun a ha=>mem_pts (P:=fun p=>szV p.1≤100000) hz a ha) (fun a ha=>mem_pts (P:=fun p=>szV p.1≤100000) hz' a ha)
  (fun p hp=>by
   rw[pairsM_raw]at hp;obtain⟨q,h1,rfl⟩:=List.mem_map.1 hp
   exact hzf q h1)
  (fun p hp=>by
   rw[pairsM_raw]at hp;obtain⟨q,h1,rfl⟩:=List.mem_map.1 hp;rw[hq]
   exact hdn q h1) hD0 hD (by rw[List.length_map,List.length_map];exact hX) hk1 hk
 rw[pairsM_raw,List.map_map]at this
 have e:(fun p:Ra × Ra=>((f p.1.1 p.2.1,qRa p.1*qRa p.2):Pt)) ∘ (fun p:Pt × Pt=>(raPt p.1,raPt p.2))=fun p:Pt × Pt=>(f p.1.1 p.2.1,p.1.2*p.2.2):=by
  funext p
  show (f p.1.1 p.2.1,qRa (raPt p.1)*qRa (raPt p.2))=_
  rw[hq]
 rw[e]at this;exact this
theorem SlM.shape {w:World}{v:Value}{M:List Pt}(h:SlM w v M):∃ p c,v = .slice p M.length c:=by
 obtain⟨p,c,h1,-⟩:=h;exact⟨p,c,by rw[h1,List.length_map]⟩
end Go.Proofs.YtfofjalebhajhaaGreatDoor
