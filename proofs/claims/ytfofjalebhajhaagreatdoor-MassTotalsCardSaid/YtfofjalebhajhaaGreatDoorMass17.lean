/- What the examples of chapter 24 come to: plain facts. -/
import Derived.Test.YtfofjalebhajhaaGreatDoorMass16
namespace Go.Proofs.YtfofjalebhajhaaGreatDoor
open Go Go.RowKit
def nm (n:Int):VT:=.mk 1 n []
theorem cmpV_nm (a b:Int):cmpV (nm a) (nm b)=cmpI a b:=by unfold nm cmpV;simp
theorem szV_nm (a:Int):szV (nm a)=1:=by unfold nm szV;simp [szVs]
theorem isV_nm (w:World) (n:Int) (h:-9223372036854775808≤n∧n≤9223372036854775807):IsV w (.agg #[.int .u8 1,.int .i64 n,.slice none 0 0]) (nm n):=(owV_num 0 w n h).isV
theorem plain_nm {M:List Pt}(h:∀ a∈M,a.1=nm a.1.n):PlainP M:=by
 intro a ha b hb hc
 obtain⟨n,e1⟩:∃ n,a.1=nm n:=⟨_,h a ha⟩
 obtain⟨m,e2⟩:∃ n,b.1=nm n:=⟨_,h b hb⟩
 rw[e1,e2]at hc ⊢;rw[cmpV_nm,cmpI_zero]at hc;rw[hc]
theorem gath_is {M o T:List Pt}(hp:PlainP M) (h:Gath M o) (hT:Gath M T):o=T:=gath_uniq hp (List.Perm.refl _) h hT
theorem srt2 {a b:Pt}(h:cmpV a.1 b.1≤0):SrtP [a,b]:=List.pairwise_pair.2 h
theorem srt3 {a b c:Pt}(h1:cmpV a.1 b.1≤0) (h2:cmpV a.1 c.1≤0) (h3:cmpV b.1 c.1≤0):SrtP [a,b,c]:=by
 refine List.pairwise_cons.2 ⟨fun x hx=>?_,srt2 h3⟩;simp only[List.mem_cons,List.not_mem_nil,or_false]at hx
 rcases hx with rfl | rfl
 ·exact h1
 ·exact h2
theorem lenR_of {q:Rat}{k:Nat}(h:q.num.natAbs<65535∧q.den<65535) (hk:1≤k):LenR k q:=LenR.mono (k:=1) ⟨by rw[Nat.pow_one];exact small_Bs (by omega),by rw[Nat.pow_one];exact small_Bs (by omega)⟩ hk
theorem gA:∀ {o},Gath [(nm 2,mkRat 1 4),(nm 1,mkRat 1 2),(nm 2,mkRat 1 8)] o→o = [(nm 1,mkRat 1 2),(nm 2,mkRat 3 8)]:=by
 intro o h;refine gath_is (plain_nm (by simp [nm,VT.n])) h ⟨[(nm 1,mkRat 1 2),(nm 2,mkRat 1 4),(nm 2,mkRat 1 8)],List.Perm.swap _ _ _,srt3 (by rw[cmpV_nm];decide) (by rw[cmpV_nm];decide) (by rw[cmpV_nm];decide),fun _ hs=>?_,?_⟩
 ·have:=List.pairwise_cons.1 hs;have h1:=this.1 (nm 1,mkRat 1 2) (by simp);rw[cmpV_nm]at h1;exact absurd h1 (by decide)
 ·have e:mergeP [(nm 1,mkRat 1 2),(nm 2,mkRat 1 4),(nm 2,mkRat 1 8)] = [(nm 1,mkRat 1 2),(nm 2,mkRat 3 8)]:=by
   simp only[mergeP,List.foldl_cons,List.foldl_nil];rw[mstep_nil,show mstep [(nm 1,mkRat 1 2)] (nm 2,mkRat 1 4) = [(nm 1,mkRat 1 2),(nm 2,mkRat 1 4)] from mstep_ne [] _ _ (by rw[cmpV_nm];decide)];rw[show mstep [(nm 1,mkRat 1 2),(nm 2,mkRat 1 4)] (nm 2,mkRat 1 8) = [(nm 1,mkRat 1 2),(nm 2,mkRat 1 4+mkRat 1 8)] from mstep_eq [(nm 1,mkRat 1 2)] _ _ (by rw[cmpV_nm];decide)];rw[show mkRat 1 4+mkRat 1 8=mkRat 3 8 by decide +kernel]
  rw[e]
  have h1:decide (0<mkRat 1 2)=true:=by decide +kernel
  have h2:decide (0<mkRat 3 8)=true:=by decide +kernel
  simp only[List.filter_cons,List.filter_nil,h1,h2,if_true]
theorem gE:∀ {o},Gath [(nm 1,mkRat 1 3),(nm 1,mkRat 1 3),(nm 2,mkRat 1 3)] o→o = [(nm 1,mkRat 2 3),(nm 2,mkRat 1 3)]:=by
 intro o h;refine gath_is (plain_nm (by simp [nm,VT.n])) h ⟨[(nm 1,mkRat 1 3),(nm 1,mkRat 1 3),(nm 2,mkRat 1 3)],List.Perm.refl _,srt3 (by rw[cmpV_nm];decide) (by rw[cmpV_nm];decide) (by rw[cmpV_nm];decide),fun _ _=>rfl,?_⟩
 have e:mergeP [(nm 1,mkRat 1 3),(nm 1,mkRat 1 3),(nm 2,mkRat 1 3)] = [(nm 1,mkRat 2 3),(nm 2,mkRat 1 3)]:=by
  simp only[mergeP,List.foldl_cons,List.foldl_nil];rw[mstep_nil,show mstep [(nm 1,mkRat 1 3)] (nm 1,mkRat 1 3) = [(nm 1,mkRat 1 3+mkRat 1 3)] from mstep_eq [] _ _ (by rw[cmpV_nm];decide)];rw[show mkRat 1 3+mkRat 1 3=mkRat 2 3 by decide +kernel];rw[show mstep [(nm 1,mkRat 2 3)] (nm 2,mkRat 1 3) = [(nm 1,mkRat 2 3),(nm 2,mkRat 1 3)] from mstep_ne [] _ _ (by rw[cmpV_nm];decide)]
 rw[e]
 have h1:decide (0<mkRat 2 3)=true:=by decide +kernel
 have h2:decide (0<mkRat 1 3)=true:=by decide +kernel
 simp only[List.filter_cons,List.filter_nil,h1,h2,if_true]
theorem gT:∀ {o},Gath [(nm 0,mkRat 1 2),(nm 1,mkRat 1 2)] o→o = [(nm 0,mkRat 1 2),(nm 1,mkRat 1 2)]:=by
 intro o h;refine gath_is (plain_nm (by simp [nm,VT.n])) h (mass_gath ⟨List.pairwise_pair.2 (by rw[cmpV_nm];decide),fun a ha=>?_⟩);simp only[List.mem_cons,List.not_mem_nil,or_false]at ha
 rcases ha with rfl | rfl <;> decide +kernel
theorem gJ:∀ {o},Gath [(nm 0,mkRat 1 4),(nm 1,mkRat 1 4),(nm 1,mkRat 1 4),(nm 2,mkRat 1 4)] o→o = [(nm 0,mkRat 1 4),(nm 1,mkRat 1 2),(nm 2,mkRat 1 4)]:=by
 intro o h
 have hs:SrtP [(nm 0,mkRat 1 4),(nm 1,mkRat 1 4),(nm 1,mkRat 1 4),(nm 2,mkRat 1 4)]:=by
  refine List.pairwise_cons.2 ⟨fun x hx=>?_,srt3 (by rw[cmpV_nm];decide) (by rw[cmpV_nm];decide) (by rw[cmpV_nm];decide)⟩;simp only[List.mem_cons,List.not_mem_nil,or_false]at hx
  rcases hx with rfl | rfl | rfl <;> rw[cmpV_nm] <;> decide
 refine gath_is (plain_nm (by simp [nm,VT.n])) h ⟨_,List.Perm.refl _,hs,fun _ _=>rfl,?_⟩
 have e:mergeP [(nm 0,mkRat 1 4),(nm 1,mkRat 1 4),(nm 1,mkRat 1 4),(nm 2,mkRat 1 4)] = [(nm 0,mkRat 1 4),(nm 1,mkRat 1 2),(nm 2,mkRat 1 4)]:=by
  simp only[mergeP,List.foldl_cons,List.foldl_nil];rw[mstep_nil,show mstep [(nm 0,mkRat 1 4)] (nm 1,mkRat 1 4) = [(nm 0,mkRat 1 4),(nm 1,mkRat 1 4)] from mstep_ne [] _ _ (by rw[cmpV_nm];decide)];rw[show mstep [(nm 0,mkRat 1 4),(nm 1,mkRat 1 4)] (nm 1,mkRat 1 4) = [(nm 0,mkRat 1 4),(nm 1,mkRat 1 4+mkRat 1 4)] from mstep_eq [(nm 0,mkRat 1 4)] _ _ (by rw[cmpV_nm];decide)];rw[show mkRat 1 4+mkRat 1 4=mkRat 1 2 by decide +kernel];rw[show mstep [(nm 0,mkRat 1 4),(nm 1,mkRat 1 2)] (nm 2,mkRat 1 4) = [(nm 0,mkRat 1 4),(nm 1,mkRat 1 2),(nm 2,mkRat 1 4)] from mstep_ne [(nm 0,mkRat 1 4)] _ _ (by rw[cmpV_nm];decide)]
 rw[e]
 have h1:decide (0<mkRat 1 4)=true:=by decide +kernel
 have h2:decide (0<mkRat 1 2)=true:=by decide +kernel
 simp only[List.filter_cons,List.filter_nil,h1,h2,if_true]
theorem gN:∀ {o},Gath [(nm 1,mkRat 1 2),(nm 1,mkRat (-1) 2)] o→o = []:=by
 intro o h;refine gath_is (plain_nm (by simp [nm,VT.n])) h ⟨_,List.Perm.refl _,srt2 (by rw[cmpV_nm];decide),fun _ _=>rfl,?_⟩
 have e:mergeP [(nm 1,mkRat 1 2),(nm 1,mkRat (-1) 2)] = [(nm 1,0)]:=by
  simp only[mergeP,List.foldl_cons,List.foldl_nil];rw[mstep_nil,show mstep [(nm 1,mkRat 1 2)] (nm 1,mkRat (-1) 2) = [(nm 1,mkRat 1 2+mkRat (-1) 2)] from mstep_eq [] _ _ (by rw[cmpV_nm];decide)];rw[show mkRat 1 2+mkRat (-1) 2=0 by decide +kernel]
 rw[e]
 have h1:decide (0<(0:Rat))=false:=by decide +kernel
 simp only[List.filter_cons,List.filter_nil,h1,Bool.false_eq_true,if_false]
theorem mem_map_raPt {M:List Pt}{K:Nat}(h:∀ a∈M,LenR K a.2):∀ a∈M.map raPt,a.2.2.1.length≤K∧a.2.2.2.length≤K:=by
 intro a ha;obtain⟨p,hp,rfl⟩:=List.mem_map.1 ha;exact⟨dig_len_le (h p hp).1,dig_len_le (h p hp).2⟩
theorem mayRa_pt (p:Pt):mayRa (raPt p)=true:=by
 unfold mayRa;rw[decide_eq_true_eq,qRa_pt];refine⟨?_,rfl,rfl,rfl⟩
 show val (dig p.2.den)≠0
 rw[val_dig];exact p.2.den_nz
theorem MassP.may {M:List Pt}(h:MassP M):MayS (M.map raPt):=by
 intro i _ a ha;rw[List.getElem?_map]at ha
 cases hp:M[i]? with
 | none=>rw[hp]at ha;cases ha
 | some p =>
  rw[hp]at ha;obtain rfl:=Option.some.inj ha;refine⟨mayRa_pt p,by rw[qRa_pt];exact h.2 p (List.mem_of_getElem? hp),fun j b hj hb=>?_⟩;subst hj;rw[List.getElem?_map]at hb
  cases hq:M[j]? with
  | none=>rw[hq]at hb;cases hb
  | some q =>
   rw[hq]at hb;obtain rfl:=Option.some.inj hb;obtain⟨h1,e1⟩:=List.getElem?_eq_some_iff.1 hp;obtain⟨h2,e2⟩:=List.getElem?_eq_some_iff.1 hq;have:=List.pairwise_iff_getElem.1 h.1 j (j+1) h2 h1 (Nat.lt_succ_self _);rw[e1,e2]at this;exact this
end Go.Proofs.YtfofjalebhajhaaGreatDoor
