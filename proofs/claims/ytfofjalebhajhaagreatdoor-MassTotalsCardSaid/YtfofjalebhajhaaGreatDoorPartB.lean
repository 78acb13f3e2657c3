/- Facts and contracts, joined: Dec1, Dec2, DecLaw, QuoPlain, Shift, DivG, DivAll, Str, Nat3, Whole1, Whole2. -/
import Derived.Test.YtfofjalebhajhaaGreatDoorPartA
import Derived.Laws.IdiomStrings
import Derived.Deep.LoopGhost
import Derived.Test.YtfofjalebhajhaaGreatDoorRows
import Derived.Lib.EndianBits
import Derived.IntWalk
import Derived.Lib.AppendZerosOnto
import Derived.Deep.RegionHeld3
import Derived.Deep.DeepCutAuto
namespace Go.Proofs.YtfofjalebhajhaaGreatDoor
open Go Go.RowKit
def bv (d:Nat):Value:=.int .u8 ((48:Int)+(d:Int))
theorem bv_db {d:Nat}(h:d<10):bv d = .int .u8 ((db d).toNat:Int):=by rw[db_toNat h];rfl
structure DigMem (w:World) (g k n:Nat) (wr:World):Prop where
 own:wr.ownsRow g 158 1 (.slice (some ⟨g,0,none⟩) 20 20) 20 (List.replicate k (.int .u8 0) ++ (fixw (20 - k) n).map bv)
 ext:Ext w wr
theorem DigMem.cell {w:World}{g k n:Nat}{wr:World}(h:DigMem w g (k+1) n wr) (hk:k<20):wr.cell? ⟨g,k,none⟩=some (.int .u8 0):=by
 rw[h.own.cellAt k (by omega),List.getElem?_append_left (by simp)]
 simp
theorem DigMem.froz {w:World}{g k n:Nat}{wr:World}(h:DigMem w g k n wr) (j:Nat):wr.frozen? ⟨g,j,none⟩=false:=h.own.frozenAt j
theorem fixw_succ (j m:Nat):∀ n,m=n / 10^j→fixw (j+1) n=m % 10 :: fixw j n:=by
 intro n hm;rw[Nat.add_comm,fixw_add,←hm];simp [fixw]
theorem DigMem.next {w:World}{g k n m:Nat}{wr:World}(h:DigMem w g (k+1) n wr) (hg:w.heap.size≤g) (hk:k<20) (hm:m=n / 10^(20 - (k+1))) :
  DigMem w g k n (wr.setCell ⟨g,k,none⟩ (bv (m % 10))):=by
 obtain⟨o3,_⟩:=h.own.stored k (bv (m % 10));refine⟨?_,Below.setCell h.ext (by show w.heap.size≤g;exact hg) _⟩
 have e:(List.replicate (k+1) (Value.int .u8 0) ++ (fixw (20 - (k+1)) n).map bv).set k (bv (m % 10))=List.replicate k (Value.int .u8 0) ++ (fixw (20 - k) n).map bv:=by
  rw[List.replicate_succ',List.append_assoc,List.set_append_right _ _ (by simp)];rw[show 20 - k=20 - (k+1)+1 by omega,fixw_succ _ m n hm]
  simp
 rw[←e];exact o3
theorem DigMem.conv {w:World}{g n:Nat}{wr:World}(h:DigMem w g 0 n wr) :
  (convert 124 9 (.slice (some ⟨g,2,none⟩) 18 18)).run Tryz.prog wr = .ok (.string ⟨((fixw 18 n).map db).toArray⟩) wr:=by
 have hl:((fixw 18 n).map db).length=18:=by simp [fixw_length]
 have:=run_convert_bytes_back (P:=Tryz.prog) wr 124 9 5 ⟨g,2,none⟩ 18 ((fixw 18 n).map db) Tryz.underlying124 Tryz.underlying5 Tryz.underlying9 (fun j hj=>by
  have hj':j<18:=by omega
  rw[Addr.add_lit,h.own.cellAt (2+j) (by omega)];have e:fixw 20 n=fixw 2 (n / 10^18) ++ fixw 18 n:=fixw_add 2 18 n;simp only[List.replicate_zero,List.nil_append,Nat.sub_zero,e,List.map_append];rw[List.getElem?_append_right (by simp [fixw_length])];simp only[List.length_map,fixw_length,Nat.add_sub_cancel_left]
  have hjf:j<(fixw 18 n).length:=by rw[fixw_length];exact hj'
  simp only[List.getElem?_map,List.getElem?_eq_getElem hjf,Option.map_some,List.getElem_map]
  rw[bv_db (fixw_lt 18 n _ (List.getElem_mem hjf))])
 rwa [hl]at this
set_option maxHeartbeats 1000000 in
set_option maxRecDepth 1000000 in
theorem digits_calls (w:World) (n:Nat) (hn:n<Bs) :
  Calls Tryz.prog 92 #[.int .u64 (n:Int),.int .i64 18] w fun e w'=>e = .returned (.string ⟨((fixw 18 n).map db).toArray⟩)∧Ext w w':=by
 have hn':(n:Int)≤18446744073709551615:=by rw[Bs_def]at hn;omega
 have I0:Hid (∀ C:Array Value,C.toList=List.replicate 20 (.int .u8 0)→DigMem w w.heap.size 20 n (w.alloc (.cells C 158))):=by
  intro C hC;refine⟨⟨by simp [fixw],.inr ⟨w.heap.size,20,C,rfl,Nat.le_refl _,heap_alloc_new w _,Nat.le_refl _,by unfold maxLen;omega,by rw[←Array.length_toList,hC];simp,by rw[hC];simp [fixw]⟩⟩,(Ext.refl w).alloc _⟩
 go_enter Tryz.func92,Tryz.ntmps92
 go_wp2_with fail
 go_loopw [0,6] (fun v0 v6 wr => ∃ k m:Nat,v6 = .int .i64 ((k:Int) - 1)∧v0 = .int .u64 (m:Int)∧k≤20∧m≤n∧m=n / 10^(20 - k)∧DigMem w w.heap.size k n wr) (fun _ v6 _=>(intOf v6+1).toNat)
 case atStart=>exact⟨20,n,rfl,rfl,Nat.le_refl _,Nat.le_refl _,by simp,I0.out _ rfl⟩
 case round =>
  obtain⟨k,m,rfl,rfl,hk,hmn,hm,hI⟩:=hrel;have HM:=Hd hm;clear hm
  by_cases h0:k=0
  ·subst h0;have hcv:=hI.conv;go_wp2_with fail;go_ret;exact⟨rfl,hI.ext⟩
  ·obtain⟨j,rfl⟩:∃ j,k=j+1:=⟨k - 1,by omega⟩
   have hc:=hI.cell (by omega);have hf:=hI.froz j
   have hm':(m:Int)≤18446744073709551615:=by omega
   go_wp2_with fail
   have hd:m / 10=n / 10^(20 - j):=by
    rw[HM.out,Nat.div_div_eq_div_mul,←Nat.pow_succ];congr 2;omega
   exact⟨⟨j,m / 10,rfl,int_eq (by simp),by omega,by omega,hd,hI.next (Nat.le_refl _) (by omega) HM.out⟩,by simp [intOf]⟩
theorem sl_lit (w:World) (e:TypeId) (C:Array Value) (n:Nat) (hn:n=C.size) (hl:n≤maxLen):Sl 1 (w.alloc (.cells C e)) (.slice (some ⟨w.heap.size,0,none⟩) n n) n C.toList:=by
 subst hn;refine⟨by simp,_,_,rfl,Nat.le_refl _,hl,(fun e=>by cases e),fun p hp _=>?_⟩;obtain rfl:=Option.some.inj hp;refine⟨rfl,by simp,fun j hj=>?_⟩
 have hj':j<C.size:=by simpa using hj
 rw[cell_of_row _ w.heap.size _ C e (0,0) (heap_alloc_new w _),Nat.zero_add,Array.getElem?_eq_getElem hj']
 simp
theorem info_str:(Tryz.prog.info? 9).map (fun i=>(i.zero,i.size,i.bytes))=some (some (.string ⟨#[]⟩),1,16):=by kernel_rfl
theorem ts_ex:∃ b:Nat,b=10^18:=⟨_,rfl⟩
noncomputable def Ts:Nat:=Classical.choose ts_ex
theorem Ts_def:Ts=10^18:=Classical.choose_spec ts_ex
theorem Ts_lt:Ts<Bs:=by rw[Ts_def,Bs_def];decide
theorem Ts_pos:0<Ts:=by rw[Ts_def];decide
noncomputable def part (n i:Nat):Value:=.string ⟨((fixw 18 (n / Ts^i)).map db).toArray⟩
noncomputable def parts (n k:Nat):List Value:=(List.range k).map (part n)
theorem parts_succ (n k:Nat):parts n (k+1)=parts n k ++ [part n k]:=by simp [parts,List.range_succ]
theorem OwnL.kept {B:Nat}{w w':World}{v:Value}{A:List Nat}{row:Option Nat}(h:OwnL B w v A) (hg:w.grownBy w' row) (hr:∀ g,row=some g→g<B):OwnL B w' v A:=by
 refine⟨?_,h.2⟩
 rcases h.1 with h1 | ⟨a,h1,h2,h3,h4⟩
 ·refine .inl (h1.kept hg ?_)
  cases hv:v.ownBlock with
  | none=>exact .inl rfl
  | some b =>
   right
   intro e;have h5:=(h1.lt b hv).1;have h6:=hr b e.symm;omega
 ·exact .inr ⟨a,h1,h2,h3,fun p hp=>⟨(h4 p hp).1,Nat.lt_of_lt_of_le (h4 p hp).2 hg.size⟩⟩
theorem own_shape {w:World}{B:Nat}{e:TypeId}{s:Nat}{v:Value}{n:Nat}{xs:List Value}(h:w.ownsRow B e s v n xs):∃ a cap,v = .slice a n cap:=by
 rcases h.2 with⟨rfl,rfl⟩ | ⟨g,cap,cur,rfl,_⟩
 ·exact⟨_,_,rfl⟩
 ·exact⟨_,_,rfl⟩
theorem own_grow_ext {w wr w':World}{e:TypeId}{s:Nat}{v:Value}{n:Nat}{xs:List Value}(h:wr.ownsRow w.heap.size e s v n xs) (k:Ext w wr){w5:World}(k5:Ext wr w5) (hg:w5.grownBy w' v.ownBlock):Ext w w' :=
 (k.trans k5).grown hg (fun b hb=>(h.lt b hb).1)
theorem own_cell {w:World}{B:Nat}{e:TypeId}{a:Option Addr}{n cap:Nat}{xs:List Value}(h:w.ownsRow B e 1 (.slice a n cap) n xs){j:Nat}(hj:j<n) :
  ∃ g,a=some ⟨g,0,none⟩∧g<w.heap.size∧n≤cap∧cap≤maxLen ∧ ∀ i,i<n→w.cell? ⟨g,i,none⟩=xs[i]?:=by
 rcases h.2 with⟨_,h0⟩ | ⟨g,cap',cur,e',hg,hh,hc,hm,_⟩
 ·omega
 ·cases e'
  exact⟨g,rfl,(Array.getElem?_eq_some_iff.1 hh).1,hc,hm,fun i hi=>h.cellAt i (by omega)⟩
structure BldMem (wb:World) (n k j:Nat) (wr:World):Prop where
 bld:Lib.IsBuilder 126 5 wb.heap.size wb.heap.size (Lib.byteCells ((fixw (18*(k - j)) (n / Ts^j)).map db)) wr
 ext:Ext wb wr
theorem BldMem.start (wb:World) (n k:Nat) (C:Array Value) (hC:C = #[.pointer none,.slice none 0 0]):BldMem wb n k k (wb.alloc (.cells C 126)):=by
 subst hC;refine⟨.inl ⟨Nat.le_refl _,.slice none 0 0,heap_alloc_new wb _,?_,by simp [Value.ownBlock]⟩,(Ext.refl wb).alloc _⟩;rw[Nat.sub_self];exact World.ownsRow_nil ..
theorem BldMem.next {wb wr w2:World}{n k m:Nat}{sb:ByteArray}(h:BldMem wb n k (m+1) wr) (hk:m<k) (hs:sb=⟨((fixw 18 (n / Ts^m)).map db).toArray⟩)
  (h2:Lib.BuilderAt 126 5 wb.heap.size wb.heap.size (.pointer (some ⟨wb.heap.size,0,none⟩)) (Lib.byteCells ((fixw (18*(k - (m+1))) (n / Ts^(m+1))).map db) ++ Lib.strCells sb) w2) (hb:Below wb.heap.size wr w2):BldMem wb n k m w2:=by
 refine⟨.inr ?_,h.ext.below hb⟩
 have e:Lib.byteCells ((fixw (18*(k - (m+1))) (n / Ts^(m+1))).map db) ++ Lib.strCells sb=Lib.byteCells ((fixw (18*(k - m)) (n / Ts^m)).map db):=by
  rw[hs,show 18*(k - m)=18*(k - (m+1))+18 by omega,fixw_add,Nat.pow_succ,←Nat.div_div_eq_div_mul,Ts_def];simp [Lib.byteCells,Lib.strCells]
 rw[←e];exact h2
theorem trim_digits {k n:Nat}(h:n<10^k):Lib.trimLeftB ((fixw k n).map db) 48=(dgs n).map db:=by
 have key:∀ l:List Nat,(∀ d∈l,d<10)→(l.map db).dropWhile (· == 48)=(dropZ l).map db:=by
  intro l
  induction l with
  | nil=>intro _;rfl
  | cons d l ih =>
   intro hd;have h1:=hd d (List.mem_cons_self ..);rw[List.map_cons,List.dropWhile_cons,dropZ]
   by_cases h0:d=0
   ·rw[if_pos h0,if_pos (by rw[beq_iff_eq];exact (db_eq h1).2 h0)]
    exact ih fun y hy=>hd y (List.mem_cons_of_mem _ hy)
   ·rw[if_neg h0,if_neg (by rw[beq_iff_eq];exact fun e=>h0 ((db_eq h1).1 e))];rfl
 rw[Lib.trimLeftB,key _ (fixw_lt k n),dropZ_fixw h]
theorem pow_ts (k n m:Nat) (h:n<Bs^m) (hk:n / Ts^k≠0):k≤2*m:=by
 have h1:Ts^k≤n:=by
  rcases Nat.lt_or_ge n (Ts^k) with g | g
  ·exact absurd (Nat.div_eq_of_lt g) hk
  ·exact g
 have h2:(2^32)^k≤Ts^k:=Nat.pow_le_pow_left (by rw[Ts_def];decide) k;have h3:(2^32)^k<Bs^m:=Nat.lt_of_le_of_lt (Nat.le_trans h2 h1) h;rw[Bs_eq,←Nat.pow_mul,←Nat.pow_mul]at h3;have h4:=(Nat.pow_lt_pow_iff_right (by decide:1<2)).1 h3;omega
structure ShowMem (w:World) (n k V:Nat) (pv v:Value) (wr:World):Prop where
 own:wr.ownsRow w.heap.size 9 1 pv k (parts n k)
 lim:Limbs wr v (dig V)
 v_eq:V=n / Ts^k
 ext:Ext w wr
set_option maxHeartbeats 2000000 in
set_option maxRecDepth 1000000 in
theorem show_calls {w:World}{v:Value}{A:List Nat}(hA:Limbs w v A) (hln:A.length≤65536) :
  Calls Tryz.prog 58 #[v] w fun e w'=>e = .returned (.string ⟨(showL (val A)).toArray⟩)∧Ext w w':=by
 have HL:Hid (A.length≤Lmax):=by show _≤Lmax;rw[Lmax_def];omega
 obtain⟨n,hn⟩:∃ n,n=val A:=⟨_,rfl⟩
 have HDL:Hid (∀ V,V≤n→(dig V).length≤65536):=by
  intro V hV;refine Nat.le_trans (dig_len_le (Nat.lt_of_le_of_lt hV (by rw[hn];exact val_lt hA.2))) hln
 rw[←hn];have HN:=Hd hn;have HLN:=Hd hln;clear hn hln
 go_enter Tryz.func58,Tryz.ntmps58
 go_wp2_with fail;refine (trim_calls hA HL.out).mono ?_;rintro e w1 ⟨a1,rfl,ha1,hx1⟩;rw[←HN.out]at ha1;go_wp2_with fail
 go_loopg [3,4] n (fun V pv v wr => ∃ k:Nat,V≤n∧k≤131073∧ShowMem w n k V pv v wr)
 case atStart=>exact⟨0,Nat.le_refl _,by omega,World.ownsRow_nil ..,ha1.limbs,by simp,hx1⟩
 case round =>
  obtain⟨k,hV,hk3,hI⟩:=hrel;have hlim:=hI.lim;obtain⟨a,cap,rfl,k1,k2,-⟩:=hlim.open;unfold maxLen at k2
  by_cases h0:gk=0
  ·have hlen:(dig gk).length=0:=by rw[h0,dig_zero];rfl
   have H0:=Hd h0
   obtain⟨wb,rfl⟩:∃ wb:World,wb=wr:=⟨_,rfl⟩
   obtain⟨pa,pc,rfl⟩:=own_shape hI.own;have HI:=Hd hI;have HB0:Hid (∀ C:Array Value,C = #[.pointer none,.slice none 0 0]→BldMem wb n k k (wb.alloc (.cells C 126))):=BldMem.start wb n k
   have HBD:Hid (n<10^(18*k)):=by
    have h1:=HI.out.v_eq;rw[h0]at h1
    have h2:n<Ts^k:=by
     rcases Nat.lt_or_ge n (Ts^k) with g | g
     ·exact g
     ·have:=Nat.div_pos g (Nat.pow_pos Ts_pos);omega
    show n<_
    rw[Nat.pow_mul,←Ts_def];exact h2
   clear h0 hI;go_wp2_with fail;clear hlen
   go_loopw [11] (fun v11 wx => ∃ j:Nat,v11 = .int .i64 ((j:Int) - 1)∧j≤k∧BldMem wb n k j wx) (fun v11 _=>(intOf v11+1).toNat)
   case atStart=>exact⟨k,rfl,Nat.le_refl _,HB0.out _ rfl⟩
   case round =>
    obtain⟨j,rfl,hj,hM⟩:=hrel
    by_cases hj0:j=0
    ·subst hj0
     obtain⟨s1,hs1⟩:∃ s1:ByteArray,s1=⟨((fixw (18*k) n).map db).toArray⟩:=⟨_,rfl⟩
     have hB:=bldString_calls wb.heap.size wb.heap.size ((fixw (18*(k - 0)) (n / Ts^0)).map db) wr hM.bld hM.ext.size;rw[Nat.sub_zero,Nat.pow_zero,Nat.div_one,←hs1]at hB;have HBS:=Hd hB
     have H3:Hid ((⟨(Lib.trimLeftB s1.data.toList 48).toArray⟩:ByteArray)=⟨((dgs n).map db).toArray⟩):=by
      show (_:ByteArray)=_
      rw[hs1]
      show (⟨(Lib.trimLeftB ((fixw (18*k) n).map db) 48).toArray⟩:ByteArray)=_
      rw[trim_digits HBD.out]
     obtain⟨s3,hs3⟩:∃ s3:ByteArray,s3=⟨((dgs n).map db).toArray⟩:=⟨_,rfl⟩
     rw[←hs3]at H3;have HM:=Hd hM;clear hB hM hs1
     by_cases hn0:n=0
     ·have hs4:s3=⟨#[]⟩:=by rw[hs3,hn0,dgs_zero];rfl
      have HR:Hid (showL n = [48]):=by show _=_;rw[hn0];rfl
      clear hs3 hn0;subst hs4
      go_wp2_with (first
       | (go_at_call 95;refine (HBS.out).mono ?_;rintro e w2 ⟨rfl,hx2⟩)
       | (go_at_call 94;refine (trimLeft_one s1 48 (by decide) _).mono ?_;rintro e w3 ⟨rfl,rfl⟩;rw[H3.out]))
      go_ret;exact⟨by rw[HR.out];rfl,HI.out.ext.trans (HM.out.ext.below hx2)⟩
     ·have hne:s3.toList.isEmpty=false:=by
       rw[Lib.toList_data,hs3];simp [dgs_ne hn0]
      have hne2:¬ s3.toList = []:=by intro e;rw[e]at hne;exact absurd hne (by decide)
      have HR:Hid ((⟨(showL n).toArray⟩:ByteArray)=s3):=by show (_:ByteArray)=_;rw[hs3,showL_pos hn0]
      clear hs3 hn0
      go_wp2_with (first
       | (go_at_call 95;refine (HBS.out).mono ?_;rintro e w2 ⟨rfl,hx2⟩)
       | (go_at_call 94;refine (trimLeft_one s1 48 (by decide) _).mono ?_;rintro e w3 ⟨rfl,rfl⟩;rw[H3.out]))
      go_ret;exact⟨by rw[HR.out];rfl,HI.out.ext.trans (HM.out.ext.below hx2)⟩
    ·obtain⟨m,rfl⟩:∃ m,j=m+1:=⟨j - 1,by omega⟩
     obtain⟨g,rfl,hg,hpc,hpm,hcells⟩:=own_cell HI.out.own (j:=m) (by omega);unfold maxLen at hpm
     obtain⟨sb,hsb⟩:∃ sb:ByteArray,sb=⟨((fixw 18 (n / Ts^m)).map db).toArray⟩:=⟨_,rfl⟩
     have hc:wr.cell? ⟨g,m,none⟩=some (.string sb):=by
      rw[Below.cell hM.ext (p:=⟨g,m,none⟩) hg,hcells m (by omega),hsb];simp [parts,part,show m<k by omega]
     have hsz:sb.size=18:=by rw[hsb];simp [ByteArray.size,fixw_length]
     have hW:=writeString_calls wb.heap.size wb.heap.size _ sb wr hM.bld (by rw[hsz];simp [Lib.byteCells,fixw_length];omega) hM.ext.size;have HW:=Hd hW;have HSB:=Hd hsb;have HM:=Hd hM;clear hW hsb hM hsz hcells
     go_wp2_with (go_at_call 93;refine (HW.out).mono ?_;rintro e w2 ⟨rfl,h2,hb2⟩)
     exact⟨⟨m,rfl,by omega,HM.out.next (by omega) HSB.out h2 hb2⟩,by simp [intOf]⟩
  ·have hlen:(0:Int)<((dig gk).length:Int):=by rw[dig_pos h0,List.length_cons];omega
   have HI:=Hd hI
   obtain⟨d,hd⟩:∃ d,d=gk % Ts:=⟨_,rfl⟩
   have hdB:d<Bs:=by rw[hd];exact Nat.lt_trans (Nat.mod_lt _ Ts_pos) Ts_lt
   have HK:Hid (k≤131072):=by
    have:=pow_ts k n A.length (by rw[HN.out];exact val_lt hA.2) (by rw[←HI.out.v_eq];exact h0);have h2:=HLN.out
    show k≤131072
    omega
   have hL:Limbs (wr.alloc (.cells #[.int .u64 1000000000000000000] 53)) (.slice (some ⟨wr.heap.size,0,none⟩) 1 1) [Ts] :=
    limbs_lit wr [Ts] (by simpa using Ts_lt) _ (by simp [lv,Ts_def]) 1 rfl (by rw[Lmax_def];simp)
   have hvT:val [Ts]=Ts:=by simp [val]
   have hdv:=div1_calls (hlim.ext ((Ext.refl wr).alloc _)) hL (by rw[Lmax_def];exact Nat.le_trans (HDL.out gk hV) (by omega)) (by rw[Lmax_def];decide) (by rw[hvT];exact Ts_pos) (by rw[hvT];exact Ts_lt);rw[hvT,val_dig,←hd]at hdv;have HD:=Hd hdv
   have HD1:Hid ((dig d).length≤Lmax):=by
    show _≤Lmax
    rw[Lmax_def];exact Nat.le_trans (dig_len_le (k:=1) (by simpa using hdB)) (by omega)
   have HS:Hid (smallN (val (dig d))=d):=by show smallN _=d;rw[val_dig,smallN,if_pos hdB]
   obtain⟨sb,hsb⟩:∃ sb:ByteArray,sb=⟨((fixw 18 d).map db).toArray⟩:=⟨_,rfl⟩
   have HB:=Hd hsb
   have HP:Hid (Value.string sb=part n k):=by
    show Value.string _=Value.string _
    rw[hsb]
    have e:fixw 18 (gk % Ts)=fixw 18 gk:=by rw[Ts_def];exact fixw_mod 18 gk
    rw[hd,e,HI.out.v_eq]
   have HDD:=Hd hd;have HDB:=Hd hdB;have hlt:gk / Ts<gk:=Nat.div_lt_self (by omega) (by rw[Ts_def];decide);have HLT:=Hd hlt;clear hdv hvT hI hd hdB hlt hsb
   go_wp2_with (first
    | (go_at_call 90;refine (HD.out).mono ?_;rintro e w2 ⟨q,r,rfl,hq,hr,hx2⟩)
    | (go_at_call 91;refine (small_calls hr.limbs HD1.out).mono ?_;rintro e w' ⟨rfl,rfl⟩;rw[HS.out])
    | (go_at_call 92;refine (digits_calls _ d HDB.out).mono ?_;rintro e w3 ⟨rfl,hx3⟩;rw[←HB.out])
    | (at_builtin;refine wpList_append_sl rfl _ _ 116 rfl w.heap.size 9 (.string ⟨#[]⟩) 1 16 Tryz.underlying116 info_str rfl (by decide) _ k (parts n k) rfl (ownsRow_ext HI.out.own ((((Ext.refl wr).alloc _).trans hx2).trans (hx3.alloc _))) _ 1 [.string sb] rfl (sl_lit _ _ #[.string sb] 1 rfl (by unfold maxLen;omega)) (by simp [Value.oneCell']) (by have:=HK.out;unfold maxLen;omega) (by have:=HK.out;omega) (((HI.out.ext.alloc _).trans hx2).trans (hx3.alloc _)).size ?_;intro v' w' hown' hgrow;have hE:=own_grow_ext HI.out.own HI.out.ext ((((Ext.refl wr).alloc _).trans hx2).trans (hx3.alloc _)) hgrow;have HO:=Hd hown';clear hown'))
   ·have hq':=hq.ext hx3;have hqk:=(hq'.ext (eR.alloc _)).kept hgrow (fun g hg=>by have:=(HI.out.own.lt g hg).2;simp;omega)
    go_roundg (gk / Ts)
    case measure=>exact HLT.out
    case rel=>exact⟨k+1,Nat.le_trans (Nat.le_of_lt HLT.out) hV,by have:=HK.out;omega,by rw[parts_succ,←HP.out];exact HO.out,hqk.limbs,by rw[HI.out.v_eq,Nat.div_div_eq_div_mul,Nat.pow_succ],hE⟩
end Go.Proofs.YtfofjalebhajhaaGreatDoor
namespace Go.Proofs.YtfofjalebhajhaaGreatDoor
open Go Go.RowKit
structure RdMem (w:World) (l:List UInt8) (gk:Nat) (t:ByteArray) (p r:List UInt8) (v:Value) (wr:World):Prop where
 text:t.data.toList=r
 split:l=p ++ r
 left:r.length=gk
 own:OwnL w.heap.size wr v (dig (dval (p.map dv)))
 ext:Ext w wr
theorem RdMem.size {w:World}{l:List UInt8}{gk:Nat}{t:ByteArray}{p r:List UInt8}{v:Value}{wr:World}(h:RdMem w l gk t p r v wr):t.size=r.length:=by
 rw[←h.text];exact Lib.size_eq t
structure RdPart (r:List UInt8) (i P Q:Nat):Prop where
 p_eq:P=dval ((r.take i).map dv)
 q_eq:Q=10^i
 lt:P<Q
theorem RdPart.start (r:List UInt8):RdPart r 0 0 1:=⟨by simp [dval],by simp,by omega⟩
theorem RdPart.next {r:List UInt8}{i P Q:Nat}(h:RdPart r i P Q) (hi:i<r.length) (h1:48≤bn r i) (h2:bn r i≤57):RdPart r (i+1) (10*P+(bn r i - 48)) (10*Q):=by
 have hl:=h.lt
 have e:dv r[i]=bn r i - 48:=by unfold dv bn;rw[List.getElem?_eq_getElem hi];rfl
 refine⟨?_,by rw[h.q_eq,Nat.pow_succ,Nat.mul_comm],by omega⟩;rw[List.take_succ_eq_append_getElem hi,List.map_append,List.map_singleton,dval_append,←h.p_eq,e]
theorem RdPart.q_le {r:List UInt8}{i P Q:Nat}(h:RdPart r i P Q) (hi:i<18):(Q:Int)≤100000000000000000:=by
 have h1:Q≤10^17:=by rw[h.q_eq];exact Nat.pow_le_pow_right (n:=10) (by decide) (by omega)
 have h2:(10:Nat)^17=100000000000000000:=by decide
 rw[h2]at h1;exact Int.ofNat_le.2 h1
theorem RdMem.okp {w:World}{l:List UInt8}{gk:Nat}{t:ByteArray}{p r:List UInt8}{v:Value}{wr:World}(h:RdMem w l gk t p r v wr) (hl:l.all okd=true):p.all okd=true:=by
 rw[h.split,List.all_append]at hl;simp only[Bool.and_eq_true]at hl;exact hl.1
theorem dval_bs {p:List UInt8}(h:p.all okd=true):dval (p.map dv)<Bs^p.length:=by
 have h1:dval (p.map dv)<10^(p.map dv).length:=dval_lt fun d hd=>by
  obtain⟨b,hb,rfl⟩:=List.mem_map.1 hd;exact dv_lt (List.all_eq_true.1 h b hb)
 rw[List.length_map]at h1;exact Nat.lt_of_lt_of_le h1 (Nat.pow_le_pow_left (by rw[Bs_def];decide) _)
theorem RdMem.len {w:World}{l:List UInt8}{gk:Nat}{t:ByteArray}{p r:List UInt8}{v:Value}{wr:World}(h:RdMem w l gk t p r v wr) (hl:l.all okd=true) (hn:l.length≤20000):(dig (dval (p.map dv))).length≤20000:=by
 refine Nat.le_trans (dig_len_le (dval_bs (h.okp hl))) ?_;have:=congrArg List.length h.split;rw[List.length_append]at this;omega
theorem extract_from_toList (s:ByteArray) (k:Nat):(s.extract k s.size).data.toList=s.data.toList.drop k:=by
 rw[ByteArray.data_extract,Array.toList_extract,List.extract_eq_take_drop];exact List.take_of_length_le (by rw[List.length_drop,Array.length_toList];exact Nat.le_refl _)
theorem RdMem.next {w:World}{l:List UInt8}{gk:Nat}{t:ByteArray}{p r:List UInt8}{v:Value}{wr:World}(h:RdMem w l gk t p r v wr){m P Q:Nat}(hm:m≤t.size) (hp:RdPart r m P Q)
  {v':Value}{w':World}(hx:Ext wr w'){n:Nat}(hn:n=dval (p.map dv)*Q+P) (ho:OwnL wr.heap.size w' v' (dig n)) :
  RdMem w l (gk - m) (t.extract m t.size) (p ++ r.take m) (r.drop m) v' w':=by
 have hs:=h.size;refine⟨?_,?_,?_,?_,h.ext.trans hx⟩
 ·rw[extract_from_toList,h.text]
 ·rw[List.append_assoc,List.take_append_drop];exact h.split
 ·rw[List.length_drop,h.left]
 ·rw[List.map_append,dval_app,List.length_map,List.length_take,Nat.min_eq_left (by omega),←hp.p_eq,←hp.q_eq,←hn];exact ho.mono h.ext.size
end Go.Proofs.YtfofjalebhajhaaGreatDoor
namespace Go.Proofs.YtfofjalebhajhaaGreatDoor
theorem list_snoc {α:Type}{P:List α → Prop}(h0:P []) (h1:∀ l a,P l→P (l ++ [a])) (l:List α):P l:=by
 have key:∀ r:List α,P r.reverse:=by
  intro r
  induction r with
  | nil=>exact h0
  | cons a r ih=>rw[List.reverse_cons];exact h1 _ _ ih
 have:=key l.reverse
 rwa [List.reverse_reverse]at this
theorem dgs_dval (l:List Nat):(∀ d∈l,d<10)→l.head? ≠ some 0→dgs (dval l)=l:=by
 refine list_snoc (P:=fun l=>(∀ d∈l,d<10)→l.head? ≠ some 0→dgs (dval l)=l) ?_ ?_ l
 ·intro _ _;exact dgs_zero
 ·intro l a ih hd hh;have ha:=hd a (by simp);rw[dval_append]
  by_cases hl:l = []
  ·subst hl
   have ha0:a≠0:=by intro e;subst e;exact hh rfl
   rw[show 10*dval []+a=a by simp [dval],dgs_pos ha0,Nat.div_eq_of_lt ha,dgs_zero,Nat.mod_eq_of_lt ha,List.nil_append]
  ·have hh':l.head? ≠ some 0:=by
    cases l with
    | nil=>exact absurd rfl hl
    | cons x l=>simpa using hh
   have h1:=ih (fun d hd'=>hd d (by simp [hd'])) hh'
   have h2:dval l≠0:=by intro e;rw[e,dgs_zero]at h1;exact hl h1.symm
   rw[dgs_pos (by omega),show (10*dval l+a) / 10=dval l by omega,show (10*dval l+a) % 10=a by omega,h1]
theorem map_db_dv {l:List UInt8}(h:l.all okd=true):(l.map dv).map db=l:=by
 rw[List.map_map]
 conv=>rhs;rw[←List.map_id l]
 exact List.map_congr_left fun b hb=>db_dv (List.all_eq_true.1 h b hb)
theorem errR_parts {l:List UInt8}(h:errR l=0):l ≠ []∧l.all okd=true∧(l.head? = some 48→l.length≤1)∧l.length≤20000:=by
 unfold errR at h
 split at h
 ·cases h
 ·rename_i h1
  split at h
  ·cases h
  ·rename_i h2
   split at h
   ·cases h
   ·rename_i h3
    split at h
    ·cases h
    ·rename_i h4
     refine⟨h1,by simpa using h2,fun e=>?_,by omega⟩
     rcases Nat.lt_or_ge 1 l.length with g | g
     ·exact absurd ⟨e,g⟩ h3
     ·exact g
theorem show_read {l:List UInt8}(h:errR l=0):showL (readN l)=l:=by
 obtain⟨h1,h2,h3,h4⟩:=errR_parts h;rw[readN,if_pos h]
 by_cases h0:l.head? = some 48
 ·have hl:=h3 h0
  cases l with
  | nil=>exact absurd rfl h1
  | cons b l =>
   have:l = []:=List.eq_nil_of_length_eq_zero (by simpa using hl);subst this
   have:b=48:=by simpa using h0
   subst this;rfl
 ·have hd:∀ d∈l.map dv,d<10:=by
   intro d hd;obtain⟨b,hb,rfl⟩:=List.mem_map.1 hd;exact dv_lt (List.all_eq_true.1 h2 b hb)
  have hh:(l.map dv).head? ≠ some 0:=by
   rw[List.head?_map]
   cases l with
   | nil=>exact absurd rfl h1
   | cons b l =>
    intro e;have hb:okd b=true:=List.all_eq_true.1 h2 b (by simp)
    have e':dv b=0:=by simpa using e
    have:b=48:=by rw[←db_dv hb,e'];rfl
    subst this;exact h0 rfl
  have h5:=dgs_dval _ hd hh
  have hn:dval (l.map dv)≠0:=by
   intro e;rw[e,dgs_zero]at h5;exact h1 (by simpa using h5.symm)
  rw[showL_pos hn,h5,map_db_dv h2]
theorem dgs_len (n k:Nat):(dgs n).length≤k↔n<10^k:=by
 induction k generalizing n with
 | zero =>
  constructor
  ·intro h;have:dgs n = []:=List.eq_nil_of_length_eq_zero (by omega)
   by_cases h0:n=0
   ·subst h0;simp
   ·exact absurd this (dgs_ne h0)
  ·intro h
   have:n=0:=by simpa using h
   subst this;rw[dgs_zero];simp
 | succ k ih =>
  by_cases h0:n=0
  ·subst h0;rw[dgs_zero];simp;exact Nat.pow_pos (by omega)
  ·rw[dgs_pos h0,List.length_append,List.length_singleton,Nat.add_le_add_iff_right,ih,Nat.div_lt_iff_lt_mul (by omega),Nat.pow_succ]
theorem showL_len {n k:Nat}(hk:1≤k):(showL n).length≤k↔n<10^k:=by
 by_cases h0:n=0
 ·subst h0;rw[showL_zero];simp;exact⟨fun _=>Nat.pow_pos (by omega),fun _=>hk⟩
 ·rw[showL_pos h0,List.length_map,dgs_len]
end Go.Proofs.YtfofjalebhajhaaGreatDoor
namespace Go.Proofs.YtfofjalebhajhaaGreatDoor
theorem dig_len_le' {n k:Nat}(h:n<Bs^k):(dig n).length≤k:=by
 induction k generalizing n with
 | zero =>
  have:n=0:=by simpa using h
  subst this;rw[dig_zero];exact Nat.le_refl _
 | succ k ih =>
  by_cases h0:n=0
  ·subst h0;rw[dig_zero];exact Nat.zero_le _
  ·rw[dig_pos h0,List.length_cons];have:=ih (n:=n / Bs) (by rw[Nat.div_lt_iff_lt_mul Bs_pos,←Nat.pow_succ];exact h);omega
theorem el_val {A:List Nat}(h:∀ x∈A,x<Bs) (k:Nat):el A k=val A / Bs^k % Bs:=by
 induction A generalizing k with
 | nil=>simp [el,val]
 | cons x A ih =>
  have hx:=h x (List.mem_cons_self ..)
  have hA:∀ y∈A,y<Bs:=fun y hy=>h y (List.mem_cons_of_mem _ hy)
  cases k with
  | zero=>simp [el,val,Nat.mod_eq_of_lt hx]
  | succ k =>
   have e:el (x :: A) (k+1)=el A k:=by simp [el]
   rw[e,ih hA,val,Nat.pow_succ,Nat.mul_comm (Bs^k) Bs,←Nat.div_div_eq_div_mul,Nat.add_mul_div_left _ _ Bs_pos,Nat.div_eq_of_lt hx,Nat.zero_add]
theorem bs_split {b:Nat}(hb:b≤64):Bs=2^b*2^(64 - b):=by
 rw[←Nat.pow_add,Bs_eq];congr 1;omega
theorem shift_limb {N b:Nat}(hb:b≤64):N / 2^b % Bs=N % Bs / 2^b+N / Bs % Bs*2^(64 - b) % Bs:=by
 obtain⟨x,hx⟩:∃ x,x=N % Bs:=⟨_,rfl⟩
 obtain⟨M,hM⟩:∃ M,M=N / Bs:=⟨_,rfl⟩
 have hxB:x<Bs:=by rw[hx];exact Nat.mod_lt _ Bs_pos
 have hN:N=x+Bs*M:=by rw[hx,hM];exact (Nat.mod_add_div N Bs).symm
 have e1:M % Bs*2^(64 - b) % Bs=2^(64 - b)*(M % 2^b):=by
  rw[Nat.mod_mul_mod,Nat.mul_comm M,bs_split hb,Nat.mul_comm (2^b),Nat.mul_mod_mul_left]
 have p1:=Nat.two_pow_pos b;have p2:=Nat.two_pow_pos (64 - b)
 have e2:N / 2^b=x / 2^b+2^(64 - b)*M:=by
  rw[hN,bs_split hb,Nat.mul_assoc,Nat.add_mul_div_left _ _ p1]
 have h1:x / 2^b<2^(64 - b):=by
  rw[Nat.div_lt_iff_lt_mul p1,Nat.mul_comm,←bs_split hb];exact hxB
 rw[←hx,←hM,e1,e2,Nat.add_mod,Nat.mul_comm _ M]
 have h2:M*2^(64 - b) % Bs=2^(64 - b)*(M % 2^b):=by
  rw[Nat.mul_comm M,bs_split hb,Nat.mul_comm (2^b),Nat.mul_mod_mul_left]
 have h3:M % 2^b<2^b:=Nat.mod_lt _ p1;have h4:2^(64 - b)*(M % 2^b+1)≤2^(64 - b)*2^b:=Nat.mul_le_mul_left _ h3;rw[Nat.mul_comm (2^(64 - b)) (2^b),←bs_split hb,Nat.mul_succ]at h4;have h5:x / 2^b % Bs=x / 2^b:=Nat.mod_eq_of_lt (by omega);rw[h2,h5,Nat.mod_eq_of_lt (by omega)]
noncomputable def fromV (x y b:Nat):Nat:=x / 2^b+y*2^(64 - b) % Bs
theorem fromV_zero {x y:Nat}(_hx:x<Bs):fromV x y 0=x:=by
 rw[fromV,Nat.sub_zero,Nat.pow_zero,Nat.div_one,←Bs_eq,Nat.mul_mod_left,Nat.add_zero]
theorem val_pad (m:Nat) (A:List Nat):val (List.replicate m 0 ++ A)=Bs^m*val A:=by
 rw[val_append,val_zeros,List.length_replicate];omega
theorem el_pad (m:Nat) (A:List Nat) (k:Nat):el (List.replicate m 0 ++ A) (k+m)=el A k:=by
 rw[el,List.getElem?_append_right (by simp),List.length_replicate,Nat.add_sub_cancel];rfl
theorem el_pad_lt {m k:Nat}(A:List Nat) (h:k<m):el (List.replicate m 0 ++ A) k=0:=by
 rw[el,List.getElem?_append_left (by simpa using h)];simp [h]
theorem fromV_shl {A:List Nat}(hA:∀ x∈A,x<Bs){n m b i:Nat}(hb:b≤64) (hn:n+b=64*m) :
  fromV (el (List.replicate m 0 ++ A) i) (el (List.replicate m 0 ++ A) (i+1)) b=val A*2^n / Bs^i % Bs:=by
 have hA':∀ x∈List.replicate m 0 ++ A,x<Bs:=by
  intro x hx
  rcases List.mem_append.1 hx with hx | hx
  ·rw[List.eq_of_mem_replicate hx];exact Bs_pos
  ·exact hA x hx
 have e1:val A*2^n=val (List.replicate m 0 ++ A) / 2^b:=by
  rw[val_pad,Bs_eq,←Nat.pow_mul,←hn,Nat.pow_add,Nat.mul_comm (2^n) (2^b),Nat.mul_assoc,Nat.mul_div_right _ (Nat.two_pow_pos b),Nat.mul_comm]
 rw[e1,Nat.div_div_eq_div_mul,Nat.mul_comm (2^b),←Nat.div_div_eq_div_mul,shift_limb hb,fromV,el_val hA',el_val hA',Nat.pow_succ,←Nat.div_div_eq_div_mul]
theorem fromV_shr {A:List Nat}(hA:∀ x∈A,x<Bs){n m b i:Nat}(hb:b≤64) (hn:n=64*m+b) :
  fromV (el A (i+m)) (el A (i+m+1)) b=val A / 2^n / Bs^i % Bs:=by
 have e1:2^n=Bs^m*2^b:=by rw[hn,Nat.pow_add,Bs_eq,←Nat.pow_mul]
 have e2:Bs^m*2^b*Bs^i=Bs^(i+m)*2^b:=by rw[Nat.pow_add];ac_rfl
 rw[Nat.div_div_eq_div_mul,e1,e2,←Nat.div_div_eq_div_mul,shift_limb hb,fromV,el_val hA,el_val hA,Nat.pow_succ,←Nat.div_div_eq_div_mul]
theorem shl_fits {A:List Nat}(hA:∀ x∈A,x<Bs) (n:Nat):val A*2^n<Bs^(A.length+n / 64+1):=by
 have h1:2^n≤Bs^(n / 64+1):=by
  rw[Bs_eq,←Nat.pow_mul];exact Nat.pow_le_pow_right (by omega) (by omega)
 rw[Nat.add_assoc,Nat.pow_add];have h2:=val_lt hA;have h3:0<Bs^(n / 64+1):=Nat.pow_pos Bs_pos;exact Nat.lt_of_le_of_lt (Nat.mul_le_mul_left _ h1) (Nat.mul_lt_mul_of_pos_right h2 h3)
theorem limbsTo_set (N k m:Nat):(limbsTo N k ++ List.replicate (m+1) 0).set k (N / Bs^k % Bs)=limbsTo N (k+1) ++ List.replicate m 0:=by
 have h:=set_outs (limbsTo N k) (N / Bs^k % Bs) m;rw[limbsTo_length]at h;rw[h,limbsTo]
structure TakeInv (D:List Nat) (i q:Nat) (O0:List Nat) (k over bor:Nat) (O:List Nat):Prop where
 len:O.length=O0.length
 lt:∀ x∈O,x<Bs
 over_lt:over<Bs
 bor_le:bor≤1
 same:∀ j,i+k≤j→el O j=el O0 j
 val_eq:val O+Bs^i*(q*valTo D k)=val O0+Bs^(i+k)*(bor+over)
theorem TakeInv.start {D:List Nat}{i q:Nat}{O0:List Nat}(h:∀ x∈O0,x<Bs):TakeInv D i q O0 0 0 0 O0 :=
 ⟨rfl,h,Bs_pos,by omega,fun _ _=>rfl,by simp [valTo]⟩
noncomputable def tkLow (x q over:Nat):Nat:=addLo (mulLo x q) over 0
noncomputable def tkOver (x q over:Nat):Nat:=mulHi x q+addHi (mulLo x q) over 0
theorem tk_eq (x q over:Nat):tkLow x q over+Bs*tkOver x q over=x*q+over:=by
 unfold tkLow tkOver;have h1:mulLo x q+Bs*mulHi x q=x*q:=Nat.mod_add_div _ _;have h2:addLo (mulLo x q) over 0+Bs*addHi (mulLo x q) over 0=mulLo x q+over+0:=Nat.mod_add_div _ _;rw[Nat.mul_add];omega
theorem tkLow_lt (x q over:Nat):tkLow x q over<Bs:=addLo_lt ..
theorem tkOver_lt {x q over:Nat}(hx:x<Bs) (hq:q<Bs) (ho:over<Bs):tkOver x q over<Bs:=by
 have h:=tk_eq x q over;have h1:x*q≤(Bs - 1)*(Bs - 1):=Nat.mul_le_mul (by omega) (by omega)
 obtain⟨b,hb⟩:∃ b,Bs=b+1:=⟨Bs - 1,by have:=Bs_pos;omega⟩
 rcases Nat.lt_or_ge (tkOver x q over) Bs with g | g
 ·exact g
 ·have h2:=Nat.mul_le_mul_left Bs g;rw[hb]at h1 h2 h ho;simp only[show b+1 - 1=b by omega]at h1
  have e:(b+1)*(b+1)=b*b+b+b+1:=by rw[Nat.mul_succ,Nat.succ_mul];omega
  omega
theorem sub_eq {x y c:Nat}(hx:x<Bs) (hy:y<Bs) (hc:c≤1):subLo x y c+y+c=x+Bs*subHi x y c:=by
 unfold subLo subHi
 split
 ·rw[Nat.mod_eq_of_lt (by omega)];omega
 ·rw[show x+Bs - y - c=(x - y - c)+Bs by omega,Nat.add_mod_right,Nat.mod_eq_of_lt (by omega)];omega
theorem subHi_le (x y c:Nat):subHi x y c≤1:=by unfold subHi;split <;> omega
theorem TakeInv.next {D:List Nat}{i q:Nat}{O0 O:List Nat}{k over bor:Nat}(h:TakeInv D i q O0 k over bor O) (hD:∀ x∈D,x<Bs) (hq:q<Bs) (hi:i+k<O0.length) :
  TakeInv D i q O0 (k+1) (tkOver (el D k) q over) (subHi (el O (i+k)) (tkLow (el D k) q over) bor) (O.set (i+k) (subLo (el O (i+k)) (tkLow (el D k) q over) bor)):=by
 have hlen:=h.len;refine⟨by rw[List.length_set];exact h.len,set_lt h.lt (subLo_lt ..),tkOver_lt (el_lt hD k) hq h.over_lt,subHi_le ..,fun j hj=>?_,?_⟩
 ·rw[el_set_other (by omega)];exact h.same j (by omega)
 ·have h1:=val_set (O:=O) (j:=i+k) (by omega) (subLo (el O (i+k)) (tkLow (el D k) q over) bor);have h2:=h.val_eq;have h3:=tk_eq (el D k) q over;have h4:=sub_eq (el_lt h.lt (i+k)) (tkLow_lt (el D k) q over) h.bor_le
  have e1:Bs^i*(q*valTo D (k+1))=Bs^i*(q*valTo D k)+Bs^(i+k)*(el D k*q):=by
   rw[valTo,Nat.mul_add,Nat.mul_add,Nat.pow_add]
   congr 1
   ac_rfl
  have e2:Bs^(i+(k+1))=Bs^(i+k)*Bs:=by rw[←Nat.add_assoc,Nat.pow_succ]
  rw[e1,e2,Nat.mul_assoc]
  have h5:Bs^(i+k)*(tkLow (el D k) q over+Bs*tkOver (el D k) q over)=Bs^(i+k)*(el D k*q+over):=by rw[h3]
  have h6:Bs^(i+k)*(subLo (el O (i+k)) (tkLow (el D k) q over) bor+tkLow (el D k) q over+bor)=Bs^(i+k)*(el O (i+k)+Bs*subHi (el O (i+k)) (tkLow (el D k) q over) bor):=by rw[h4]
  simp only[Nat.mul_add]at h2 h5 h6 ⊢;omega
theorem TakeInv.fin {D:List Nat}{i q:Nat}{O0 O:List Nat}{over bor:Nat}(h:TakeInv D i q O0 D.length over bor O) (hi:i+D.length<O0.length) :
  val (O.set (i+D.length) (subLo (el O (i+D.length)) over bor))+Bs^i*(q*val D)=val O0+Bs^(i+D.length+1)*subHi (el O (i+D.length)) over bor:=by
 have hlen:=h.len;have h1:=val_set (O:=O) (j:=i+D.length) (by omega) (subLo (el O (i+D.length)) over bor);have h2:=h.val_eq;rw[valTo_all (Nat.le_refl _)]at h2;have h4:=sub_eq (el_lt h.lt (i+D.length)) h.over_lt h.bor_le
 have h6:Bs^(i+D.length)*(subLo (el O (i+D.length)) over bor+over+bor)=Bs^(i+D.length)*(el O (i+D.length)+Bs*subHi (el O (i+D.length)) over bor):=by rw[h4]
 rw[Nat.pow_succ,Nat.mul_assoc];simp only[Nat.mul_add]at h2 h6 ⊢;omega
structure BackInv (D:List Nat) (i:Nat) (O0:List Nat) (k car:Nat) (O:List Nat):Prop where
 len:O.length=O0.length
 lt:∀ x∈O,x<Bs
 car_le:car≤1
 same:∀ j,i+k≤j→el O j=el O0 j
 val_eq:val O+Bs^(i+k)*car=val O0+Bs^i*valTo D k
theorem BackInv.start {D:List Nat}{i:Nat}{O0:List Nat}(h:∀ x∈O0,x<Bs):BackInv D i O0 0 0 O0 :=
 ⟨rfl,h,by omega,fun _ _=>rfl,by simp [valTo]⟩
theorem add_eq (x y c:Nat):addLo x y c+Bs*addHi x y c=x+y+c:=Nat.mod_add_div _ _
theorem BackInv.next {D:List Nat}{i:Nat}{O0 O:List Nat}{k car:Nat}(h:BackInv D i O0 k car O) (hD:∀ x∈D,x<Bs) (hi:i+k<O0.length) :
  BackInv D i O0 (k+1) (addHi (el O (i+k)) (el D k) car) (O.set (i+k) (addLo (el O (i+k)) (el D k) car)):=by
 have hlen:=h.len;refine⟨by rw[List.length_set];exact h.len,set_lt h.lt (addLo_lt ..),addHi_le (el_lt h.lt _) (el_lt hD _) h.car_le,fun j hj=>?_,?_⟩
 ·rw[el_set_other (by omega)];exact h.same j (by omega)
 ·have h1:=val_set (O:=O) (j:=i+k) (by omega) (addLo (el O (i+k)) (el D k) car);have h2:=h.val_eq;have h4:=add_eq (el O (i+k)) (el D k) car
  have e1:Bs^i*valTo D (k+1)=Bs^i*valTo D k+Bs^(i+k)*el D k:=by
   rw[valTo,Nat.mul_add,Nat.pow_add,Nat.mul_assoc]
  have e2:Bs^(i+(k+1))=Bs^(i+k)*Bs:=by rw[←Nat.add_assoc,Nat.pow_succ]
  rw[e1,e2,Nat.mul_assoc]
  have h6:Bs^(i+k)*(addLo (el O (i+k)) (el D k) car+Bs*addHi (el O (i+k)) (el D k) car)=Bs^(i+k)*(el O (i+k)+el D k+car):=by rw[h4]
  simp only[Nat.mul_add]at h6 ⊢;omega
theorem BackInv.fin {D:List Nat}{i:Nat}{O0 O:List Nat}{car:Nat}(h:BackInv D i O0 D.length car O) (hi:i+D.length<O0.length) :
  val (O.set (i+D.length) (addLo (el O (i+D.length)) 0 car))+Bs^(i+D.length+1)*addHi (el O (i+D.length)) 0 car=val O0+Bs^i*val D:=by
 have hlen:=h.len;have h1:=val_set (O:=O) (j:=i+D.length) (by omega) (addLo (el O (i+D.length)) 0 car);have h2:=h.val_eq;rw[valTo_all (Nat.le_refl _)]at h2;have h4:=add_eq (el O (i+D.length)) 0 car
 have h6:Bs^(i+D.length)*(addLo (el O (i+D.length)) 0 car+Bs*addHi (el O (i+D.length)) 0 car)=Bs^(i+D.length)*(el O (i+D.length)+0+car):=by rw[h4]
 rw[Nat.pow_succ,Nat.mul_assoc];simp only[Nat.mul_add]at h6 ⊢;omega
theorem val_top {O:List Nat}(hO:∀ x∈O,x<Bs){k:Nat}(h:∀ j,k≤j→el O j=0):val O<Bs^k:=by
 have key:∀ m,valTo O (k+m)=valTo O k:=by
  intro m
  induction m with
  | zero=>rfl
  | succ m ih=>rw[←Nat.add_assoc,valTo,ih,h _ (by omega)];simp
 rw[←valTo_all (A:=O) (k:=k+O.length) (by omega),key];exact valTo_lt hO k
theorem top_zero {O:List Nat}(hO:∀ x∈O,x<Bs){k:Nat}(h:val O<Bs^k) (j:Nat) (hj:k≤j):el O j=0:=by
 rw[el_val hO,Nat.div_eq_of_lt (Nat.lt_of_lt_of_le h (Nat.pow_le_pow_right Bs_pos hj))];exact Nat.zero_mod _
noncomputable def guessN (hi lo d:Nat):Nat:=if d≤hi then Bs - 1 else (hi*Bs+lo) / d
theorem guess_lt {hi lo d:Nat}(hlo:lo<Bs):guessN hi lo d<Bs:=by
 unfold guessN
 split
 ·have:=Bs_pos;omega
 ·rename_i h
  rw[Nat.div_lt_iff_lt_mul (by omega)];have:(hi+1)*Bs≤d*Bs:=Nat.mul_le_mul_right _ (by omega);rw[Nat.succ_mul]at this;rw[Nat.mul_comm Bs];omega
theorem guess_ge {R D d hi lo i n:Nat}(hD:d*Bs^n≤D) (hd:0<d) (hR:R<D*Bs^(i+1)) (hR2:R<(hi*Bs+lo+1)*Bs^(i+n)) :
  R / (D*Bs^i)≤guessN hi lo d:=by
 have p:=Nat.pow_pos (n:=i) Bs_pos;have pn:=Nat.pow_pos (n:=n) Bs_pos;have hD0:0<D:=Nat.lt_of_lt_of_le (Nat.mul_pos hd pn) hD;unfold guessN
 split
 ·have h1:R / (D*Bs^i)<Bs:=by
   rw[Nat.div_lt_iff_lt_mul (Nat.mul_pos hD0 p)];rw[Nat.pow_succ]at hR;rw[Nat.mul_comm Bs,Nat.mul_assoc];exact hR
  omega
 ·rw[Nat.le_div_iff_mul_le hd];have h1:R / (D*Bs^i)*(D*Bs^i)≤R:=Nat.div_mul_le_self _ _
  generalize R / (D*Bs^i)=t at *
  have h2:t*(d*Bs^n*Bs^i)≤t*(D*Bs^i):=Nat.mul_le_mul_left _ (Nat.mul_le_mul_right _ hD)
  have h3:t*(d*Bs^n*Bs^i)=t*d*Bs^(i+n):=by rw[Nat.pow_add];ac_rfl
  rw[h3]at h2;have h4:=Nat.lt_of_le_of_lt (Nat.le_trans h2 h1) hR2;have h5:=Nat.lt_of_mul_lt_mul_right h4;omega
structure DivInv (V D:Nat) (n i:Nat) (Q O:List Nat):Prop where
 ltO:∀ x∈O,x<Bs
 ltQ:∀ x∈Q,x<Bs
 zero:∀ j,j<i→el Q j=0
 val_eq:val Q*D+val O=V
 less:val O<D*Bs^i
theorem val_set_zero {Q:List Nat}{i x:Nat}(h:i<Q.length) (h0:el Q i=0):val (Q.set i x)=val Q+Bs^i*x:=by
 have:=val_set h x;rw[h0]at this;omega
theorem DivInv.start {V D n k:Nat}{O:List Nat}(hO:∀ x∈O,x<Bs) (hv:val O=V) (hl:V<D*Bs^k):DivInv V D n k (List.replicate k 0) O :=
 ⟨hO,(fun x hx=>by rw[List.eq_of_mem_replicate hx];exact Bs_pos),(fun j hj=>by simp [el,hj]),by rw[val_zeros,hv];simp,by rw[hv];exact hl⟩
theorem DivInv.step {V D n j:Nat}{Q O O':List Nat}{q:Nat}(h:DivInv V D n (j+1) Q O) (hj:j<Q.length) (hq:q<Bs) (hO:∀ x∈O',x<Bs) (hv:val O'+Bs^j*(q*D)=val O) (hl:val O'<D*Bs^j) :
  DivInv V D n j (Q.set j q) O':=by
 refine⟨hO,set_lt h.ltQ hq,fun i hi=>?_,?_,hl⟩
 ·rw[el_set_other (by omega)];exact h.zero i (by omega)
 ·rw[val_set_zero hj (h.zero j (by omega)),Nat.add_mul];have:=h.val_eq;have e:Bs^j*q*D=Bs^j*(q*D):=Nat.mul_assoc _ _ _;omega
theorem take_done {R D j q o:Nat}(h:o+Bs^j*(q*D)=R) (hD:0<D) (hq:R / (D*Bs^j)≤q):o<D*Bs^j:=by
 have p:0<D*Bs^j:=Nat.mul_pos hD (Nat.pow_pos Bs_pos);have h1:=Nat.lt_mul_div_succ R p;have h2:D*Bs^j*(R / (D*Bs^j)+1)≤D*Bs^j*(q+1):=Nat.mul_le_mul_left _ (by omega)
 have e:D*Bs^j*q=Bs^j*(q*D):=by ac_rfl
 rw[Nat.mul_succ,Nat.mul_succ,e]at h2;rw[Nat.mul_succ]at h1;omega
structure TooMuch (R D j T qc o:Nat):Prop where
 val_eq:o+Bs^j*((qc+1)*D)=R+Bs^T
 less:o<Bs^T
theorem TooMuch.of_take {R D j T q o:Nat}(h:o+Bs^j*(q*D)=R+Bs^T*1) (hl:o<Bs^T):1≤q∧TooMuch R D j T (q - 1) o:=by
 have h1:1≤q:=by
  rcases Nat.eq_zero_or_pos q with g | g
  ·subst g;simp at h;omega
  ·exact g
 exact⟨h1,⟨by rw[show q - 1+1=q by omega,h,Nat.mul_one],hl⟩⟩
theorem TooMuch.more {R D j T qc o o':Nat}(h:TooMuch R D j T qc o) (hb:o'+Bs^T*0=o+Bs^j*D) (hl:o'<Bs^T):1≤qc∧TooMuch R D j T (qc - 1) o':=by
 have h1:=h.val_eq;rw[Nat.succ_mul,Nat.mul_add]at h1;refine TooMuch.of_take ?_ hl;rw[Nat.mul_one];omega
theorem TooMuch.done {R D j T qc o o':Nat}(h:TooMuch R D j T qc o) (hb:o'+Bs^T*1=o+Bs^j*D):o'+Bs^j*(qc*D)=R∧o'<D*Bs^j:=by
 have h1:=h.val_eq;have h2:=h.less;rw[Nat.succ_mul,Nat.mul_add]at h1;rw[Nat.mul_comm D];omega
theorem two_limbs {O:List Nat}(hO:∀ x∈O,x<Bs){k:Nat}(h:val O<Bs^(k+2)):val O<(el O (k+1)*Bs+el O k+1)*Bs^k:=by
 have p:=Nat.pow_pos (n:=k) Bs_pos
 obtain⟨M,hM⟩:∃ M,M=val O / Bs^k:=⟨_,rfl⟩
 have e1:el O k=M % Bs:=by rw[el_val hO,hM]
 have hMB:M<Bs*Bs:=by
  rw[hM,Nat.div_lt_iff_lt_mul p];rw[show Bs*Bs*Bs^k=Bs^(k+2) by rw[Nat.pow_succ,Nat.pow_succ];ac_rfl];exact h
 have e2:el O (k+1)=M / Bs:=by
  rw[el_val hO,Nat.pow_succ,←Nat.div_div_eq_div_mul,←hM,Nat.mod_eq_of_lt];rw[Nat.div_lt_iff_lt_mul Bs_pos];exact hMB
 have e3:el O (k+1)*Bs+el O k=M:=by rw[e1,e2,Nat.mul_comm];exact Nat.div_add_mod M Bs
 rw[e3,hM];have:=Nat.lt_mul_div_succ (val O) p;rw[Nat.mul_comm];exact this
theorem dig_len_eq {N k:Nat}(h1:Bs^k≤N) (h2:N<Bs^(k+1)):(dig N).length=k+1:=by
 have a:=dig_len_le' h2;have b:=val_lt (dig_lt N);rw[val_dig]at b;have c:=(Nat.pow_lt_pow_iff_right (a:=Bs) two_le_Bs).1 (Nat.lt_of_le_of_lt h1 b);omega
theorem dig_len_bounds {N n:Nat}(h:(dig N).length=n+1):Bs^n≤N∧N<Bs^(n+1):=by
 refine⟨?_,by rw[←h];have:=val_lt (dig_lt N);rwa [val_dig]at this⟩
 rcases Nat.lt_or_ge N (Bs^n) with g | g
 ·have:=dig_len_le' g;omega
 ·exact g
theorem norm_div {b p s:Nat}(h:(dig b).length=p+1) (hs:s=64 - bl (el (dig b) p)):Bs^p≤b*2^s∧b*2^s<Bs^(p+1)∧s≤63:=by
 obtain⟨h1,h2⟩:=dig_len_bounds h;have pp:=Nat.pow_pos (n:=p) Bs_pos
 obtain⟨t,ht⟩:∃ t,t=el (dig b) p:=⟨_,rfl⟩
 have e1:t=b / Bs^p:=by
  rw[ht,el_val (dig_lt b),val_dig,Nat.mod_eq_of_lt];rw[Nat.div_lt_iff_lt_mul pp,Nat.mul_comm,←Nat.pow_succ];exact h2
 have t1:1≤t:=by rw[e1];exact Nat.div_pos h1 pp
 have t2:t<Bs:=by rw[ht];exact el_lt (dig_lt b) p
 have b1:bl t≤64:=bl_le_64 t2
 have b2:bl t≠0:=by have:=bl_eq_zero t;omega
 rw[←ht]at hs;have h3:t+1≤2^bl t:=lt_bl t
 have h4:b<Bs^p*(t+1):=by rw[e1];exact Nat.lt_mul_div_succ b pp
 have h5:Bs^p*(t+1)≤Bs^p*2^bl t:=Nat.mul_le_mul_left _ h3;have h6:b*2^s<Bs^p*2^bl t*2^s:=Nat.mul_lt_mul_of_pos_right (Nat.lt_of_lt_of_le h4 h5) (Nat.two_pow_pos s)
 have h7:Bs^p*2^bl t*2^s=Bs^(p+1):=by
  rw[Nat.mul_assoc,←Nat.pow_add,show bl t+s=64 by omega,←Bs_eq,Nat.pow_succ]
 refine⟨Nat.le_trans h1 (Nat.le_mul_of_pos_right _ (Nat.two_pow_pos s)),by rw[←h7];exact h6,by omega⟩
theorem div_fin {a b s q R:Nat}(h:q*(b*2^s)+R=a*2^s) (hR:R<b*2^s):q=a / b∧R / 2^s=a % b:=by
 have p:=Nat.two_pow_pos s
 have hb:0<b:=by rcases Nat.eq_zero_or_pos b with g | g;(subst g;simp at hR);exact g
 have e1:q*(b*2^s)=q*b*2^s:=by rw[Nat.mul_assoc]
 rw[e1]at h
 have h1:R=(a - q*b)*2^s:=by rw[Nat.sub_mul];omega
 have h2:a - q*b<b:=by rw[h1]at hR;exact Nat.lt_of_mul_lt_mul_right hR
 have h3:q*b≤a:=by
  have:q*b*2^s≤a*2^s:=by omega
  exact Nat.le_of_mul_le_mul_right this p
 have h4:a=b*q+(a - q*b):=by rw[Nat.mul_comm b];omega
 refine⟨?_,?_⟩
 ·rw[h4,Nat.mul_add_div hb,Nat.div_eq_of_lt h2];rfl
 ·rw[h1,Nat.mul_div_cancel _ p]
  conv=>rhs;rw[h4]
  rw[Nat.mul_add_mod,Nat.mod_eq_of_lt h2]
theorem div_start {a b s la p:Nat}(ha:a<Bs^la) (hb:Bs^p≤b) (hpl:p≤la):a*2^s<b*2^s*Bs^(la - p):=by
 have h1:Bs^la≤b*Bs^(la - p):=by
  have e:Bs^la=Bs^p*Bs^(la - p):=by rw[←Nat.pow_add];congr 1;omega
  rw[e];exact Nat.mul_le_mul_right _ hb
 have h2:b*2^s*Bs^(la - p)=b*Bs^(la - p)*2^s:=by ac_rfl
 rw[h2];exact Nat.mul_lt_mul_of_pos_right (Nat.lt_of_lt_of_le ha h1) (Nat.two_pow_pos s)
end Go.Proofs.YtfofjalebhajhaaGreatDoor
namespace Go.Proofs.YtfofjalebhajhaaGreatDoor
open Go Go.RowKit Go.Shelf
theorem or_low {x y i:Nat}(hi:i≤64) (hx:x % 2^i=0) (hx1:x<Bs) (hy:y<2^i):bits .or .u64 (y:Int) (x:Int)=((y+x:Nat):Int):=by
 have h1:(2:Nat)^i≤2^64:=Nat.pow_le_pow_right (by decide) hi;have:=bits_join_low .u64 64 (by decide) wraps_u64 i (y:Int) (x:Int) (by omega) (by exact_mod_cast hy) (by omega) (by omega) (by exact_mod_cast hx) (by rw[Bs_def]at hx1;omega)
 simpa using this
theorem shl_wrap' (x s:Nat):IntKind.u64.wrap ((x:Int)*2^s)=((x*2^s % Bs:Nat):Int):=by
 rw[IntKind.wrap_u64,Bs_def]
 simp
theorem from_or {x y b:Nat}(hx:x<Bs) (hb:b≤64):bits .or .u64 ((x:Int) / 2^b) (IntKind.u64.wrap ((y:Int)*2^(64 - b)))=((fromV x y b:Nat):Int):=by
 have p1:=Nat.two_pow_pos b
 have h1:x / 2^b<2^(64 - b):=by
  rw[Nat.div_lt_iff_lt_mul p1,Nat.mul_comm,←bs_split hb];exact hx
 have h2:y*2^(64 - b) % Bs % 2^(64 - b)=0:=by
  rw[Nat.mul_comm y,bs_split hb,Nat.mul_comm (2^b),Nat.mul_mod_mul_left,Nat.mul_mod_right]
 rw[shl_wrap',fromV]
 have e:((x:Int) / 2^b)=((x / 2^b:Nat):Int):=by simp
 rw[e];exact or_low (by omega) h2 (Nat.mod_lt _ Bs_pos) h1
set_option maxHeartbeats 1000000 in
set_option maxRecDepth 100000 in
theorem from_calls {w:World}{v:Value}{A:List Nat}(hA:Limbs w v A) (p at0:Int) (b:Nat) (hp:p=64*at0+b) (hb:b≤63) (h1:-4611686018427387904≤p) (h2:p≤4611686018427387904) :
  Calls Tryz.prog 149 #[v,.int .i64 p] w fun e w'=>e = .returned (.int .u64 (fromV (limbAt A at0) (limbAt A (at0+1)) b:Nat))∧w=w':=by
 obtain⟨x,hx⟩:∃ x,x=limbAt A at0:=⟨_,rfl⟩
 obtain⟨y,hy⟩:∃ y,y=limbAt A (at0+1):=⟨_,rfl⟩
 have hxB:x<Bs:=by rw[hx];exact limbAt_lt hA.2 _
 rw[←hx,←hy]
 have c1:Hid (Calls Tryz.prog 108 #[v,.int .i64 at0] w fun e w'=>e = .returned (.int .u64 (x:Nat))∧w=w'):=by have:=limb_calls hA at0;rwa [←hx]at this
 have c2:Hid (Calls Tryz.prog 108 #[v,.int .i64 (at0+1)] w fun e w'=>e = .returned (.int .u64 (y:Nat))∧w=w'):=by have:=limb_calls hA (at0+1);rwa [←hy]at this
 have H1:Hid (bits .or .u64 ((x:Int) / 2^b) (IntKind.u64.wrap ((y:Int)*2^(64 - b)))=((fromV x y b:Nat):Int)):=from_or hxB (by omega)
 have H0:Hid (b=0→fromV x y b=x):=fun e=>by rw[e];exact fromV_zero hxB
 have a1:-100000000000000000≤at0:=by omega
 have a2:at0≤100000000000000000:=by omega
 have hb':(b:Int)≤63:=by omega
 obtain⟨pa,pc,rfl,-,-,-⟩:=hA.open;clear hx hy
 rcases Int.lt_or_le p 0 with hn | hn
 ·by_cases hb0:b=0
  ·have e1:p.tdiv 64=at0:=by rw[show p=at0*64 by omega];exact Int.mul_tdiv_cancel _ (by omega)
   have e2:p.tmod 64=0:=by rw[show p=at0*64 by omega];exact Int.mul_tmod_left _ _
   have HF:=Hd (H0.out hb0);clear hp hb0 hb hb'
   go_enter Tryz.func149,Tryz.ntmps149
   go_wp2_with (go_at_call 108;refine (c1.out).mono ?_;rintro e w' ⟨rfl,rfl⟩)
   go_ret;exact⟨ret_eq (int_eq (by rw[HF.out])),rfl⟩
  ·have e1:p.tdiv 64=at0+1:=by
    rw[show p=(at0+1)*64+((b:Int) - 64) by omega,Int.add_comm,Int.tdiv_eq_ediv]
    split
    ·omega
    ·have:Int.sign 64=1:=rfl;omega
   have e2:p.tmod 64=(b:Int) - 64:=by
    have:=Int.mul_tdiv_add_tmod p 64;rw[e1]at this;omega
   have b1:(b:Int) - 64 ≤ -1:=by omega
   have b2:1≤(b:Int):=by omega
   have HP:=Hd hp;have HB:=Hd hb;clear hp hb0 hb
   go_enter Tryz.func149,Tryz.ntmps149
   go_wp2_with (go_at_call 108;first | ((with_reducible refine (c1.out).mono ?_);rintro e w' ⟨rfl,rfl⟩) | ((with_reducible refine (c2.out).mono ?_);rintro e w' ⟨rfl,rfl⟩))
   go_ret;exact⟨ret_eq (int_eq (by rw[H1.out])),rfl⟩
 ·have e1:p / 64=at0:=by omega
  have e2:p % 64=(b:Int):=by omega
  have e3:p.tdiv 64=at0:=by rw[Int.tdiv_eq_ediv_of_nonneg hn];exact e1
  have e4:p.tmod 64=(b:Int):=by rw[Int.tmod_eq_emod_of_nonneg hn];exact e2
  by_cases hb0:b=0
  ·have HF:=Hd (H0.out hb0);subst hb0;clear hp hb hb'
   go_enter Tryz.func149,Tryz.ntmps149
   go_wp2_with (go_at_call 108;refine (c1.out).mono ?_;rintro e w' ⟨rfl,rfl⟩)
   go_ret;exact⟨ret_eq (int_eq (by rw[HF.out])),rfl⟩
  ·have b2:1≤(b:Int):=by omega
   clear hp hb0 hb
   go_enter Tryz.func149,Tryz.ntmps149
   go_wp2_with (go_at_call 108;first | ((with_reducible refine (c1.out).mono ?_);rintro e w' ⟨rfl,rfl⟩) | ((with_reducible refine (c2.out).mono ?_);rintro e w' ⟨rfl,rfl⟩))
   go_ret;exact⟨ret_eq (int_eq (by rw[H1.out])),rfl⟩
def Shifted (A:List Nat) (place:Int) (V n:Nat):Prop:=∃ (at0:Int) (b:Nat),place=64*at0+b∧b≤63 ∧ ∀ i,i<n→fromV (limbAt A ((i:Int)+at0)) (limbAt A ((i:Int)+at0+1)) b=V / Bs^i % Bs
set_option maxHeartbeats 1000000 in
set_option maxRecDepth 100000 in
theorem shifted_calls {w:World}{v:Value}{A:List Nat}(hA:Limbs w v A) (n:Nat) (hn:n≤1048576) (place:Int) (hp1:-1048576≤place) (hp2:place≤1048576) (V:Nat) (hS:Shifted A place V n) :
  Calls Tryz.prog 138 #[v,.int .i64 (n:Int),.int .i64 place] w (RetNat w (V % Bs^n)):=by
 obtain⟨pa,pc,rfl,-,-,-⟩:=hA.open;obtain⟨at0,b,hpl,hb,hS⟩:=hS
 have hni:(n:Int)≤1048576:=by omega
 have HN:Hid (n≤Lmax):=by show _≤Lmax;rw[Lmax_def];omega
 have HS:=Hd hS;have HP:=Hd hpl;have HB:=Hd hb;clear hS hpl hn hb
 go_enter Tryz.func138,Tryz.ntmps138
 go_wp2_with (at_make;refine make_limbs rfl _ _ 32 Tryz.underlying32 rfl n _ rfl rfl rfl HN.out ?_;intro w1 hown1 hg1;have O1:=Hd hown1;clear hown1)
 have hI0:MulMem w w.heap.size n (limbsTo V 0 ++ List.replicate (n - 0) 0) w1:=⟨by simpa [limbsTo] using O1.out,(Ext.refl w).grown hg1 (by intro k hk;cases hk)⟩
 go_loopw [13] (fun v13 wr => ∃ i:Nat,v13 = .int .i64 (i:Int)∧i≤n∧MulMem w w.heap.size n (limbsTo V i ++ List.replicate (n - i) 0) wr) (fun v13 _=>n - (intOf v13).toNat)
 case atStart=>exact⟨0,rfl,Nat.zero_le _,hI0⟩
 case round =>
  obtain⟨i,rfl,hi,hI⟩:=hrel
  by_cases hin:i<n
  ·have hcO:=hI.cell hin (by rw[List.length_append,limbsTo_length,List.length_replicate];omega);have hfO:=hI.froz i;have HI:=Hd hI;have HF:=Hd (from_calls (hA.ext hI.ext) ((i:Int)*64+place) ((i:Int)+at0) b (by have:=HP.out;omega) HB.out (by omega) (by omega));have HV:=Hd (HS.out i hin);clear hI
   go_wp2_with (go_at_call 149;refine (HF.out).mono ?_;rintro e w' ⟨rfl,rfl⟩;rw[HV.out])
   refine⟨⟨i+1,by go_num,by omega,?_⟩,by simp [intOf];omega⟩;have:=HI.out.set (Nat.le_refl _) i (V / Bs^i % Bs)
   rwa [show n - i=(n - (i+1))+1 by omega,limbsTo_set]at this
  ·obtain rfl:i=n:=by omega
   have hT:Limbs wr (.slice (some ⟨w.heap.size,0,none⟩) i i) (limbsTo V i):=by
    have:=hI.limbs (by simp [limbsTo_length]) (by
     rw[Nat.sub_self,List.replicate_zero,List.append_nil];exact limbsTo_lt V i)
    rwa [Nat.sub_self,List.replicate_zero,List.append_nil]at this
   have hlen:Hid ((limbsTo V i).length≤Lmax):=by show _≤Lmax;rw[limbsTo_length];exact HN.out
   go_wp2_with (go_at_call 89;refine (trim_calls hT hlen.out).mono ?_;rintro e w' ⟨r,rfl,hr,hx'⟩)
   go_ret;rw[val_limbsTo]at hr;exact RetNat.of_ext ⟨r,rfl,hr,hx'⟩ hI.ext
theorem may_calls (w:World) (n:Int) (b:Bool) (hb:decide (0≤n∧n≤65536)=b) :
  Calls Tryz.prog 137 #[.int .i64 n] w fun e w'=>e = .returned (.bool b)∧w=w':=by
 have hn:n<0∨65536<n∨(0≤n∧n≤65536):=by omega
 have HB:=Hd hb;clear hb
 rcases hn with h | h | ⟨h,h'⟩
 ·have HE:Hid (b=false):=by show _=_;rw[←HB.out];simp;omega
  clear HB
  go_enter Tryz.func137,Tryz.ntmps137
  go_wp2_with fail;go_ret;exact⟨ret_eq (by rw[HE.out];rfl),rfl⟩
 ·have HE:Hid (b=false):=by show _=_;rw[←HB.out];simp;omega
  have h0:0≤n:=by omega
  clear HB
  go_enter Tryz.func137,Tryz.ntmps137
  go_wp2_with fail;go_ret;exact⟨ret_eq (by rw[HE.out];simp;omega),rfl⟩
 ·have HE:Hid (b=true):=by show _=_;rw[←HB.out];simp;omega
  clear HB
  go_enter Tryz.func137,Tryz.ntmps137
  go_wp2_with fail;go_ret;exact⟨ret_eq (by rw[HE.out];rfl),rfl⟩
def RetShift (w:World) (n:Int) (V:Nat) (e:Ending) (w':World):Prop :=
 ∃ v,e = .returned (.tuple #[v,.int .i64 (if 0≤n∧n≤65536 then 0 else 1)])∧OwnL w.heap.size w' v (dig (if 0≤n∧n≤65536 then V else 0))∧Ext w w'
theorem shl_shifted {A:List Nat}(hA:∀ x∈A,x<Bs) (n m:Nat):Shifted A (-(n:Int)) (val A*2^n) m:=by
 obtain⟨c,b,hb,hc⟩:∃ c b:Nat,b≤63∧n+b=64*c:=⟨(n+63) / 64,64*((n+63) / 64) - n,by omega,by omega⟩
 refine⟨-(c:Int),b,by omega,hb,fun i _=>?_⟩;rw[←fromV_shl hA (show b≤64 by omega) hc]
 have key:∀ k:Nat,limbAt A ((k:Int) + -(c:Int))=el (List.replicate c 0 ++ A) k:=by
  intro k
  by_cases h:k<c
  ·rw[limbAt_neg (by omega),el_pad_lt A h]
  ·obtain⟨j,rfl⟩:∃ j,k=j+c:=⟨k - c,by omega⟩
   rw[el_pad,←limbAt_nat A j];congr 1;omega
 rw[key,show (i:Int) + -(c:Int)+1=((i+1:Nat):Int) + -(c:Int) by omega,key]
theorem shr_shifted {A:List Nat}(hA:∀ x∈A,x<Bs) (n m:Nat):Shifted A (n:Int) (val A / 2^n) m:=by
 refine⟨((n / 64:Nat):Int),n % 64,by omega,by omega,fun i _=>?_⟩;rw[←fromV_shr hA (show n % 64≤64 by omega) (show n=64*(n / 64)+n % 64 by omega),←limbAt_nat A,←limbAt_nat A]
 congr 1
set_option maxHeartbeats 1000000 in
set_option maxRecDepth 100000 in
theorem shl_calls {w:World}{v:Value}{A:List Nat}(hA:Limbs w v A) (hl:A.length≤65536) (n:Int) :
  Calls Tryz.prog 112 #[v,.int .i64 n] w (RetShift w n (val A*2^n.toNat)):=by
 obtain⟨pa,pc,rfl,-,-,-⟩:=hA.open
 by_cases h:0≤n∧n≤65536
 ·obtain⟨m,rfl⟩:=Int.eq_ofNat_of_zero_le h.1;have h1:(m:Int)≤65536:=h.2
  have hli:(A.length:Int)≤65536:=by omega
  obtain⟨L,hL⟩:∃ L,L=A.length+m / 64+1:=⟨_,rfl⟩
  have HV:Hid (val A*2^m % Bs^L=val A*2^m):=by show _=_;rw[hL];exact Nat.mod_eq_of_lt (shl_fits hA.2 m)
  have HS:=Hd (shl_shifted hA.2 m L)
  have hc:(A.length:Int)+(m:Int) / 64+1=(L:Int):=by omega
  have HL:Hid (L≤1048576):=by show _≤_;omega
  clear hL
  have HB:Hid (decide (0≤(m:Int)∧(m:Int)≤65536)=true):=by show _=_;simpa using h1
  clear h hl
  go_enter Tryz.func112,Tryz.ntmps112
  go_wp2_with fail;refine (may_calls _ _ true HB.out).mono ?_;rintro e w' ⟨rfl,rfl⟩;go_wp2_with fail;refine (shifted_calls hA L HL.out (-(m:Int)) (by omega) (by omega) _ HS.out).mono ?_;rintro e w' ⟨r,rfl,hr,hx⟩;rw[HV.out]at hr;go_wp2_with fail;go_ret2;exact⟨r,by rw[if_pos ⟨by omega,h1⟩];rfl,by rw[if_pos ⟨by omega,h1⟩];exact hr,hx⟩
 ·have HB:Hid (decide (0≤n∧n≤65536)=false):=by show _=_;simpa using h
  have H:=Hd h;clear h
  go_enter Tryz.func112,Tryz.ntmps112
  go_wp2_with fail;refine (may_calls _ _ false HB.out).mono ?_;rintro e w' ⟨rfl,rfl⟩;go_wp2_with fail;go_ret2;exact⟨_,by rw[if_neg H.out];rfl,by rw[if_neg H.out,dig_zero];exact OwnL.nil _ _,Ext.refl _⟩
set_option maxHeartbeats 1000000 in
set_option maxRecDepth 100000 in
theorem shr_calls {w:World}{v:Value}{A:List Nat}(hA:Limbs w v A) (hl:A.length≤524288) (n:Int) :
  Calls Tryz.prog 116 #[v,.int .i64 n] w (RetShift w n (val A / 2^n.toNat)):=by
 obtain⟨pa,pc,rfl,-,-,-⟩:=hA.open
 by_cases h:0≤n∧n≤65536
 ·obtain⟨m,rfl⟩:=Int.eq_ofNat_of_zero_le h.1;have h1:(m:Int)≤65536:=h.2
  have hli:(A.length:Int)≤524288:=by omega
  have HV:Hid (val A / 2^m % Bs^A.length=val A / 2^m):=Nat.mod_eq_of_lt (Nat.lt_of_le_of_lt (Nat.div_le_self _ _) (val_lt hA.2));have HS:=Hd (shr_shifted hA.2 m A.length)
  have HB:Hid (decide (0≤(m:Int)∧(m:Int)≤65536)=true):=by show _=_;simpa using h1
  clear h hl
  go_enter Tryz.func116,Tryz.ntmps116
  go_wp2_with fail;refine (may_calls _ _ true HB.out).mono ?_;rintro e w' ⟨rfl,rfl⟩;go_wp2_with fail;refine (shifted_calls hA A.length (by omega) (m:Int) (by omega) (by omega) _ HS.out).mono ?_;rintro e w' ⟨r,rfl,hr,hx⟩;rw[HV.out]at hr;go_wp2_with fail;go_ret2;exact⟨r,by rw[if_pos ⟨by omega,h1⟩];rfl,by rw[if_pos ⟨by omega,h1⟩];exact hr,hx⟩
 ·have HB:Hid (decide (0≤n∧n≤65536)=false):=by show _=_;simpa using h
  have H:=Hd h;clear h
  go_enter Tryz.func116,Tryz.ntmps116
  go_wp2_with fail;refine (may_calls _ _ false HB.out).mono ?_;rintro e w' ⟨rfl,rfl⟩;go_wp2_with fail;go_ret2;exact⟨_,by rw[if_neg H.out];rfl,by rw[if_neg H.out,dig_zero];exact OwnL.nil _ _,Ext.refl _⟩
theorem shl_ok {w:World}{v:Value}{A:List Nat}(hA:Limbs w v A) (hl:A.length≤65536) (n:Nat) (hn:n≤65536) :
  Calls Tryz.prog 112 #[v,.int .i64 (n:Int)] w fun e w' => ∃ r,e = .returned (.tuple #[r,.int .i64 0])∧OwnL w.heap.size w' r (dig (val A*2^n))∧Ext w w' :=
 (shl_calls hA hl n).mono fun _ _ ⟨r,h1,h2,h3⟩=>by
  have h:0≤(n:Int)∧(n:Int)≤65536:=by omega
  rw[if_pos h]at h1 h2;exact⟨r,h1,h2,h3⟩
theorem shr_ok {w:World}{v:Value}{A:List Nat}(hA:Limbs w v A) (hl:A.length≤524288) (n:Nat) (hn:n≤65536) :
  Calls Tryz.prog 116 #[v,.int .i64 (n:Int)] w fun e w' => ∃ r,e = .returned (.tuple #[r,.int .i64 0])∧OwnL w.heap.size w' r (dig (val A / 2^n))∧Ext w w' :=
 (shr_calls hA hl n).mono fun _ _ ⟨r,h1,h2,h3⟩=>by
  have h:0≤(n:Int)∧(n:Int)≤65536:=by omega
  rw[if_pos h]at h1 h2;exact⟨r,h1,h2,h3⟩
end Go.Proofs.YtfofjalebhajhaaGreatDoor
namespace Go.Proofs.YtfofjalebhajhaaGreatDoor
open Go Go.RowKit
theorem run_append_zeros {w:World}(base:Nat) (t tn ty:TypeId) (kq kn:IntKind) (ht:Tryz.prog.underlying t=some (.slice 53)) (htn:Tryz.prog.underlying tn=some (.int kn))
  (v:Value) (n:Nat) (xs:List Value) (hown:w.ownsRow base 53 1 v n xs) (hn0:0<n) (m:Nat) (hlen:n+m≤Lmax) (hbase:base≤w.heap.size) :
  ∃ v' w',(Builtin.append_ #[t,tn] ty #[v,.int kq (m:Int)]).run Tryz.prog w = .ok v' w'∧w'.ownsRow base 53 1 v' (n+m) (xs ++ (List.replicate m 0).map lv)∧w.grownBy w' v.ownBlock:=by
 obtain⟨i,hi,hz,hsize,hby⟩:=info_parts info_u64;have hl:=lmax_le hlen
 rcases hown.2 with⟨_,h0⟩ | ⟨g,cap,cur,rfl,hbg,hg,hnc,hcm,hcs,htake⟩
 ·omega
 have hx:=hown.1
 by_cases hm:m=0
 ·subst hm
  have hw:IntKind.i64.wrap 0=0:=by rw[IntKind.wrap_i64];rfl
  refine⟨.slice (some ⟨g,0,none⟩) n cap,w,?_,by simpa using hown,World.grownBy.refl _ _⟩;simp [Builtin.append_,run_underlying ht,run_underlying htn,sizeOf,typeInfo,hi,asInt,asIntOf,hw,hnc,storeCells]
 rw[show (List.replicate m 0).map lv=List.replicate m (lv 0) from List.map_replicate]
 have hzc:∀ k,(Builtin.zeroCells (Value.int IntKind.u64 0).cells k).toList=List.replicate k (lv 0):=by
  intro k
  apply List.ext_getElem
  ·simp [Builtin.zeroCells,Value.cells]
  ·intro j h1 h2;simp [Builtin.zeroCells,Value.cells,lv,Nat.mod_one]
 have hxl:(xs ++ List.replicate m (lv 0)).length=(n+m)*1:=by simp;omega
 by_cases hroom:n+m≤cap
 ·have hfit:n+m≤cur.size:=by omega
  have hst:=run_storeCells_at Tryz.prog g n 53 (List.replicate m (lv 0)) 0 cur w hg (by simpa using hfit) (fun u hu=>by rw[List.eq_of_mem_replicate hu];rfl);simp only[Nat.add_zero]at hst
  obtain⟨R,hR⟩:∃ R,R=(cur.toList.take n ++ List.replicate m (lv 0) ++ cur.toList.drop (n+(List.replicate m (lv 0)).length)).toArray:=⟨_,rfl⟩
  rw[←hR]at hst;refine⟨.slice (some ⟨g,0,none⟩) (n+m) cap,w.setRow g R,?_,⟨hxl,.inr ⟨g,cap,_,rfl,hbg,setRow_heap w g cur R 53 (0,0) hg,hroom,hcm,?_,?_⟩⟩,⟨rfl,rfl,rfl,by simp,fun k _ hk=>setRow_other w g k _ (fun e=>hk (by simp [Value.ownBlock,e]))⟩⟩
  ·have hw:IntKind.i64.wrap (m:Int)=m:=by rw[IntKind.wrap_i64];omega
   have hneg:¬ ((m:Int)<0):=by omega
   have h48i:¬ (281474976710656<(m:Int)*(i.bytes:Int)):=by rw[hby];omega
   have hz':=hzc m;simp [Builtin.append_,run_underlying ht,run_underlying htn,sizeOf,typeInfo,zeroValue,hi,hz,asInt,asIntOf,hw,hneg,h48i,hroom,hsize,hm,hz',Addr.add_lit,hst]
  ·rw[hR];simp;omega
  ·rw[hR,←htake]
   have:(List.take (n*1) cur.toList ++ List.replicate m (lv 0)).length=(n+m)*1:=by rw[htake];exact hxl
   simp only[Nat.mul_one]at this ⊢;rw[←this];exact List.take_left
 ·have hge:=grownCap_ge w (n+m) cap 53;have hgm:grownCap w (n+m) cap 53 ≤ maxLen:=grownCap_le_maxLen w (n+m) cap 53 (by unfold maxLen;omega)
  have holds:∀ j u,xs[j]? = some u→w.drew.cell? ((⟨g,0,none⟩:Addr).add j)=some u:=fun j u hu=>hown.cells (g:=g) rfl j u hu
  have hr:=Lib.run_append_grow_zeros (P:=Tryz.prog) w t tn ty 53 i (.int .u64 0) kq kn ht htn hi hz (some ⟨g,0,none⟩) n cap xs
   (by rw[hsize];exact run_firstCells_some (P:=Tryz.prog) w.drew 1 n ⟨g,0,none⟩ n cap xs hx holds) m (by omega) (by omega) (by omega) (by omega) (by rw[hby];omega)
   (growslice_fits (by omega) (by rw[hby];omega))
  refine⟨_,_,hr,⟨hxl,.inr ⟨w.heap.size,_,_,rfl,hbase,heap_alloc_new w.drew _,hge,hgm,?_,?_⟩⟩,⟨rfl,rfl,rfl,by simp,fun k hk _=>Below.heap_alloc w.drew _ k hk⟩⟩
  ·simp only[Array.size_append,List.size_toArray,size_zeroCells,hx,show (Value.int IntKind.u64 0).cells.size=1 from rfl];omega
  ·simp only[Array.toList_append,hzc,List.append_assoc];rw[←List.append_assoc,←hxl];exact List.take_left
theorem append_zeros {w:World}{ops:Array Oper}{rest:List Oper}{o:Oper}{a:Act}{Q:Exit→Act→World→Prop}(hgd:o.guard=none) (s x:Operand) (t tn:TypeId) (kn:IntKind)
  (ht:Tryz.prog.underlying t=some (.slice 53)) (htn:Tryz.prog.underlying tn=some (.int kn)) (ho:o.op = .call { callee:=.builtin .append,args:=#[s,x],argTypes:=#[t,tn] })
  (base:Nat) (v:Value) (n:Nat) (xs:List Value) (hs:a.eval s=v) (hown:w.ownsRow base 53 1 v n xs) (hn0:0<n) (hbase:base≤w.heap.size)
  (kq:IntKind) (m:Nat) (hx:a.eval x = .int kq (m:Int)) (hlen:n+m≤Lmax)
  (h:∀ v' w',w'.ownsRow base 53 1 v' (n+m) (xs ++ (List.replicate m 0).map lv)→w.grownBy w' v.ownBlock→wpList Tryz.prog ops Q rest (a.put o.dst v') w'):wpList Tryz.prog ops Q (o :: rest) a w:=by
 obtain⟨v',w',hr,h1,h2⟩:=run_append_zeros base t tn o.type kq kn ht htn v n xs hown hn0 m hlen hbase;exact Lib.wpList_append_run w hgd s x t tn ho v _ hs hx v' w' hr (h v' w' h1 h2)
set_option maxHeartbeats 400000 in
set_option maxRecDepth 100000 in
theorem guess_calls (w:World) (hi lo d:Nat) (hd:d<Bs) (hl:lo<Bs) (_hd0:0<d) :
  Calls Tryz.prog 113 #[.int .u64 (hi:Int),.int .u64 (lo:Int),.int .u64 (d:Int)] w fun e w'=>e = .returned (.int .u64 (guessN hi lo d:Nat))∧Ext w w':=by
 by_cases h:d≤hi
 ·have HE:Hid (((guessN hi lo d:Nat):Int)=18446744073709551615):=by show _=_;rw[guessN,if_pos h,Bs_def];rfl
  clear hd hl
  go_enter Tryz.func113,Tryz.ntmps113
  go_wp2_with fail;go_ret;exact⟨ret_eq (int_eq (by rw[HE.out])),Ext.refl _⟩
 ·have HE:Hid (guessN hi lo d=(hi*Bs+lo) / d):=by show _=_;rw[guessN,if_neg h]
  have HC:=Hd (worddiv_calls w hi lo d hd hl (by omega));clear hd hl
  go_enter Tryz.func113,Tryz.ntmps113
  go_wp2_with (go_at_call 136;refine (HC.out).mono ?_;rintro e w' ⟨rfl,hx⟩)
  go_ret;exact⟨ret_eq (int_eq (by rw[HE.out];simp)),hx⟩
structure DivMem (w:World) (g m cm:Nat) (O:List Nat) (gq k:Nat) (Q:List Nat) (wr:World):Prop where
 ownL:wr.ownsRow w.heap.size 53 1 (.slice (some ⟨g,0,none⟩) m cm) m (O.map lv)
 ownQ:wr.ownsRow w.heap.size 53 1 (.slice (some ⟨gq,0,none⟩) k k) k (Q.map lv)
 ne:g≠gq
 ext:Ext w wr
section
variable {w wr:World}{g m cm gq k:Nat}{O Q:List Nat}
theorem DivMem.lenL (h:DivMem w g m cm O gq k Q wr):O.length=m:=by have:=h.ownL.1;simpa using this
theorem DivMem.lenQ (h:DivMem w g m cm O gq k Q wr):Q.length=k:=by have:=h.ownQ.1;simpa using this
theorem DivMem.cellL (h:DivMem w g m cm O gq k Q wr){j:Nat}(hj:j<m):wr.cell? ⟨g,j,none⟩=some (.int .u64 (el O j:Nat)):=by
 have:=h.lenL;rw[h.ownL.cellAt j (by omega)];simp [lv,el,List.getElem?_eq_getElem (show j<O.length by omega)]
theorem DivMem.cellQ (h:DivMem w g m cm O gq k Q wr){j:Nat}(hj:j<k):wr.cell? ⟨gq,j,none⟩=some (.int .u64 (el Q j:Nat)):=by
 have:=h.lenQ;rw[h.ownQ.cellAt j (by omega)];simp [lv,el,List.getElem?_eq_getElem (show j<Q.length by omega)]
theorem DivMem.frozL (h:DivMem w g m cm O gq k Q wr) (j:Nat):wr.frozen? ⟨g,j,none⟩=false:=h.ownL.frozenAt j
theorem DivMem.frozQ (h:DivMem w g m cm O gq k Q wr) (j:Nat):wr.frozen? ⟨gq,j,none⟩=false:=h.ownQ.frozenAt j
theorem DivMem.gL (h:DivMem w g m cm O gq k Q wr):w.heap.size≤g∧g<wr.heap.size:=h.ownL.lt g rfl
theorem DivMem.gQ (h:DivMem w g m cm O gq k Q wr):w.heap.size≤gq∧gq<wr.heap.size:=h.ownQ.lt gq rfl
theorem DivMem.setL (h:DivMem w g m cm O gq k Q wr) (j z:Nat):DivMem w g m cm (O.set j z) gq k Q (wr.setCell ⟨g,j,none⟩ (.int .u64 (z:Int))):=by
 obtain⟨o3,g3⟩:=h.ownL.stored j (.int .u64 (z:Int));refine⟨by rw[List.map_set];exact o3,h.ownQ.kept g3 (.inr (by simp [Value.ownBlock];exact fun e=>h.ne e.symm)),h.ne,Below.setCell h.ext (by show w.heap.size≤g;exact h.gL.1) _⟩
theorem DivMem.setQ (h:DivMem w g m cm O gq k Q wr) (j z:Nat):DivMem w g m cm O gq k (Q.set j z) (wr.setCell ⟨gq,j,none⟩ (.int .u64 (z:Int))):=by
 obtain⟨o3,g3⟩:=h.ownQ.stored j (.int .u64 (z:Int));refine⟨h.ownL.kept g3 (.inr (by simp [Value.ownBlock];exact h.ne)),by rw[List.map_set];exact o3,h.ne,Below.setCell h.ext (by show w.heap.size≤gq;exact h.gQ.1) _⟩
theorem DivMem.later {w2:World}(h:DivMem w g m cm O gq k Q wr) (x:Ext wr w2):DivMem w g m cm O gq k Q w2 :=
 ⟨ownsRow_ext h.ownL x,ownsRow_ext h.ownQ x,h.ne,h.ext.trans x⟩
end
theorem own_at {w:World}{base:Nat}{e:TypeId}{v:Value}{n:Nat}{xs:List Value}(h:w.ownsRow base e 1 v n xs) (hn:0<n):∃ g cm,v = .slice (some ⟨g,0,none⟩) n cm∧n≤cm∧cm≤maxLen:=by
 rcases h.2 with⟨_,h0⟩ | ⟨g,cap,cur,rfl,_,_,hc,hm,_⟩
 ·omega
 ·exact⟨g,cap,rfl,hc,hm⟩
theorem DivMem.start {w w7 w8:World}{g m cm k:Nat}{O:List Nat}(hL:w7.ownsRow w.heap.size 53 1 (.slice (some ⟨g,0,none⟩) m cm) m (O.map lv))
  (hQ:w8.ownsRow w7.heap.size 53 1 (.slice (some ⟨w7.heap.size,0,none⟩) k k) k ((List.replicate k 0).map lv)) (hg:w7.grownBy w8 none) (x:Ext w w7) :
  DivMem w g m cm O w7.heap.size k (List.replicate k 0) w8:=by
 have hlt:=hL.lt g rfl;refine⟨hL.kept hg (.inr (by simp [Value.ownBlock])),?_,by omega,x.grown hg (by intro k hk;cases hk)⟩
 rcases hQ.2 with h | ⟨g',cap,cur,e,hb,rest⟩
 ·exact⟨hQ.1,.inl h⟩
 ·exact⟨hQ.1,.inr ⟨g',cap,cur,e,Nat.le_trans x.size hb,rest⟩⟩
theorem addz_calls (w:World) (x c:Nat) (hc:c≤1) :
  Calls Tryz.prog 104 #[.int .u64 (x:Int),.int .u64 0,.int .u64 (c:Int)] w fun e w' =>
   e = .returned (.tuple #[.int .u64 (addLo x 0 c:Nat),.int .u64 (addHi x 0 c:Nat)])∧w=w':=add_calls w x 0 c hc
theorem tk_bounds {x q over:Nat}(hx:x<Bs) (hq:q<Bs) (ho:over<Bs):mulHi x q+addHi (mulLo x q) over 0≤18446744073709551615:=by
 have h:=tkOver_lt hx hq ho;unfold tkOver at h;rw[Bs_def]at h;omega
set_option maxHeartbeats 2000000 in
set_option maxRecDepth 100000 in
theorem take_calls {w wr:World}{g m cm gq k:Nat}{O Q D:List Nat}{dv:Value}(hM:DivMem w g m cm O gq k Q wr) (hO:∀ x∈O,x<Bs) (hD:Limbs w dv D) (n:Nat) (hn:n=D.length) (i q pc:Nat) (hi:i+n<m) (hq:q<Bs) (hm:m≤1048576) (hpc:n+1≤pc) (hpc2:pc≤maxLen) :
  Calls Tryz.prog 114 #[.slice (some ⟨g,i,none⟩) (n+1) pc,dv,.int .u64 (q:Int)] wr fun e w' =>
   ∃ (bor:Nat) (O':List Nat),e = .returned (.int .u64 (bor:Int))∧bor≤1∧Hid (val O'+Bs^i*(q*val D)=val O+Bs^(i+n+1)*bor)∧(∀ x∈O',x<Bs)∧(∀ j,i+n+1≤j→el O' j=el O j)∧DivMem w g m cm O' gq k Q w':=by
 obtain⟨da,dc,rfl,d1,d2,d3⟩:=hD.open;have HLO:=Hd hM.lenL
 have hni:(n:Int)≤1048576:=by omega
 have hii:(i:Int)≤1048576:=by omega
 rw[←hn]at d1 d3 ⊢;unfold maxLen at d2 hpc2;have HN:=Hd hn;have HD3:=Hd d3;have HI0:Hid (TakeInv D i q O 0 0 0 O):=TakeInv.start hO;have HO:=Hd hO;have HM0:=Hd hM;clear hn d3 hM hO
 go_enter Tryz.func114,Tryz.ntmps114
 go_wp2_with fail
 go_loopw [6,7,15] (fun v6 v7 v15 wx => ∃ (j over bor:Nat) (O':List Nat),v15 = .int .i64 (j:Int)∧v7 = .int .u64 (over:Int)∧v6 = .int .u64 (bor:Int)∧j≤n∧Hid (TakeInv D i q O j over bor O')∧DivMem w g m cm O' gq k Q wx) (fun _ _ v15 _=>n - (intOf v15).toNat)
 case atStart=>exact⟨0,0,0,O,rfl,rfl,rfl,Nat.zero_le _,HI0,HM0.out⟩
 case round =>
  obtain⟨j,over,bor,O',rfl,rfl,rfl,hj,hI,hM⟩:=hrel;have HM:=Hd hM;have hbor:=hI.out.bor_le;have hover:=hI.out.over_lt
  by_cases hjn:j<n
  ·obtain⟨b,o,rfl,hb,hc⟩:=HD3.out j hjn
   have hcD:wr.cell? ⟨b,o+j,none⟩=some (.int .u64 (el D j:Nat)):=by rw[Below.cell hM.ext (p:=⟨b,o+j,none⟩) hb];exact hc j hjn
   have hcO:=hM.cellL (j:=i+j) (by omega);have hfO:=hM.frozL (i+j);have hDj:=el_lt hD.2 j;have hOj:=el_lt hI.out.lt (i+j);have mb:=tk_bounds hDj hq hover;have HX:=Hd (hI.out.next hD.2 hq (by have:=HLO.out;omega));clear hc hM
   go_wp2_with (first
    | (go_at_call 103;(with_reducible refine (mul_calls _ _ _ hDj hq).mono ?_);rintro e w' ⟨rfl,rfl⟩)
    | (go_at_call 104;(with_reducible refine (add0_calls _ (mulLo (el D j) q) over).mono ?_);rintro e w' ⟨rfl,rfl⟩)
    | (go_at_call 139;(with_reducible refine (sub_calls _ _ _ bor hbor).mono ?_);rintro e w' ⟨rfl,rfl⟩))
   exact⟨⟨j+1,tkOver (el D j) q over,_,_,by go_num,int_eq (by unfold tkOver;omega),rfl,by omega,HX,HM.out.setL (i+j) _⟩,by simp [intOf];omega⟩
  ·obtain rfl:j=n:=by omega
   have hcO:=hM.cellL (j:=i+j) (by omega);have hfO:=hM.frozL (i+j)
   have HF:Hid (val (O'.set (i+j) (subLo (el O' (i+j)) over bor))+Bs^i*(q*val D)=val O+Bs^(i+j+1)*subHi (el O' (i+j)) over bor):=by
    have h1:=hI.out;have h2:=HN.out;subst h2;exact h1.fin (by have:=HLO.out;omega)
   clear hM
   go_wp2_with (go_at_call 139;(with_reducible refine (sub_calls _ _ _ bor hbor).mono ?_);rintro e w' ⟨rfl,rfl⟩)
   go_ret;exact⟨_,_,rfl,subHi_le _ _ _,HF,set_lt hI.out.lt (subLo_lt _ _ _),fun l hl=>by rw[el_set_other (by omega)];exact hI.out.same l (by omega),HM.out.setL (i+j) _⟩
set_option maxHeartbeats 2000000 in
set_option maxRecDepth 100000 in
theorem back_calls {w wr:World}{g m cm gq k:Nat}{O Q D:List Nat}{dv:Value}(hM:DivMem w g m cm O gq k Q wr) (hO:∀ x∈O,x<Bs) (hD:Limbs w dv D) (n:Nat) (hn:n=D.length) (i pc:Nat) (hi:i+n<m) (hm:m≤1048576) (hpc:n+1≤pc) (hpc2:pc≤maxLen) :
  Calls Tryz.prog 115 #[.slice (some ⟨g,i,none⟩) (n+1) pc,dv] wr fun e w' =>
   ∃ (car:Nat) (O':List Nat),e = .returned (.int .u64 (car:Int))∧car≤1∧Hid (val O'+Bs^(i+n+1)*car=val O+Bs^i*val D)∧(∀ x∈O',x<Bs)∧(∀ j,i+n+1≤j→el O' j=el O j)∧DivMem w g m cm O' gq k Q w':=by
 obtain⟨da,dc,rfl,d1,d2,d3⟩:=hD.open;have HLO:=Hd hM.lenL
 have hni:(n:Int)≤1048576:=by omega
 have hii:(i:Int)≤1048576:=by omega
 rw[←hn]at d1 d3 ⊢;unfold maxLen at d2 hpc2;have HN:=Hd hn;have HD3:=Hd d3;have HI0:Hid (BackInv D i O 0 0 O):=BackInv.start hO;have HO:=Hd hO;have HM0:=Hd hM;clear hn d3 hM hO
 go_enter Tryz.func115,Tryz.ntmps115
 go_wp2_with fail
 go_loopw [4,9] (fun v4 v9 wx => ∃ (j car:Nat) (O':List Nat),v9 = .int .i64 (j:Int)∧v4 = .int .u64 (car:Int)∧j≤n∧Hid (BackInv D i O j car O')∧DivMem w g m cm O' gq k Q wx) (fun _ v9 _=>n - (intOf v9).toNat)
 case atStart=>exact⟨0,0,O,rfl,rfl,Nat.zero_le _,HI0,HM0.out⟩
 case round =>
  obtain⟨j,car,O',rfl,rfl,hj,hI,hM⟩:=hrel;have HM:=Hd hM;have hcar:=hI.out.car_le
  by_cases hjn:j<n
  ·obtain⟨b,o,rfl,hb,hc⟩:=HD3.out j hjn
   have hcD:wr.cell? ⟨b,o+j,none⟩=some (.int .u64 (el D j:Nat)):=by rw[Below.cell hM.ext (p:=⟨b,o+j,none⟩) hb];exact hc j hjn
   have hcO:=hM.cellL (j:=i+j) (by omega);have hfO:=hM.frozL (i+j);have HX:=Hd (hI.out.next hD.2 (by have:=HLO.out;omega));clear hc hM
   go_wp2_with (go_at_call 104;(with_reducible refine (add_calls _ _ _ car hcar).mono ?_);rintro e w' ⟨rfl,rfl⟩)
   exact⟨⟨j+1,_,_,by go_num,rfl,by omega,HX,HM.out.setL (i+j) _⟩,by simp [intOf];omega⟩
  ·obtain rfl:j=n:=by omega
   have hcO:=hM.cellL (j:=i+j) (by omega);have hfO:=hM.frozL (i+j)
   have HF:Hid (val (O'.set (i+j) (addLo (el O' (i+j)) 0 car))+Bs^(i+j+1)*addHi (el O' (i+j)) 0 car=val O+Bs^i*val D):=by
    have h1:=hI.out;have h2:=HN.out;subst h2;exact h1.fin (by have:=HLO.out;omega)
   have HC:=Hd (fun W=>addz_calls W (el O' (i+j)) car hcar);have HHI:Hid (addHi (el O' (i+j)) 0 car≤1):=addHi_le (el_lt hI.out.lt _) Bs_pos hcar;clear hM
   go_wp2_with (go_at_call 104;(with_reducible refine (HC.out _).mono ?_);rintro e w' ⟨rfl,rfl⟩)
   go_ret;exact⟨_,_,rfl,HHI.out,HF,set_lt hI.out.lt (addLo_lt _ _ _),fun l hl=>by rw[el_set_other (by omega)];exact hI.out.same l (by omega),HM.out.setL (i+j) _⟩
end Go.Proofs.YtfofjalebhajhaaGreatDoor
namespace Go.Proofs.YtfofjalebhajhaaGreatDoor
open Go Go.RowKit
def RetDivE (w:World) (a b:Nat) (e:Ending) (w':World):Prop :=
 ∃ v u,e = .returned (.tuple #[v,u,.int .i64 (if b=0 then 7 else 0)])∧OwnL w.heap.size w' v (dig (if b=0 then 0 else a / b))∧OwnL w.heap.size w' u (dig (if b=0 then 0 else a % b))∧Ext w w'
set_option maxHeartbeats 1000000 in
theorem div0_calls {w:World}{v u:Value}{A B:List Nat}(hA:Limbs w v A) (hB:Limbs w u B) (hlA:A.length≤Lmax) (hlB:B.length≤Lmax) (hb0:val B=0) :
  Calls Tryz.prog 90 #[v,u] w (RetDivE w (val A) (val B)):=by
 have HLA:=Hd hlA;have HLB:=Hd hlB;have H0:=Hd hb0;clear hlA hlB hb0
 go_enter Tryz.func90,Tryz.ntmps90
 go_wp2_with fail;refine (trim_calls hA HLA.out).mono ?_;rintro e w1 ⟨a1,rfl,ha1,hx1⟩;go_wp2_with fail;refine (trim_calls (hB.ext hx1) HLB.out).mono ?_;rintro e w2 ⟨b1,rfl,hb1',hx2⟩;rw[H0.out,dig_zero]at hb1';obtain⟨bb,bcap,rfl,k1,k2,k3⟩:=hb1'.limbs.open;clear k1 k2 k3;go_wp2_with fail;go_ret3;exact⟨_,_,by rw[if_pos H0.out];rfl,by rw[if_pos H0.out,dig_zero];exact OwnL.nil _ _,by rw[if_pos H0.out,dig_zero];exact OwnL.nil _ _,hx1.trans hx2⟩
set_option maxHeartbeats 4000000 in
set_option maxRecDepth 100000 in
theorem divn_calls {w:World}{v u:Value}{A B:List Nat}(hA:Limbs w v A) (hB:Limbs w u B) (hlA:A.length≤65536) (hlB:B.length≤65536) (hb1:Bs≤val B) (hab:val B≤val A) :
  Calls Tryz.prog 90 #[v,u] w (RetDiv w (val A / val B) (val A % val B)):=by
 have lA:=dig_val_len hA.2;have lB:=dig_val_len hB.2;have HTA:=Hd (fun W (x:Ext w W)=>trim_calls (hA.ext x) (Nat.le_trans hlA (by rw[Lmax_def];omega)));have HTB:=Hd (fun W (x:Ext w W)=>trim_calls (hB.ext x) (Nat.le_trans hlB (by rw[Lmax_def];omega)))
 generalize val A=a at *
 generalize val B=b at *
 obtain⟨p,hp⟩:∃ p,(dig b).length=p+1:=by
  refine⟨(dig b).length - 1,?_⟩;rw[dig_pos (by have:=Bs_pos;omega),List.length_cons];omega
 obtain⟨la,hla⟩:∃ la,(dig a).length=la:=⟨_,rfl⟩
 have hBb:=dig_len_bounds hp
 have ha1:a<Bs^la:=by rw[←hla];have:=val_lt (dig_lt a);rwa [val_dig]at this
 have hpla:p+1≤la:=by
  have h1:=(Nat.pow_lt_pow_iff_right (a:=Bs) two_le_Bs).1 (Nat.lt_of_le_of_lt (Nat.le_trans hBb.1 hab) ha1);omega
 have hp1:1≤p:=by
  rcases Nat.eq_zero_or_pos p with g | g
  ·subst g;have:=hBb.2;rw[Nat.zero_add,Nat.pow_one]at this;omega
  ·exact g
 obtain⟨t,ht⟩:∃ t,t=el (dig b) p:=⟨_,rfl⟩
 have htB:t<Bs:=by rw[ht];exact el_lt (dig_lt b) p
 obtain⟨s,hs⟩:∃ s,s=64 - bl t:=⟨_,rfl⟩
 obtain⟨n1,n2,n3⟩:=norm_div (s:=s) hp (by rw[←ht];exact hs);have hDL:=dig_len_eq n1 n2;have hst:=div_start (s:=s) ha1 hBb.1 (show p≤la by omega)
 have hSl:(dig (a*2^s)).length≤la+1:=by
  refine dig_len_le ?_;rw[Nat.pow_succ];refine Nat.mul_lt_mul'' ha1 ?_;rw[Bs_eq];exact Nat.pow_lt_pow_right (by omega) (by omega)
 have hS0:0<(dig (a*2^s)).length:=by
  rw[dig_pos,List.length_cons]
  ·omega
  ·have h1:0<a:=by have:=Bs_pos;omega
   have:=Nat.mul_pos h1 (Nat.two_pow_pos s);omega
 have hbl:bl t≤64:=bl_le_64 htB
 obtain⟨D,hD⟩:∃ D,D=dig (b*2^s):=⟨_,rfl⟩
 obtain⟨S,hS⟩:∃ S,S=dig (a*2^s):=⟨_,rfl⟩
 rw[←hD]at hDL;rw[←hS]at hSl hS0
 have hsI:(64:Int) - (bl t:Nat)=(s:Int):=by omega
 have hbs:=val_dig (b*2^s);have has:=val_dig (a*2^s);rw[←hD]at hbs;rw[←hS]at has
 have hDlt:∀ x∈D,x<Bs:=by rw[hD];exact dig_lt _
 have hSlt:∀ x∈S,x<Bs:=by rw[hS];exact dig_lt _
 have hcmp:0≤cmpN a b:=by unfold cmpN;rw[if_neg (by omega)];split <;> decide
 have l1:la≤65536:=by omega
 have q0:((p:Int)+1 == 0)=false:=by rw[beq_eq_false_iff_ne];omega
 have q1:((p:Int)+1 == 1)=false:=by rw[beq_eq_false_iff_ne];omega
 have q2:decide (cmpN a b<0)=false:=by simpa using hcmp
 obtain⟨z,hz⟩:∃ z,z=la+1 - S.length:=⟨_,rfl⟩
 have hzI:(la:Int)+1 - (S.length:Int)=(z:Int):=by omega
 have HZ:Hid (S.length+z=la+1):=by show _=_;omega
 obtain⟨k,hk⟩:∃ k,k=la - p:=⟨_,rfl⟩
 have hkI:(la:Int) - ((p:Int)+1)+1=(k:Int):=by omega
 have HK:Hid (k+p=la):=by show _=_;omega
 rw[←hk]at hst;clear hz hk;have HP:=Hd hp;have HLA:=Hd hla;have HT:=Hd ht;have HTB':=Hd htB;have HDL:=Hd hDL;have HBS:=Hd hbs;have HAS:=Hd has;have HD:=Hd hD;have HS:=Hd hS;have HST:=Hd hst;have HN:=Hd n1;have HSlt:=Hd hSlt;have HDlt:=Hd hDlt;clear hp hla ht htB hDL hbs has hD hS hst n1 n2 hSlt hDlt hBb ha1 hab hb1 hs
 go_enter Tryz.func90,Tryz.ntmps90
 go_wp2_with fail;refine (HTA.out _ eR).mono ?_;rintro e w1 ⟨a1,rfl,ha1,x1⟩;go_wp2_with fail;refine (HTB.out _ x1).mono ?_;rintro e w2 ⟨b1,rfl,hb1,x2⟩;have ha2:=ha1.ext x2;obtain⟨aa,ac,rfl,-,-,-⟩:=ha2.limbs.open;obtain⟨ba,bc,rfl,-,hbc,hbo⟩:=hb1.limbs.open;obtain⟨bb,bo,rfl,hbb,hbcl⟩:=hbo p (by rw[HP.out];omega);have hbt:=hbcl p (by rw[HP.out];omega);rw[←HT.out]at hbt;rw[HP.out]at hb1 ⊢;rw[HLA.out]at ha1 ha2 ⊢;unfold maxLen at hbc;have x12:=x1.trans x2;clear hbo hbcl HTA HTB;go_wp2_with fail;refine (cmp_calls ha2.limbs hb1.limbs (by rw[HLA.out,Lmax_def];omega) (by rw[HP.out,Lmax_def];omega)).mono ?_;rintro e w3 ⟨rfl,rfl⟩;rw[val_dig,val_dig];go_wp2_with fail;refine (len_calls _ t HTB'.out).mono ?_;rintro e w4 ⟨rfl,rfl⟩;go_wp2_with fail;refine (shl_ok hb1.limbs (by rw[HP.out];omega) s (by omega)).mono ?_;rintro e w5 ⟨dv,rfl,hdv,x5⟩;rw[val_dig,←HD.out]at hdv;obtain⟨da,dc,rfl,-,hdc,hdo⟩:=hdv.limbs.open;obtain⟨db,dof,rfl,hdb,hdcl⟩:=hdo p (by rw[HDL.out];omega);have hdt:=hdcl p (by rw[HDL.out];omega);have HDV:=Hd hdv;rw[HDL.out]at HDV ⊢;unfold maxLen at hdc;clear hdo hdcl hdv;go_wp2_with fail;refine (shl_ok (ha2.limbs.ext x5) (by rw[HLA.out];omega) s (by omega)).mono ?_;rintro e w6 ⟨sv,rfl,hsv,x6⟩;rw[val_dig,←HS.out]at hsv
 have HSO:Hid (w6.ownsRow w5.heap.size 53 1 sv S.length (S.map lv)):=by
  rcases hsv.1 with h | ⟨_,_,h3,_,_⟩
  ·exact h
  ·have:S.length=0:=h3;omega
 obtain⟨sa,sc,rfl,-,-,-⟩:=hsv.limbs.open;have h56:=x6.size;clear hsv
 go_wp2_with (first
  | (at_builtin;refine append_zeros rfl _ _ 32 3 .i64 Tryz.underlying32 Tryz.underlying3 rfl w5.heap.size _ S.length (S.map lv) rfl HSO.out hS0 h56 .i64 z rfl (by have:=HZ.out;rw[Lmax_def];omega) ?_;intro lv' w7 hown7 hg7;rw[HZ.out,←List.map_append]at hown7;obtain⟨g,cm,rfl,hcm1,hcm2⟩:=own_at hown7 (by omega);have O7:=Hd hown7;have X7:Hid (Ext w5 w7):=x6.grown hg7 (fun k hk=>(HSO.out.lt k hk).1);clear hown7 hg7)
  | (at_make;refine make_limbs rfl _ _ 32 Tryz.underlying32 rfl k _ rfl rfl rfl (by have:=HK.out;rw[Lmax_def];omega) ?_;intro w8 hown8 hg8;have O8:=Hd hown8;have G8:=Hd hg8;clear hown8 hg8))
 unfold maxLen at hcm2
 obtain⟨gq,hgq⟩:∃ gq,gq=w7.heap.size:=⟨_,rfl⟩
 have HM0:=Hd (DivMem.start O7.out O8.out G8.out X7.out);rw[←hgq]at HM0 ⊢
 have HI0:Hid (DivInv (a*2^s) (b*2^s) (p+1) k (List.replicate k 0) (S ++ List.replicate z 0)):=by
  refine DivInv.start (fun x hx=>?_) (by rw[val_append,val_zeros,HAS.out];simp) HST.out
  rcases List.mem_append.1 hx with hx | hx
  ·exact HSlt.out x hx
  ·rw[List.eq_of_mem_replicate hx];exact Bs_pos
 have HX5:Hid (Ext w w5):=x12.trans x5;have HDL5:=HDV.out.limbs
 have hki:(k:Int)≤65536:=by have:=HK.out;omega
 have hpi:(p:Int)≤65536:=by have:=HK.out;omega
 have hk1:1≤k:=by have:=HK.out;omega
 clear O7 O8 G8 hgq q0 q1 q2 hkI hzI hbt hcmp hsI
 go_loopw [16] (fun v16 wr => ∃ (i:Nat) (mi:Int) (Q O:List Nat),v16 = .int .i64 mi∧mi=(i:Int) - 1∧i≤k∧Hid (DivInv (a*2^s) (b*2^s) (p+1) i Q O)∧DivMem w5 g (la+1) cm O gq k Q wr) (fun v16 _=>(intOf v16+1).toNat)
 case atStart=>exact⟨k,_,_,_,rfl,rfl,Nat.le_refl _,HI0,HM0.out⟩
 case round =>
  obtain⟨i,mi,Q,O,rfl,hmi,hi,hI,hM⟩:=hrel
  by_cases hi0:i=0
  ·subst hi0
   obtain rfl:mi = -1:=by omega
   have hfin:val Q=a / b∧val O / 2^s=a % b:=div_fin hI.out.val_eq (by have:=hI.out.less;rwa [Nat.pow_zero,Nat.mul_one]at this);have HF1:=Hd hfin.1;have HF2:=Hd hfin.2
   have hLO:Limbs wr (.slice (some ⟨g,0,none⟩) (la+1) cm) O:=⟨by have:=Own.sl (B:=w5.heap.size) (e := 53) (.inl hM.ownL);rwa [show la+1=O.length from hM.lenL.symm]at this ⊢,hI.out.ltO⟩
   have hLQ:Limbs wr (.slice (some ⟨gq,0,none⟩) k k) Q:=⟨by have:=Own.sl (B:=w5.heap.size) (e := 53) (.inl hM.ownQ);rwa [show k=Q.length from hM.lenQ.symm]at this ⊢,hI.out.ltQ⟩
   have HLL:Hid (O.length≤524288):=by show _≤_;rw[hM.lenL];omega
   have HLQ:Hid (Q.length≤Lmax):=by show _≤_;rw[hM.lenQ,Lmax_def];omega
   have HM:=Hd hM;clear hfin hM hmi;go_wp2_with fail;refine (shr_ok hLO HLL.out s (by omega)).mono ?_;rintro e w12 ⟨r,rfl,hr,x12'⟩;rw[HF2.out]at hr;go_wp2_with fail;refine (trim_calls (hLQ.ext x12') HLQ.out).mono ?_;rintro e w13 ⟨qv,rfl,hqv,x13⟩;rw[HF1.out]at hqv;go_wp2_with fail;go_ret3
   have y:=(HX5.out.trans HM.out.ext)
   exact⟨_,_,rfl,hqv.mono ((y.trans x12').size),(hr.ext x13).mono y.size,(y.trans x12').trans x13⟩
  ·obtain⟨j,rfl⟩:∃ j,i=j+1:=⟨i - 1,by omega⟩
   obtain rfl:mi=(j:Int):=by omega
   clear hmi
   have hjk:j<k:=by omega
   have hjl:j+p+1≤la:=by have:=HK.out;omega
   have HM:=Hd hM;have hd1:=el_lt HDlt.out p;have hlo:=el_lt hI.out.ltO (j+p)
   have hdq:el D p=b*2^s / Bs^p:=by
    have e:=el_val HDlt.out p;rw[HBS.out]at e
    have h2:b*2^s / Bs^p<Bs:=by
     have h3:=val_lt HDlt.out;rw[HBS.out,HDL.out,Nat.pow_succ]at h3;rw[Nat.div_lt_iff_lt_mul (Nat.pow_pos Bs_pos),Nat.mul_comm Bs];exact h3
    rw[Nat.mod_eq_of_lt h2]at e;exact e
   have hd0:0<el D p:=by rw[hdq];exact Nat.div_pos HN.out (Nat.pow_pos Bs_pos)
   have HDQ:Hid (el D p*Bs^p≤b*2^s):=by show _≤_;rw[hdq];exact Nat.div_mul_le_self _ _
   have HR:Hid (val O<Bs^(j+(p+1)+1)):=by
    show _<_
    have h3:=val_lt HDlt.out;rw[HBS.out,HDL.out]at h3;refine Nat.lt_of_lt_of_le hI.out.less ?_
    have e:Bs^(j+(p+1)+1)=Bs^(p+1)*Bs^(j+1):=by rw[←Nat.pow_add];congr 1;omega
    rw[e];exact Nat.mul_le_mul_right _ (Nat.le_of_lt h3)
   have HGE:Hid (val O / (b*2^s*Bs^j)≤guessN (el O (j+(p+1))) (el O (j+p)) (el D p)):=guess_ge HDQ.out hd0 hI.out.less (two_limbs hI.out.ltO HR.out);have HGL:Hid (guessN (el O (j+(p+1))) (el O (j+p)) (el D p)<Bs):=guess_lt hlo;clear hdq;have c1:=hM.cellL (j:=j+(p+1)) (by omega);have c2:=hM.cellL (j:=j+p) (by omega);have c3:=hM.cellQ hjk;have c4:=hM.frozQ j
   have c5:wr.cell? ⟨db,dof+p,none⟩=some (.int .u64 (el D p:Nat)):=by rw[Below.cell hM.ext (p:=⟨db,dof+p,none⟩) hdb];exact hdt
   clear hM
   have hj0:(0:Int)≤(j:Int):=by omega
   have hjk':(j:Int)<(k:Int):=by omega
   go_wp2_with fail
   have i1:IntKind.i64.wrap ((p:Int)+1 - 1)=(p:Int):=by rw[show (p:Int)+1 - 1=(p:Int) by omega];exact IntWalk.i64_in _ (by omega)
   have i1':IntKind.i64.wrap (p:Int)=(p:Int):=IntWalk.i64_in _ (by omega)
   have i2:(0:Int)≤(p:Int)+1:=by omega
   have i3:(0:Int)≤(p:Int):=by omega
   have i4:((p:Int)+1).toNat=p+1:=by omega
   have i5:(p:Int)+1<(p:Int)+1+1:=by omega
   have i6:(p:Int)<(p:Int)+1:=by omega
   have i7:(p:Int)<(p:Int)+2:=by omega
   have i9:(p:Int)+1<(p:Int)+2:=by omega
   have i8:j+(p+1)+1 - j=p+2:=by omega
   have ne1:¬ gq=g:=fun e=>HM.out.ne e.symm
   have ne2:¬ gq=db:=by have:=HM.out.gQ;omega
   have ne3:¬ g=gq:=HM.out.ne
   have ne4:¬ db=gq:=by omega
   go_region_held3 (fun W=>W.cell? ⟨g,j+(p+1),none⟩=some (.int .u64 (el O (j+(p+1)):Nat))∧W.cell? ⟨g,j+p,none⟩=some (.int .u64 (el O (j+p):Nat))∧W.cell? ⟨db,dof+p,none⟩=some (.int .u64 (el D p:Nat))) (go_keep)
    (first | (go_at_call 113;refine (guess_calls _ (el O (j+(p+1))) (el O (j+p)) (el D p) hd1 hlo hd0).mono ?_;rintro e w9 ⟨rfl,x9⟩;have hM9:=(HM.out.later ((Ext.refl wr).drew)).later x9;have k1:=hM9.cellL (j:=j+(p+1)) (by omega);have k2:=hM9.cellL (j:=j+p) (by omega);have k3:=hM9.cellQ hjk;have k4:=hM9.frozQ j;have k5:w9.cell? ⟨db,dof+p,none⟩=some (.int .u64 (el D p:Nat)):=by rw[Below.cell hM9.ext (p:=⟨db,dof+p,none⟩) hdb];exact hdt))
   generalize guessN (el O (j+(p+1))) (el O (j+p)) (el D p)=q at *
   have HM10:=Hd (((HM.out.later ((Ext.refl wr).drew)).later x9).setQ j q);clear i1 i1' i2 i3 i4 i5 i6 i7 i9 c1 c2 c3 c4 c5 hM9 k1 k2 k3 k4 k5;have cq:=HM10.out.cellQ hjk;have fq:=HM10.out.frozQ j;rw[el_set_same (by rw[HM.out.lenQ];exact hjk)]at cq;go_wp2_with fail;refine (take_calls HM10.out hI.out.ltO HDL5 (p+1) HDL.out.symm j q (cm - j) (by omega) HGL.out (by omega) (by omega) (by unfold maxLen;omega)).mono ?_;rintro e w11 ⟨bor,O',rfl,hbor,hv,hO',hz,hM'⟩;have HZ':=Hd hz;have HM':=Hd hM';rw[HBS.out]at hv;have HL':Hid (val O'<Bs^(j+(p+1)+1)):=val_top hO' (fun l hl=>by rw[hz l hl];exact top_zero hI.out.ltO HR.out l hl);clear hz hM'
   by_cases hb0:bor=0
   ·subst hb0;have hv0:=hv.out;rw[Nat.mul_zero,Nat.add_zero]at hv0;have HI2:=Hd (hI.out.step (by rw[HM.out.lenQ];exact hjk) HGL.out hO' hv0 (take_done hv0 (Nat.lt_of_lt_of_le (Nat.pow_pos Bs_pos) HN.out) HGE.out));clear hv0;go_wp2_with fail;exact⟨⟨j,_,_,_,rfl,rfl,by omega,HI2,HM'.out⟩,by simp [intOf]⟩
   ·obtain rfl:bor=1:=by omega
    obtain⟨hq1,hT⟩:=TooMuch.of_take hv.out HL'.out;have HT0:=Hd hT;clear hT hb0 hbor;have cq2:=HM'.out.cellQ hjk;have fq2:=HM'.out.frozQ j;rw[el_set_same (by rw[HM.out.lenQ];exact hjk)]at cq2
    have hqB:(q:Int)≤18446744073709551615:=by have:=HGL.out;rw[Bs_def]at this;omega
    have hq1i:1≤(q:Int):=by omega
    have hqe:(q:Int) - 1=((q - 1:Nat):Int):=by omega
    have HM12:Hid (DivMem w5 g (la+1) cm O' gq k (Q.set j (q - 1)) (w11.setCell ⟨gq,j,none⟩ (.int .u64 ((q - 1:Nat):Int)))):=by
     have:=HM'.out.setQ j (q - 1)
     rwa [List.set_set]at this
    go_wp2_with fail
    go_loopg [128] (q - 1) (fun gh _ wx=>gh≤q - 1 ∧ ∃ O2:List Nat,Hid (TooMuch (val O) (b*2^s) j (j+(p+1)+1) gh (val O2))∧(∀ x∈O2,x<Bs)∧Hid (∀ l,j+(p+1)+1≤l→el O2 l=el O l)∧DivMem w5 g (la+1) cm O2 gq k (Q.set j gh) wx)
    case atStart=>exact⟨Nat.le_refl _,O',HT0,hO',HZ'.out,HM12.out⟩
    case round =>
     obtain⟨hgq1,O2,hT2,hO2,hZ2,hM2⟩:=hrel;have HM2:=Hd hM2;clear hM2;go_wp2_with fail;refine (back_calls HM2.out hO2 HDL5 (p+1) HDL.out.symm j (cm - j) (by omega) (by omega) (by omega) (by unfold maxLen;omega)).mono ?_;rintro e w13 ⟨car,O3,rfl,hcar,hv3,hO3,hz3,hM3⟩;have HM3:=Hd hM3
     have HZ3:Hid (∀ l,j+(p+1)+1≤l→el O3 l=el O l):=fun l hl=>by rw[hz3 l hl];exact hZ2.out l hl
     rw[HBS.out]at hv3;have HL3:Hid (val O3<Bs^(j+(p+1)+1)):=val_top hO3 (fun l hl=>by rw[HZ3.out l hl];exact top_zero hI.out.ltO HR.out l hl);clear hz3 hM3
     by_cases hc0:car=0
     ·subst hc0;obtain⟨hq3,hT3⟩:=hT2.out.more hv3.out HL3.out;have HT3:=Hd hT3;have cq3:=HM3.out.cellQ hjk;have fq3:=HM3.out.frozQ j;rw[el_set_same (by rw[HM.out.lenQ];exact hjk)]at cq3
      have hgB:(gk:Int)≤18446744073709551615:=by omega
      have hg1:1≤(gk:Int):=by omega
      have hge:(gk:Int) - 1=((gk - 1:Nat):Int):=by omega
      have HM14:Hid (DivMem w5 g (la+1) cm O3 gq k (Q.set j (gk - 1)) (w13.setCell ⟨gq,j,none⟩ (.int .u64 ((gk - 1:Nat):Int)))):=by
       have:=HM3.out.setQ j (gk - 1)
       rwa [List.set_set]at this
      clear hT3;go_wp2_with fail
      go_roundg (gk - 1)
      case measure=>omega
      case rel=>exact⟨by omega,O3,HT3,hO3,HZ3,HM14.out⟩
     ·obtain rfl:car=1:=by omega
      have hv4:=hT2.out.done hv3.out;have HI3:=Hd (hI.out.step (by rw[HM.out.lenQ];exact hjk) (show gk<Bs by have:=HGL.out;omega) hO3 hv4.1 hv4.2);clear hv4 hc0;go_wp2_with fail;exact⟨⟨j,_,_,_,rfl,rfl,by omega,HI3,HM3.out⟩,by simp [intOf]⟩
set_option maxHeartbeats 1000000 in
theorem divlt_calls {w:World}{v u:Value}{A B:List Nat}(hA:Limbs w v A) (hB:Limbs w u B) (hlA:A.length≤Lmax) (hlB:B.length≤Lmax) (hlt:val A<val B) :
  Calls Tryz.prog 90 #[v,u] w (RetDiv w (val A / val B) (val A % val B)):=by
 have HLA:=Hd hlA;have HLB:=Hd hlB;have HDA:Hid ((dig (val A)).length≤Lmax):=Nat.le_trans (dig_val_len hA.2) hlA;have HDB:Hid ((dig (val B)).length≤Lmax):=Nat.le_trans (dig_val_len hB.2) hlB;have HQ:Hid (val A / val B=0):=Nat.div_eq_of_lt hlt;have HR:Hid (val A % val B=val A):=Nat.mod_eq_of_lt hlt
 have hp:0<(dig (val B)).length:=by rw[dig_pos (by omega),List.length_cons];omega
 have h0:(((dig (val B)).length:Int) == 0)=false:=by rw[beq_eq_false_iff_ne];omega
 have HC:Hid (cmpN (val (dig (val A))) (val (dig (val B))) = -1):=by show _=_;rw[val_dig,val_dig];exact cmpN_lt hlt
 clear hlA hlB hlt hp
 go_enter Tryz.func90,Tryz.ntmps90
 go_wp2_with fail;refine (trim_calls hA HLA.out).mono ?_;rintro e w1 ⟨a1,rfl,ha1,hx1⟩;go_wp2_with fail;refine (trim_calls (hB.ext hx1) HLB.out).mono ?_;rintro e w2 ⟨b1,rfl,hb1',hx2⟩;have ha2:=ha1.ext hx2;have hx:=hx1.trans hx2;obtain⟨bb,bcap,rfl,k1,k2,k3⟩:=hb1'.limbs.open;clear k1 k2 k3;go_wp2_with fail;refine (cmp_calls ha2.limbs hb1'.limbs HDA.out HDB.out).mono ?_;rintro e w3 ⟨rfl,rfl⟩;rw[HC.out];go_wp2_with fail;go_ret3;exact⟨_,_,rfl,by rw[HQ.out,dig_zero];exact OwnL.nil _ _,by rw[HR.out];exact ha2,hx⟩
theorem quodiv_calls {w:World}{v u:Value}{A B:List Nat}(hA:Limbs w v A) (hB:Limbs w u B) (hlA:A.length≤65536) (hlB:B.length≤65536) :
  Calls Tryz.prog 90 #[v,u] w (RetDivE w (val A) (val B)):=by
 have l1:A.length≤Lmax:=by rw[Lmax_def];omega
 have l2:B.length≤Lmax:=by rw[Lmax_def];omega
 by_cases h0:val B=0
 ·exact div0_calls hA hB l1 l2 h0
 have key:Calls Tryz.prog 90 #[v,u] w (RetDiv w (val A / val B) (val A % val B)):=by
  by_cases h1:val B<Bs
  ·exact div1_calls hA hB l1 l2 (by omega) h1
  ·by_cases h2:val A<val B
   ·exact divlt_calls hA hB l1 l2 h2
   ·exact divn_calls hA hB hlA hlB (by omega) (by omega)
 refine key.mono ?_;rintro e w' ⟨q,r,rfl,hq,hr,hx⟩;exact⟨q,r,by rw[if_neg h0],by rw[if_neg h0];exact hq,by rw[if_neg h0];exact hr,hx⟩
end Go.Proofs.YtfofjalebhajhaaGreatDoor
namespace Go.Proofs.YtfofjalebhajhaaGreatDoor
open Go Go.RowKit
def Yes (w:World) (e:Ending) (w':World):Prop:=e = .returned (.bool true)∧Ext w w'
theorem own_lit (w:World) (A:List Nat) (hA:∀ x∈A,x<Bs) (C:Array Value) (hC:C.toList=A.map lv) (n:Nat) (hn:n=A.length) (hl:A.length≤Lmax) :
  OwnL w.heap.size (w.alloc (.cells C 53)) (.slice (some ⟨w.heap.size,0,none⟩) n n) A:=by
 subst hn
 have hs:C.size=A.length:=by rw[←Array.length_toList,hC];simp
 exact⟨.inl ⟨by simp,.inr ⟨w.heap.size,A.length,C,rfl,Nat.le_refl _,heap_alloc_new w _,Nat.le_refl _,(lmax_fits hl).1,by rw[hs];simp,by rw[hC];exact List.take_of_length_le (by simp)⟩⟩,hA⟩
theorem one_lt_Bs:1<Bs:=by rw[Bs_def];omega
theorem mk_of {s:ByteArray}{l:List UInt8}(h:s.data.toList=l):(⟨l.toArray⟩:ByteArray)=s:=by
 rw[←h]
theorem show_str {w:World}{v:Value}{A:List Nat}(hA:Limbs w v A) (hln:A.length≤65536) (s:ByteArray) (hs:s.data.toList=showL (val A)) :
  Calls Tryz.prog 58 #[v] w fun e w'=>e = .returned (.string s)∧Ext w w' :=
 (show_calls hA hln).mono fun _ _ ⟨h1,h2⟩=>⟨by rw[h1,mk_of hs],h2⟩
theorem append_of {s t u:ByteArray}(h:u.data.toList=s.data.toList ++ t.data.toList):s ++ t=u:=by
 rw[←Lib.mk_data u,h,←Lib.mk_data (s ++ t)];simp [ByteArray.data_append]
theorem litn (w:World) (A:List Nat) (hA:∀ x∈A,x<Bs) (C:Array Value) (hC:C.toList=A.map lv) (n:Nat) (hn:n=A.length) (hl:A.length≤100):Limbs (w.alloc (.cells C 53)) (.slice (some ⟨w.heap.size,0,none⟩) n n) A :=
 limbs_lit w A hA C hC n hn (by rw[Lmax_def];omega)
theorem small_Bs {n:Nat}(h:n≤65535):n<Bs:=by rw[Bs_def];omega
theorem str_of (l:List UInt8):∃ s:ByteArray,s.data.toList=l:=⟨⟨l.toArray⟩,rfl⟩
theorem dig_lmax {n k:Nat}(h:n<Bs^k) (hk:k≤65536):(dig n).length≤65536:=Nat.le_trans (dig_len_le h) hk
theorem zero_bool {w:World}{v:Value}{A:List Nat}(hA:Limbs w v A) (hlen:A.length≤Lmax) (b:Bool) (hb:decide (val A=0)=b) :
  Calls Tryz.prog 100 #[v] w fun e w'=>e = .returned (.bool b)∧w=w' :=
 (zero_calls hA hlen).mono fun _ _ ⟨h1,h2⟩=>⟨by rw[h1,hb],h2⟩
theorem cmp_int {w:World}{v u:Value}{A B:List Nat}(hA:Limbs w v A) (hB:Limbs w u B) (hlA:A.length≤Lmax) (hlB:B.length≤Lmax) (k:Int) (hk:cmpN (val A) (val B)=k) :
  Calls Tryz.prog 88 #[v,u] w fun e w'=>e = .returned (.int .i64 k)∧w=w' :=
 (cmp_calls hA hB hlA hlB).mono fun _ _ ⟨h1,h2⟩=>⟨by rw[h1,hk],h2⟩
theorem lmax_16 {n:Nat}(h:n≤65536):n≤Lmax:=by rw[Lmax_def];omega
theorem OwnL.open {B:Nat}{w:World}{v:Value}{A:List Nat}(h:OwnL B w v A) :
  ∃ a cap,v = .slice a A.length cap∧A.length≤cap∧cap≤maxLen ∧
   (0<A.length → ∃ g,a=some ⟨g,0,none⟩∧B≤g∧g<w.heap.size ∧ ∀ j,j<A.length→w.cell? ⟨g,j,none⟩=some (.int .u64 (el A j:Nat))∧w.frozen? ⟨g,j,none⟩=false ∧
    ∀ z,z<Bs→OwnL B (w.setCell ⟨g,j,none⟩ (.int .u64 (z:Int))) v (A.set j z)):=by
 obtain⟨h1,h2⟩:=h
 rcases h1 with h1 | ⟨a,rfl,h3,h4,h5⟩
 ·rcases h1.2 with⟨rfl,h0⟩ | ⟨g,cap,cur,rfl,hg,hh,hc,hm,hs,ht⟩
  ·exact⟨none,0,by rw[h0],by omega,Nat.zero_le _,fun h=>by omega⟩
  ·refine⟨_,cap,rfl,hc,hm,fun _=>⟨g,rfl,hg,(Array.getElem?_eq_some_iff.1 hh).1,fun j hj=>⟨?_,h1.frozenAt j,fun z hz=>⟨.inl ?_,fun x hx=>?_⟩⟩⟩⟩
   ·rw[h1.cellAt j (by omega)];simp [lv,el,List.getElem?_eq_getElem hj]
   ·have:=(h1.stored j (.int .u64 (z:Int))).1;rw[List.length_set,List.map_set];exact this
   ·exact set_lt h2 hz x hx
 ·have:A.length=0:=h3;exact⟨a,0,by rw[this],by omega,Nat.zero_le _,fun h=>by omega⟩
end Go.Proofs.YtfofjalebhajhaaGreatDoor
namespace Go.Proofs.YtfofjalebhajhaaGreatDoor
open Go Go.RowKit
set_option maxHeartbeats 400000 in
theorem sub1_calls (bc:Nat) (W:World) (x y c:Nat) (hc:c≤1) (h1:W.cell? ⟨bc,0,none⟩=some (.int .u64 (c:Int))) (h2:W.frozen? ⟨bc,0,none⟩=false) :
  Calls Tryz.prog 146 #[.int .u64 (x:Int),.int .u64 (y:Int),.pointer (some ⟨bc,0,none⟩)] W fun e W' =>
   e = .returned (.int .u64 ((subF x y c).1:Nat))∧W.setCell ⟨bc,0,none⟩ (.int .u64 ((subF x y c).2:Nat))=W':=by
 go_enter Tryz.func146,Tryz.ntmps146
 go_wp2_with (go_at_call 139;refine (sub_calls _ x y c hc).mono ?_;rintro e w' ⟨rfl,rfl⟩)
 go_ret;exact⟨rfl,rfl⟩
def RetSub (w:World) (a b:Nat) (e:Ending) (w':World):Prop :=
 ∃ v,e = .returned (.tuple #[v,.int .i64 (if a<b then 8 else 0)])∧OwnL w.heap.size w' v (dig (a - b))∧Ext w w'
set_option maxHeartbeats 400000 in
theorem natsub_calls {w:World}{v u:Value}{A B:List Nat}(hA:Limbs w v A) (hB:Limbs w u B) (hlA:A.length<Lmax) (hlB:B.length<Lmax) :
  Calls Tryz.prog 128 #[v,u] w (RetSub w (val A) (val B)):=by
 have HLA:=Hd hlA;have HLB:=Hd hlB;have hA1:=Hd hA.2;have hB1:=Hd hB.2
 by_cases h:val A<val B
 ·have HC:Hid (cmpN (val A) (val B) = -1):=cmpN_lt h;have H:=Hd h;clear hlA hlB h
  go_enter Tryz.func128,Tryz.ntmps128
  go_wp2_with (go_at_call 88;refine (cmp_calls hA hB (Nat.le_of_lt HLA.out) (Nat.le_of_lt HLB.out)).mono ?_;rintro e w' ⟨rfl,rfl⟩;rw[HC.out])
  go_ret2;exact⟨_,by rw[if_pos H.out];rfl,by rw[show val A - val B=0 by have:=H.out;omega,dig_zero];exact OwnL.nil _ _,Ext.refl _⟩
 ·obtain⟨c,hc⟩:∃ c,c=cmpN (val A) (val B):=⟨_,rfl⟩
  have hc0:0≤c:=by rw[hc];unfold cmpN;rw[if_neg h];split <;> decide
  have HC:=Hd hc;have H:=Hd h;have HV:Hid (val (outsTo subF A B (max A.length B.length+1))=val A - val B):=sub_outs hA.2 hB.2 (by omega);clear hlA hlB h hc
  go_enter Tryz.func128,Tryz.ntmps128
  go_wp2_with (first
   | (go_at_call 88;refine (cmp_calls hA hB (Nat.le_of_lt HLA.out) (Nat.le_of_lt HLB.out)).mono ?_;rintro e w' ⟨rfl,rfl⟩;rw[←HC.out])
   | (go_at_call 144;refine (each_calls hA hB (Nat.le_of_lt HLA.out) (Nat.le_of_lt HLB.out) (by have:=HLA.out;have:=HLB.out;omega) ((Ext.refl w).alloc _) w.heap.size (Nat.le_refl _) (by simp) (by simp [go_sem]) (by simp [go_sem]) _ (fun _ _=>by simp [go_sem]) subF subF_ok (fun W x y c=>sub1_calls _ W x y c)).mono ?_;rintro e w' ⟨r,rfl,hr,hx⟩))
  go_ret2;rw[HV.out]at hr;exact⟨_,by rw[if_neg H.out];rfl,hr,hx⟩
theorem sub_ok {w:World}{v u:Value}{A B:List Nat}(hA:Limbs w v A) (hB:Limbs w u B) (hlA:A.length<Lmax) (hlB:B.length<Lmax) (h:val B≤val A) :
  Calls Tryz.prog 128 #[v,u] w fun e w' => ∃ r,e = .returned (.tuple #[r,.int .i64 0])∧OwnL w.heap.size w' r (dig (val A - val B))∧Ext w w' :=
 (natsub_calls hA hB hlA hlB).mono fun _ _ ⟨r,h1,h2,h3⟩=>by
  rw[if_neg (by omega)]at h1;exact⟨r,h1,h2,h3⟩
end Go.Proofs.YtfofjalebhajhaaGreatDoor
namespace Go.Proofs.YtfofjalebhajhaaGreatDoor
open Go Go.RowKit
noncomputable def iv (neg:Bool) (A:List Nat):Int:=if neg then -(val A:Int) else (val A:Int)
theorem iv_abs (neg:Bool) (A:List Nat):(iv neg A).natAbs=val A:=by unfold iv;split <;> omega
theorem iv_neg (neg:Bool) (A:List Nat):decide (iv neg A<0)=(neg && !decide (val A=0)):=by
 unfold iv
 cases neg
 ·simp
 ·by_cases h:val A=0
  ·simp [h]
  ·simp [h];omega
def RetI (w:World) (z:Int) (e:Ending) (w':World):Prop:=∃ v,e = .returned (.agg #[.bool (decide (z<0)),v])∧OwnL w.heap.size w' v (dig z.natAbs)∧Ext w w'
theorem OwnL.set_other {B:Nat}{w:World}{v:Value}{A:List Nat}(h:OwnL B w v A){p:Addr}(hp:p.block<B) (u:Value):OwnL B (w.setCell p u) v A:=by
 refine⟨?_,h.2⟩
 rcases h.1 with h1 | ⟨a,h1,h2,h3,h4⟩
 ·refine .inl (h1.kept (row:=some p.block) ⟨rfl,rfl,rfl,by simp [World.setCell],fun k hk hne=>Below.heap_setCell _ _ _ _ (fun e=>hne (by rw[e]))⟩ ?_)
  cases hv:v.ownBlock with
  | none=>exact .inl rfl
  | some b =>
   right
   intro e;have h5:=(h1.lt b hv).1
   have h6:p.block=b:=by injection e with e;exact e.symm
   omega
 ·exact .inr ⟨a,h1,h2,h3,fun q hq=>⟨(h4 q hq).1,by have:=(h4 q hq).2;simpa [World.setCell] using this⟩⟩
theorem cell_ext {a b:World}(x:Ext a b){p:Addr}{u:Value}(h:a.cell? p=some u) (hp:p.block<a.heap.size):b.cell? p=some u:=by rw[Below.cell x hp];exact h
theorem frozen_ext {a b:World}(x:Ext a b){p:Addr}(h:a.frozen? p=false) (hp:p.block<a.heap.size):b.frozen? p=false:=by rw[Below.frozen x hp];exact h
theorem box2 {w w1:World}{a b:Value}{t:TypeId}(x:Ext (w.alloc (.cells #[a,b] t)) w1) :
  w1.cell? ⟨w.heap.size,0,none⟩=some a∧w1.cell? ⟨w.heap.size,1,none⟩=some b∧w1.frozen? ⟨w.heap.size,0,none⟩=false∧w1.frozen? ⟨w.heap.size,1,none⟩=false :=
 ⟨cell_ext x (by simp [go_sem]) (by simp),cell_ext x (by simp [go_sem]) (by simp),frozen_ext x (by simp [go_sem]) (by simp),frozen_ext x (by simp [go_sem]) (by simp)⟩
theorem ext_box2 {w w1:World}{b:Nat}(x:Ext w w1) (hb:w.heap.size≤b) (u v:Value):Ext w ((w1.setCell ⟨b,0,none⟩ u).setCell ⟨b,1,none⟩ v) :=
 Below.setCell (Below.setCell x hb _) hb _
theorem OwnL.set2 {B:Nat}{w:World}{v:Value}{A:List Nat}(h:OwnL B w v A){b:Nat}(hb:b<B) (x y:Value):OwnL B ((w.setCell ⟨b,0,none⟩ x).setCell ⟨b,1,none⟩ y) v A :=
 (h.set_other (p:=⟨b,0,none⟩) hb x).set_other (p:=⟨b,1,none⟩) hb y
set_option maxHeartbeats 1000000 in
set_option maxRecDepth 100000 in
theorem make_calls {w:World}{v:Value}{A:List Nat}(hA:Limbs w v A) (hl:A.length≤65536) (neg:Bool) :
  Calls Tryz.prog 83 #[.bool neg,v] w (RetI w (iv neg A)):=by
 have HE:Hid (decide (iv neg A<0)=(neg && !decide (val A=0))):=iv_neg neg A;have HB:Hid ((iv neg A).natAbs=val A):=iv_abs neg A;have HL:=Hd (lmax_16 hl);obtain⟨pa,pc,rfl,-,-,-⟩:=hA.open
 obtain⟨z,hz⟩:∃ z,z=decide (val A=0):=⟨_,rfl⟩
 have HZ:=Hd hz;have y0:=(Ext.refl w).alloc (.cells #[.bool false,.slice none 0 0] 34);rw[←hz]at HE;clear hl hz
 cases neg with
 | false =>
  go_enter Tryz.func83,Tryz.ntmps83
  go_wp2_with fail;refine (trim_calls (hA.ext y0) HL.out).mono ?_;rintro e w1 ⟨r,rfl,hr,x1⟩;obtain⟨c1,c2,c3,c4⟩:=box2 x1;obtain⟨ra,rc,rfl,-,-,-⟩:=hr.limbs.open;go_wp2_with fail;refine bodyPost_ret (v:=.agg #[.bool false,.slice ra (dig (val A)).length rc]) (by simp [results,Tryz.results83,go_sem,c1,c2]) rfl ⟨_,by rw[HE.out];rfl,?_,?_⟩
  ·rw[HB.out];exact (hr.set2 (by simp) _ _).mono (by simp)
  ·exact ext_box2 (y0.trans x1) (Nat.le_refl _) _ _
 | true =>
  go_enter Tryz.func83,Tryz.ntmps83
  go_wp2_with fail;refine (zero_bool (hA.ext y0) HL.out z HZ.out.symm).mono ?_;rintro e w0 ⟨rfl,rfl⟩;go_wp2_with fail;refine (trim_calls (hA.ext y0) HL.out).mono ?_;rintro e w1 ⟨r,rfl,hr,x1⟩;obtain⟨c1,c2,c3,c4⟩:=box2 x1;obtain⟨ra,rc,rfl,-,-,-⟩:=hr.limbs.open;go_wp2_with fail;refine bodyPost_ret (v:=.agg #[.bool (!z),.slice ra (dig (val A)).length rc]) (by simp [results,Tryz.results83,go_sem,c1,c2]) rfl ⟨_,by rw[HE.out];rfl,?_,?_⟩
  ·rw[HB.out];exact (hr.set2 (by simp) _ _).mono (by simp)
  ·exact ext_box2 (y0.trans x1) (Nat.le_refl _) _ _
theorem RetI.mk {w w':World}{z y:Int}{b:Bool}{v:Value}(hb:decide (z<0)=b) (h:OwnL w.heap.size w' v (dig z.natAbs)) (x:Ext w w') (e:z=y):RetI w y (.returned (.agg #[.bool b,v])) w':=by
 subst e;exact⟨v,by rw[hb],h,x⟩
theorem iv_dig_false (n:Nat):iv false (dig n)=(n:Int):=by simp [iv,val_dig]
theorem iv_dig_true (n:Nat):iv true (dig n) = -(n:Int):=by simp [iv,val_dig]
theorem len_one {n:Nat}(h:n<Bs):(dig n).length≤65536:=dig_lmax (k:=1) (by simpa using h) (by omega)
set_option maxHeartbeats 1000000 in
set_option maxRecDepth 100000 in
theorem iof_calls (w:World) (n:Int) (h1:-9223372036854775808≤n) (h2:n≤9223372036854775807) :
  Calls Tryz.prog 78 #[.int .i64 n] w (RetI w n):=by
 obtain⟨m,hm⟩:∃ m,m=n.natAbs:=⟨_,rfl⟩
 have hmB:m<Bs:=by rw[Bs_def];omega
 have HB:=Hd hmB;have HL:=Hd (len_one hmB);have y0:=(Ext.refl w).alloc (.cells #[.bool false,.slice none 0 0] 34)
 by_cases hn:n<0
 ·have HM:Hid (IntKind.u64.wrap (-IntKind.u64.wrap n)=(m:Int)):=by show _=_;simp only[IntKind.wrap_u64];omega
  have HV:Hid (iv true (dig m)=n):=by show _=_;rw[iv_dig_true];omega
  clear hm hmB
  go_enter Tryz.func78,Tryz.ntmps78
  go_wp2_with fail;rw[HM.out];refine (of_calls HB.out).mono ?_;rintro e w1 ⟨v,rfl,hv,x1⟩;go_wp2_with fail;refine (make_calls hv.limbs HL.out true).mono ?_;rintro e w2 ⟨r,rfl,hr,x2⟩;rw[HV.out]at hr;obtain⟨c1,c2,c3,c4⟩:=box2 (x1.trans x2);obtain⟨ra,rc,rfl,-,-,-⟩:=hr.limbs.open;go_wp2_with fail;refine bodyPost_ret (v:=.agg #[.bool (decide (iv true (dig m)<0)),.slice ra (dig n.natAbs).length rc]) (by simp [results,Tryz.results78,go_sem,c1,c2]) rfl (RetI.mk (by rw[HV.out]) ?_ ?_ rfl)
  ·exact (hr.set2 (by have:=x1.size;simp at this;omega) _ _).mono (by have:=x1.size;simp at this;omega)
  ·exact ext_box2 ((y0.trans x1).trans x2) (Nat.le_refl _) _ _
 ·obtain⟨k,rfl⟩:=Int.eq_ofNat_of_zero_le (Int.not_lt.1 hn)
  have hmk:m=k:=by omega
  subst hmk
  have HV:Hid (iv false (dig m)=(m:Int)):=by show _=_;rw[iv_dig_false]
  clear hm hmB hn
  go_enter Tryz.func78,Tryz.ntmps78
  go_wp2_with fail;refine (of_calls HB.out).mono ?_;rintro e w1 ⟨v,rfl,hv,x1⟩;go_wp2_with fail;refine (make_calls hv.limbs HL.out false).mono ?_;rintro e w2 ⟨r,rfl,hr,x2⟩;rw[HV.out]at hr;obtain⟨c1,c2,c3,c4⟩:=box2 (x1.trans x2);obtain⟨ra,rc,rfl,-,-,-⟩:=hr.limbs.open;go_wp2_with fail;refine bodyPost_ret (v:=.agg #[.bool (decide (iv false (dig m)<0)),.slice ra (dig ((m:Int)).natAbs).length rc]) (by simp [results,Tryz.results78,go_sem,c1,c2]) rfl (RetI.mk (by rw[HV.out]) ?_ ?_ rfl)
  ·exact (hr.set2 (by have:=x1.size;simp at this;omega) _ _).mono (by have:=x1.size;simp at this;omega)
  ·exact ext_box2 ((y0.trans x1).trans x2) (Nat.le_refl _) _ _
set_option maxHeartbeats 1000000 in
set_option maxRecDepth 100000 in
theorem sign_calls {w:World}{v:Value}{A:List Nat}(hA:Limbs w v A) (hl:A.length≤65536) (neg:Bool) :
  Calls Tryz.prog 87 #[.agg #[.bool neg,v]] w fun e w'=>e = .returned (.int .i64 (iv neg A).sign)∧Ext w w':=by
 have HL:=Hd (lmax_16 hl);obtain⟨pa,pc,rfl,-,-,-⟩:=hA.open
 obtain⟨z,hz⟩:∃ z,z=decide (val A=0):=⟨_,rfl⟩
 have HZ:=Hd hz
 have hS:(iv neg A).sign=if z then 0 else if neg then -1 else 1:=by
  rw[hz];unfold iv
  by_cases h:val A=0
  ·simp [h]
  ·simp only[h,decide_false]
   cases neg
   ·simp only[Bool.false_eq_true,if_false];exact Int.sign_eq_one_of_pos (by omega)
   ·simp only[if_true,Bool.false_eq_true,if_false];exact Int.sign_eq_neg_one_of_neg (by omega)
 have HS:=Hd hS;have y0:=(Ext.refl w).alloc (.cells #[.bool neg,.slice pa A.length pc] 34);clear hl hz hS
 go_enter Tryz.func87,Tryz.ntmps87
 go_wp2_with fail;refine (zero_bool (hA.ext y0) HL.out z HZ.out.symm).mono ?_;rintro e w0 ⟨rfl,rfl⟩
 cases z with
 | true =>
  go_wp2_with fail;go_ret;exact⟨ret_eq (int_eq (by rw[HS.out];rfl)),y0⟩
 | false =>
  cases neg with
  | true =>
   go_wp2_with fail;go_ret;exact⟨ret_eq (int_eq (by rw[HS.out];rfl)),y0⟩
  | false =>
   go_wp2_with fail;go_ret;exact⟨ret_eq (int_eq (by rw[HS.out];rfl)),y0⟩
theorem box22 {w w1:World}{a b c d:Value}{t u:TypeId}(x:Ext ((w.alloc (.cells #[a,b] t)).alloc (.cells #[c,d] u)) w1) :
  (w1.cell? ⟨w.heap.size,0,none⟩=some a∧w1.cell? ⟨w.heap.size,1,none⟩=some b)∧(w1.cell? ⟨w.heap.size+1,0,none⟩=some c∧w1.cell? ⟨w.heap.size+1,1,none⟩=some d)∧(w1.frozen? ⟨w.heap.size+1,0,none⟩=false∧w1.frozen? ⟨w.heap.size+1,1,none⟩=false):=by
 have h2:=box2 x;rw[show (w.alloc (.cells #[a,b] t)).heap.size=w.heap.size+1 by simp]at h2;have h1:=box2 (((Ext.refl (w.alloc (.cells #[a,b] t))).alloc (.cells #[c,d] u)).trans x);exact⟨⟨h1.1,h1.2.1⟩,⟨h2.1,h2.2.1⟩,h2.2.2⟩
def cmpI (x y:Int):Int:=if x<y then -1 else if y<x then 1 else 0
theorem cmp_sign (n1 n2:Bool) (A B:List Nat):(iv n1 A).sign<(iv n2 B).sign∧cmpI (iv n1 A) (iv n2 B) = -1∨(iv n2 B).sign<(iv n1 A).sign∧cmpI (iv n1 A) (iv n2 B)=1 ∨
  ¬ (iv n1 A).sign<(iv n2 B).sign ∧ ¬ (iv n2 B).sign<(iv n1 A).sign∧cmpI (iv n1 A) (iv n2 B)=(iv n1 A).sign*cmpN (val A) (val B):=by
 obtain⟨x,hx⟩:∃ x,x=iv n1 A:=⟨_,rfl⟩
 obtain⟨y,hy⟩:∃ y,y=iv n2 B:=⟨_,rfl⟩
 have ha:val A=x.natAbs:=by rw[hx,iv_abs]
 have hb:val B=y.natAbs:=by rw[hy,iv_abs]
 rw[←hx,←hy,ha,hb]
 have sx:x.sign=if x<0 then -1 else if 0<x then 1 else 0:=by
  rcases Int.lt_trichotomy x 0 with h | h | h
  ·rw[if_pos h,Int.sign_eq_neg_one_of_neg h]
  ·subst h;rfl
  ·rw[if_neg (by omega),if_pos h,Int.sign_eq_one_of_pos h]
 have sy:y.sign=if y<0 then -1 else if 0<y then 1 else 0:=by
  rcases Int.lt_trichotomy y 0 with h | h | h
  ·rw[if_pos h,Int.sign_eq_neg_one_of_neg h]
  ·subst h;rfl
  ·rw[if_neg (by omega),if_pos h,Int.sign_eq_one_of_pos h]
 rw[sx,sy];unfold cmpI cmpN
 rcases Int.lt_trichotomy x 0 with h | h | h <;> rcases Int.lt_trichotomy y 0 with k | k | k
 all_goals (repeat' split) <;> omega
set_option maxHeartbeats 2000000 in
set_option maxRecDepth 100000 in
theorem icmp_calls {w:World}{v u:Value}{A B:List Nat}(hA:Limbs w v A) (hB:Limbs w u B) (hl:A.length≤65536) (hl2:B.length≤65536) (n1 n2:Bool) :
  Calls Tryz.prog 77 #[.agg #[.bool n1,v],.agg #[.bool n2,u]] w fun e w'=>e = .returned (.int .i64 (cmpI (iv n1 A) (iv n2 B)))∧Ext w w':=by
 obtain⟨pa,pc,rfl,-,-,-⟩:=hA.open;obtain⟨qa,qc,rfl,-,-,-⟩:=hB.open;have hcs:=cmp_sign n1 n2 A B
 obtain⟨a,ha⟩:∃ a,a=(iv n1 A).sign:=⟨_,rfl⟩
 obtain⟨b,hb⟩:∃ b,b=(iv n2 B).sign:=⟨_,rfl⟩
 obtain⟨c,hc⟩:∃ c,c=cmpN (val A) (val B):=⟨_,rfl⟩
 rw[←ha,←hb,←hc]at hcs
 have ba:-1≤a∧a≤1:=by rw[ha];rcases Int.lt_trichotomy (iv n1 A) 0 with h | h | h;(rw[Int.sign_eq_neg_one_of_neg h];decide);(rw[h];decide);(rw[Int.sign_eq_one_of_pos h];decide)
 have bc:-1≤c∧c≤1:=by rw[hc];unfold cmpN;split;decide;split <;> decide
 have HA:=Hd ha;have HB:=Hd hb;have HC:=Hd hc;have L1:=Hd hl;have L2:=Hd hl2;have y0:=((Ext.refl w).alloc (.cells #[.bool n1,.slice pa A.length pc] 34)).alloc (.cells #[.bool n2,.slice qa B.length qc] 34);have bx:=box22 (Ext.refl ((w.alloc (.cells #[.bool n1,.slice pa A.length pc] 34)).alloc (.cells #[.bool n2,.slice qa B.length qc] 34)))
 obtain⟨W0,hW0⟩:∃ W0,W0=((w.alloc (.cells #[.bool n1,.slice pa A.length pc] 34)).alloc (.cells #[.bool n2,.slice qa B.length qc] 34)):=⟨_,rfl⟩
 clear hl hl2 ha hb hc
 go_enter Tryz.func77,Tryz.ntmps77
 go_wp2_with fail;rw[←hW0]at y0 bx ⊢
 have hs0:w.heap.size+1<W0.heap.size:=by rw[hW0];simp
 clear hW0;obtain⟨⟨c1,c2⟩,⟨c3,c4⟩,-⟩:=bx
 go_region_held3 (fun W=>W.cell? ⟨w.heap.size,0,none⟩=some (.bool n1)∧W.cell? ⟨w.heap.size,1,none⟩=some (.slice pa A.length pc)∧W.cell? ⟨w.heap.size+1,0,none⟩=some (.bool n2)∧W.cell? ⟨w.heap.size+1,1,none⟩=some (.slice qa B.length qc)) (go_keep)
  (first
   | (go_at_call_of 87 (Value.slice pa A.length pc);refine (sign_calls (hA.ext y0.drew) L1.out n1).mono ?_;rintro e w7 ⟨rfl,x7⟩;have k1:=cell_ext (((Ext.refl W0).drew).trans x7) c1 (by show w.heap.size<_;omega);have k2:=cell_ext (((Ext.refl W0).drew).trans x7) c2 (by show w.heap.size<_;omega);have k3:=cell_ext (((Ext.refl W0).drew).trans x7) c3 hs0;have k4:=cell_ext (((Ext.refl W0).drew).trans x7) c4 hs0)
   | (go_at_call_of 87 (Value.slice qa B.length qc);refine (sign_calls ((hB.ext y0.drew).ext x7) L2.out n2).mono ?_;rintro e w8 ⟨rfl,x8⟩;have j1:=cell_ext x8 k1 (by have:=x7.size;show w.heap.size<_;simp at this;omega);have j2:=cell_ext x8 k2 (by have:=x7.size;show w.heap.size<_;simp at this;omega);have j3:=cell_ext x8 k3 (by have:=x7.size;show w.heap.size+1<_;simp at this;omega);have j4:=cell_ext x8 k4 (by have:=x7.size;show w.heap.size+1<_;simp at this;omega)))
 rw[←HA.out,←HB.out];have X:=(y0.drew.trans x7).trans x8
 have p1:-1≤a*c∧a*c≤1:=by
  have:a = -1∨a=0∨a=1:=by omega
  rcases this with h | h | h <;> rw[h] <;> omega
 obtain⟨p1,p2⟩:=p1
 rcases hcs with⟨h1,h2⟩ | ⟨h1,h2⟩ | ⟨h1,h3,h2⟩
 ·have H2:=Hd h2;clear h2 ba bc;go_wp2_with fail;go_ret;exact⟨ret_eq (int_eq (by rw[H2.out])),X⟩
 ·have H2:=Hd h2
  have h4:¬ a<b:=by omega
  clear h2 ba bc;go_wp2_with fail;go_ret;exact⟨ret_eq (int_eq (by rw[H2.out])),X⟩
 ·have H2:=Hd h2
  have h4:¬ a<b:=by omega
  have h5:¬ b<a:=by omega
  clear h2 ba bc h1 h3;go_wp2_with fail;refine (cmp_int (hA.ext X) (hB.ext X) (lmax_16 L1.out) (lmax_16 L2.out) c HC.out.symm).mono ?_;rintro e w9 ⟨rfl,rfl⟩;go_wp2_with fail;go_ret;exact⟨ret_eq (int_eq (by rw[H2.out])),X⟩
end Go.Proofs.YtfofjalebhajhaaGreatDoor
namespace Go.Proofs.YtfofjalebhajhaaGreatDoor
open Go Go.RowKit
theorem lmax_lt {n:Nat}(h:n≤65536):n<Lmax:=by rw[Lmax_def];omega
theorem ways_calls (w:World):Calls Tryz.prog 102 #[] w fun e w'=>e = .returned (.slice (some ⟨w.heap.size,0,none⟩) 3 3) ∧
  w.alloc (.cells #[.func (.func 123) #[] #[],.func (.func 124) #[] #[],.func (.func 126) #[] #[],.func (.func 127) #[] #[],.func (.func 129) #[] #[],.func (.func 130) #[] #[]] 140)=w':=by
 go_enter Tryz.func102,Tryz.ntmps102
 go_wp2_with fail;go_ret;exact⟨rfl,rfl⟩
theorem way1_calls {w:World}(n1 n2:Bool) (v u:Value) :
  Calls Tryz.prog 123 #[.agg #[.bool n1,v],.agg #[.bool n2,u]] w fun e w'=>e = .returned (.bool (n1 == n2))∧Ext w w':=by
 have y0:=((Ext.refl w).alloc (.cells #[.bool n1,v] 34)).alloc (.cells #[.bool n2,u] 34)
 go_enter Tryz.func123,Tryz.ntmps123
 go_wp2_with fail;go_ret;exact⟨rfl,y0⟩
def RetW (w:World) (b:Bool) (n:Nat) (e:Ending) (w':World):Prop:=∃ v,e = .returned (.tuple #[.bool b,v])∧OwnL w.heap.size w' v (dig n)∧Ext w w'
set_option maxHeartbeats 1000000 in
set_option maxRecDepth 100000 in
theorem way2_calls {w:World}{v u:Value}{A B:List Nat}(hA:Limbs w v A) (hB:Limbs w u B) (hl:A.length≤65536) (hl2:B.length≤65536) (n1 n2:Bool) :
  Calls Tryz.prog 124 #[.agg #[.bool n1,v],.agg #[.bool n2,u]] w (RetW w n1 (val A+val B)):=by
 obtain⟨pa,pc,rfl,-,-,-⟩:=hA.open;obtain⟨qa,qc,rfl,-,-,-⟩:=hB.open;have L1:=Hd (lmax_lt hl);have L2:=Hd (lmax_lt hl2);have y0:=((Ext.refl w).alloc (.cells #[.bool n1,.slice pa A.length pc] 34)).alloc (.cells #[.bool n2,.slice qa B.length qc] 34);have bx:=box22 (Ext.refl ((w.alloc (.cells #[.bool n1,.slice pa A.length pc] 34)).alloc (.cells #[.bool n2,.slice qa B.length qc] 34)))
 obtain⟨W0,hW0⟩:∃ W0,W0=((w.alloc (.cells #[.bool n1,.slice pa A.length pc] 34)).alloc (.cells #[.bool n2,.slice qa B.length qc] 34)):=⟨_,rfl⟩
 clear hl hl2
 go_enter Tryz.func124,Tryz.ntmps124
 go_wp2_with fail;rw[←hW0]at y0 bx ⊢
 have hs0:w.heap.size+1<W0.heap.size:=by rw[hW0];simp
 clear hW0;obtain⟨⟨c1,c2⟩,⟨c3,c4⟩,-⟩:=bx
 go_region_held3 (fun W=>W.cell? ⟨w.heap.size,0,none⟩=some (.bool n1)∧W.cell? ⟨w.heap.size,1,none⟩=some (.slice pa A.length pc)∧W.cell? ⟨w.heap.size+1,1,none⟩=some (.slice qa B.length qc)) (go_keep)
  (first
   | (go_at_call_of 125 (Value.slice pa A.length pc);refine (natadd_calls (hA.ext y0.drew) (hB.ext y0.drew) L1.out L2.out).mono ?_;rintro e w7 ⟨r,rfl,hr,x7⟩;have k1:=cell_ext (((Ext.refl W0).drew).trans x7) c1 (by show w.heap.size<_;omega);have k2:=cell_ext (((Ext.refl W0).drew).trans x7) c2 (by show w.heap.size<_;omega);have k4:=cell_ext (((Ext.refl W0).drew).trans x7) c4 hs0))
 go_wp2_with fail;go_ret2;exact⟨r,rfl,hr.mono (by have:=y0.size;simp;omega),y0.drew.trans x7⟩
set_option maxHeartbeats 1000000 in
set_option maxRecDepth 100000 in
theorem way3_calls {w:World}{v u:Value}{A B:List Nat}(hA:Limbs w v A) (hB:Limbs w u B) (hl:A.length≤65536) (hl2:B.length≤65536) (n1 n2:Bool) :
  Calls Tryz.prog 126 #[.agg #[.bool n1,v],.agg #[.bool n2,u]] w fun e w'=>e = .returned (.bool (decide (val B≤val A)))∧Ext w w':=by
 obtain⟨pa,pc,rfl,-,-,-⟩:=hA.open;obtain⟨qa,qc,rfl,-,-,-⟩:=hB.open;have L1:=Hd (lmax_16 hl);have L2:=Hd (lmax_16 hl2)
 obtain⟨c,hc⟩:∃ c,c=cmpN (val A) (val B):=⟨_,rfl⟩
 have HC:=Hd hc
 have HD:Hid (decide (val B≤val A)=decide (0≤c)):=by
  show _=_
  rw[hc];unfold cmpN;rw[Bool.eq_iff_iff,decide_eq_true_eq,decide_eq_true_eq];split;omega;split <;> omega
 have y0:=((Ext.refl w).alloc (.cells #[.bool n1,.slice pa A.length pc] 34)).alloc (.cells #[.bool n2,.slice qa B.length qc] 34);clear hl hl2 hc
 go_enter Tryz.func126,Tryz.ntmps126
 go_wp2_with fail;refine (cmp_int (hA.ext y0) (hB.ext y0) L1.out L2.out c HC.out.symm).mono ?_;rintro e w9 ⟨rfl,rfl⟩;go_wp2_with fail;go_ret;exact⟨by rw[HD.out];rfl,y0⟩
set_option maxHeartbeats 1000000 in
set_option maxRecDepth 100000 in
theorem way4_calls {w:World}{v u:Value}{A B:List Nat}(hA:Limbs w v A) (hB:Limbs w u B) (hl:A.length≤65536) (hl2:B.length≤65536) (h:val B≤val A) (n1 n2:Bool) :
  Calls Tryz.prog 127 #[.agg #[.bool n1,v],.agg #[.bool n2,u]] w (RetW w n1 (val A - val B)):=by
 obtain⟨pa,pc,rfl,-,-,-⟩:=hA.open;obtain⟨qa,qc,rfl,-,-,-⟩:=hB.open;have L1:=Hd (lmax_lt hl);have L2:=Hd (lmax_lt hl2);have H:=Hd h;have y0:=((Ext.refl w).alloc (.cells #[.bool n1,.slice pa A.length pc] 34)).alloc (.cells #[.bool n2,.slice qa B.length qc] 34);clear hl hl2 h
 go_enter Tryz.func127,Tryz.ntmps127
 go_wp2_with fail;refine (sub_ok (hA.ext y0) (hB.ext y0) L1.out L2.out H.out).mono ?_;rintro e w1 ⟨r,rfl,hr,x1⟩;obtain⟨⟨c1,c2⟩,⟨c3,c4⟩,-⟩:=box22 x1;go_wp2_with fail;go_ret2;exact⟨r,rfl,hr.mono (by have:=y0.size;omega),y0.trans x1⟩
theorem way5_calls {w:World}(n1 n2:Bool) (v u:Value) :
  Calls Tryz.prog 129 #[.agg #[.bool n1,v],.agg #[.bool n2,u]] w fun e w'=>e = .returned (.bool true)∧Ext w w':=by
 have y0:=((Ext.refl w).alloc (.cells #[.bool n1,v] 34)).alloc (.cells #[.bool n2,u] 34)
 go_enter Tryz.func129,Tryz.ntmps129
 go_wp2_with fail;go_ret;exact⟨rfl,y0⟩
set_option maxHeartbeats 1000000 in
set_option maxRecDepth 100000 in
theorem way6_calls {w:World}{v u:Value}{A B:List Nat}(hA:Limbs w v A) (hB:Limbs w u B) (hl:A.length≤65536) (hl2:B.length≤65536) (h:val A≤val B) (n1 n2:Bool) :
  Calls Tryz.prog 130 #[.agg #[.bool n1,v],.agg #[.bool n2,u]] w (RetW w n2 (val B - val A)):=by
 obtain⟨pa,pc,rfl,-,-,-⟩:=hA.open;obtain⟨qa,qc,rfl,-,-,-⟩:=hB.open;have L1:=Hd (lmax_lt hl);have L2:=Hd (lmax_lt hl2);have H:=Hd h;have y0:=((Ext.refl w).alloc (.cells #[.bool n1,.slice pa A.length pc] 34)).alloc (.cells #[.bool n2,.slice qa B.length qc] 34);clear hl hl2 h
 go_enter Tryz.func130,Tryz.ntmps130
 go_wp2_with fail;refine (sub_ok (hB.ext y0) (hA.ext y0) L2.out L1.out H.out).mono ?_;rintro e w1 ⟨r,rfl,hr,x1⟩;obtain⟨⟨c1,c2⟩,⟨c3,c4⟩,-⟩:=box22 x1;go_wp2_with fail;go_ret2;exact⟨r,rfl,hr.mono (by have:=y0.size;omega),y0.trans x1⟩
theorem sum_iv (n1 n2:Bool) (A B:List Nat):iv n1 A+iv n2 B=if n1 == n2 then iv n1 (dig (val A+val B)) else if val B≤val A then iv n1 (dig (val A - val B)) else iv n2 (dig (val B - val A)):=by
 unfold iv;simp only[val_dig]
 cases n1 <;> cases n2 <;> simp <;> first | omega | (split <;> omega)
@[go_sem] theorem run_store_func {P:Program}{w:World}(a:Addr) (m:Mode) (f:Fn) (x:Array Value) (c:Array Value):(store a (.func f x c) m).run P w=stored P w a (.func f x c) m:=run_store P w a _ m rfl
theorem len_add {A B:List Nat}(hA:∀ x∈A,x<Bs) (hB:∀ x∈B,x<Bs) (h1:A.length≤65535) (h2:B.length≤65535):(dig (val A+val B)).length≤65536:=by
 obtain⟨k,hk1,hk2,hk3⟩:∃ k,A.length≤k∧B.length≤k∧k≤65535:=⟨max A.length B.length,by omega,by omega,by omega⟩
 have a:=Nat.lt_of_lt_of_le (val_lt hA) (Nat.pow_le_pow_right Bs_pos hk1);have b:=Nat.lt_of_lt_of_le (val_lt hB) (Nat.pow_le_pow_right Bs_pos hk2)
 have c:2*Bs^k≤Bs^(k+1):=by rw[Nat.pow_succ,Nat.mul_comm (Bs^k)];exact Nat.mul_le_mul_right _ two_le_Bs
 exact dig_lmax (k:=k+1) (by generalize Bs^k=X at *;generalize Bs^(k+1)=Y at *;omega) (by omega)
theorem len_sub {A:List Nat}(hA:∀ x∈A,x<Bs) (h1:A.length≤65535) (b:Nat):(dig (val A - b)).length≤65536 :=
 dig_lmax (k:=A.length) (Nat.lt_of_le_of_lt (Nat.sub_le _ _) (val_lt hA)) (by omega)
def WaysAt (s:Nat) (n1 n2:Bool) (v u:Value) (W:World):Prop :=
 (W.cell? ⟨s,0,none⟩=some (.bool n1)∧W.cell? ⟨s,1,none⟩=some v)∧(W.cell? ⟨s+1,0,none⟩=some (.bool n2)∧W.cell? ⟨s+1,1,none⟩=some u) ∧
 (W.cell? ⟨s+1+1,0,none⟩=some (.bool false)∧W.cell? ⟨s+1+1,1,none⟩=some (.slice none 0 0))∧(W.frozen? ⟨s+1+1,0,none⟩=false∧W.frozen? ⟨s+1+1,1,none⟩=false) ∧
 (W.cell? ⟨s+1+1+1,0,none⟩=some (.func (.func 123) #[] #[])∧W.cell? ⟨s+1+1+1,1,none⟩=some (.func (.func 124) #[] #[])) ∧
 (W.cell? ⟨s+1+1+1,2,none⟩=some (.func (.func 126) #[] #[])∧W.cell? ⟨s+1+1+1,3,none⟩=some (.func (.func 127) #[] #[])) ∧
 (W.cell? ⟨s+1+1+1,4,none⟩=some (.func (.func 129) #[] #[])∧W.cell? ⟨s+1+1+1,5,none⟩=some (.func (.func 130) #[] #[]))∧s+1+1+1<W.heap.size
theorem WaysAt.ext {s:Nat}{n1 n2:Bool}{v u:Value}{a b:World}(h:WaysAt s n1 n2 v u a) (x:Ext a b):WaysAt s n1 n2 v u b:=by
 obtain⟨⟨a1,a2⟩,⟨b1,b2⟩,⟨c1,c2⟩,⟨d1,d2⟩,⟨e1,e2⟩,⟨f1,f2⟩,⟨g1,g2⟩,hs⟩:=h;have:=x.size;refine⟨⟨cell_ext x a1 ?_,cell_ext x a2 ?_⟩,⟨cell_ext x b1 ?_,cell_ext x b2 ?_⟩,⟨cell_ext x c1 ?_,cell_ext x c2 ?_⟩,⟨frozen_ext x d1 ?_,frozen_ext x d2 ?_⟩,⟨cell_ext x e1 ?_,cell_ext x e2 ?_⟩,⟨cell_ext x f1 ?_,cell_ext x f2 ?_⟩,⟨cell_ext x g1 ?_,cell_ext x g2 ?_⟩,?_⟩ <;> (try simp only[]) <;> omega
theorem waysAt_mk (w:World) (n1 n2:Bool) (v u:Value) (t1 t2 t3 t4:TypeId):WaysAt w.heap.size n1 n2 v u ((((w.alloc (.cells #[.bool n1,v] t1)).alloc (.cells #[.bool n2,u] t2)).alloc (.cells #[.bool false,.slice none 0 0] t3)).alloc
  (.cells #[.func (.func 123) #[] #[],.func (.func 124) #[] #[],.func (.func 126) #[] #[],.func (.func 127) #[] #[],.func (.func 129) #[] #[],.func (.func 130) #[] #[]] t4)):=by
 unfold WaysAt;simp [go_sem]
set_option maxHeartbeats 2000000 in
set_option maxRecDepth 100000 in
theorem iadd_calls {w:World}{v u:Value}{A B:List Nat}(hA:Limbs w v A) (hB:Limbs w u B) (hl:A.length≤65535) (hl2:B.length≤65535) (n1 n2:Bool) :
  Calls Tryz.prog 71 #[.agg #[.bool n1,v],.agg #[.bool n2,u]] w (RetI w (iv n1 A+iv n2 B)):=by
 obtain⟨pa,pc,rfl,-,-,-⟩:=hA.open;obtain⟨qa,qc,rfl,-,-,-⟩:=hB.open;have L1:=Hd hl;have L2:=Hd hl2;have HS:=Hd (sum_iv n1 n2 A B);have y0:=(((Ext.refl w).alloc (.cells #[.bool n1,.slice pa A.length pc] 34)).alloc (.cells #[.bool n2,.slice qa B.length qc] 34)).alloc (.cells #[.bool false,.slice none 0 0] 34);have m0:=waysAt_mk w n1 n2 (.slice pa A.length pc) (.slice qa B.length qc) 34 34 34 140;clear hl hl2
 go_enter Tryz.func71,Tryz.ntmps71
 go_wp2_with fail;refine (ways_calls _).mono ?_;rintro e w1 ⟨rfl,hw1⟩;rw[hw1]at m0
 have x1:Ext w w1:=by rw[←hw1];exact y0.alloc _
 clear hw1 y0;go_wp2_with fail
 go_loopw [9] (fun vi wr => ∃ (k:Nat),vi = .int .i64 k∧k≤2∧(1≤k→n1≠n2)∧(2≤k → ¬ val B≤val A)∧Ext w1 wr) (fun vi _=>3 - (intOf vi).toNat)
 case atStart=>exact⟨0,rfl,by omega,by omega,by omega,Ext.refl _⟩
 case round =>
  obtain⟨k,rfl,hk,h1,h2,xr⟩:=hrel;obtain⟨⟨a1,a2⟩,⟨b1,b2⟩,⟨c1,c2⟩,⟨d1,d2⟩,⟨e1,e2⟩,⟨f1,f2⟩,⟨g1,g2⟩,hs⟩:=m0.ext xr
  have hk':k=0∨k=1∨k=2:=by omega
  rcases hk' with rfl | rfl | rfl
  ·have q0:=(Ext.refl wr).alloc (.cells #[.func (.func 123) #[] #[],.func (.func 124) #[] #[]] 140);obtain⟨⟨i1,i2⟩,⟨j1,j2⟩,-⟩:=(m0.ext xr).ext q0;have H1:=Hd h1;have H2:=Hd h2;clear h1 h2;go_wp2_with fail;refine (way1_calls n1 n2 _ _).mono ?_;rintro e w2 ⟨rfl,x2⟩;obtain⟨k1,k2,-⟩:=box2 x2;obtain⟨⟨l1,l2⟩,⟨o1,o2⟩,-⟩:=(m0.ext xr).ext (q0.trans x2)
   cases hb:(n1 == n2) with
   | true =>
    have Hb:=Hd hb;clear hb;go_wp2_with fail;refine (way2_calls (hA.ext (x1.trans (xr.trans (q0.trans x2)))) (hB.ext (x1.trans (xr.trans (q0.trans x2)))) (by have:=L1.out;omega) (by have:=L2.out;omega) n1 n2).mono ?_;rintro e w3 ⟨r,rfl,hr,x3⟩;obtain⟨-,-,-,-,-,-,-,ps0⟩:=(m0.ext xr).ext (q0.trans (x2.trans x3));go_wp2_with fail;refine (make_calls hr.limbs (len_add (hA.2) (hB.2) L1.out L2.out) n1).mono ?_;rintro e w4 ⟨r4,rfl,hr4,x4⟩;obtain⟨-,-,⟨p1,p2⟩,⟨p3,p4⟩,-,-,-,ps⟩:=(m0.ext xr).ext (q0.trans (x2.trans (x3.trans x4)))
    have HV:Hid (iv n1 (dig (val A+val B))=iv n1 A+iv n2 B):=by show _=_;rw[HS.out,Hb.out];rfl
    rw[HV.out]at hr4 ⊢;obtain⟨ra,rc,rfl,-,-,-⟩:=hr4.limbs.open;go_wp2_with fail;refine bodyPost_ret (v:=.agg #[.bool (decide (iv n1 A+iv n2 B<0)),.slice ra (dig (iv n1 A+iv n2 B).natAbs).length rc]) (by simp [results,Tryz.results71,go_sem,p1,p2]) rfl (RetI.mk rfl ?_ ?_ rfl)
    ·exact (hr4.set2 (by omega) _ _).mono (by omega)
    ·exact ext_box2 (x1.trans (xr.trans (q0.trans (x2.trans (x3.trans x4))))) (by omega) _ _
   | false =>
    have Hb:=Hd hb;clear hb;go_wp2_with fail;exact⟨⟨1,rfl,by omega,fun _=>by simpa using Hb.out,by omega,xr.trans (q0.trans x2)⟩,by decide⟩
  ·have q0:=(Ext.refl wr).alloc (.cells #[.func (.func 126) #[] #[],.func (.func 127) #[] #[]] 140);obtain⟨⟨i1,i2⟩,⟨j1,j2⟩,-⟩:=(m0.ext xr).ext q0;have H1:=Hd h1;have H2:=Hd h2;clear h1 h2;go_wp2_with fail;refine (way3_calls (hA.ext (x1.trans (xr.trans q0))) (hB.ext (x1.trans (xr.trans q0))) (by have:=L1.out;omega) (by have:=L2.out;omega) n1 n2).mono ?_;rintro e w2 ⟨rfl,x2⟩;obtain⟨k1,k2,-⟩:=box2 x2;obtain⟨⟨l1,l2⟩,⟨o1,o2⟩,-⟩:=(m0.ext xr).ext (q0.trans x2)
   cases hb:(decide (val B≤val A)) with
   | true =>
    have Hb:=Hd hb;clear hb;go_wp2_with fail;refine (way4_calls (hA.ext (x1.trans (xr.trans (q0.trans x2)))) (hB.ext (x1.trans (xr.trans (q0.trans x2)))) (by have:=L1.out;omega) (by have:=L2.out;omega) (by simpa using Hb.out) n1 n2).mono ?_;rintro e w3 ⟨r,rfl,hr,x3⟩;obtain⟨-,-,-,-,-,-,-,ps0⟩:=(m0.ext xr).ext (q0.trans (x2.trans x3));go_wp2_with fail;refine (make_calls hr.limbs (len_sub (hA.2) L1.out _) n1).mono ?_;rintro e w4 ⟨r4,rfl,hr4,x4⟩;obtain⟨-,-,⟨p1,p2⟩,⟨p3,p4⟩,-,-,-,ps⟩:=(m0.ext xr).ext (q0.trans (x2.trans (x3.trans x4)))
    have HV:Hid (iv n1 (dig (val A - val B))=iv n1 A+iv n2 B):=by show _=_;rw[HS.out,if_neg (by simpa using H1.out (by omega)),if_pos (by simpa using Hb.out)]
    rw[HV.out]at hr4 ⊢;obtain⟨ra,rc,rfl,-,-,-⟩:=hr4.limbs.open;go_wp2_with fail;refine bodyPost_ret (v:=.agg #[.bool (decide (iv n1 A+iv n2 B<0)),.slice ra (dig (iv n1 A+iv n2 B).natAbs).length rc]) (by simp [results,Tryz.results71,go_sem,p1,p2]) rfl (RetI.mk rfl ?_ ?_ rfl)
    ·exact (hr4.set2 (by omega) _ _).mono (by omega)
    ·exact ext_box2 (x1.trans (xr.trans (q0.trans (x2.trans (x3.trans x4))))) (by omega) _ _
   | false =>
    have Hb:=Hd hb;clear hb;go_wp2_with fail;exact⟨⟨2,rfl,by omega,fun _=>H1.out (by omega),fun _=>by simpa using Hb.out,xr.trans (q0.trans x2)⟩,by decide⟩
  ·have q0:=(Ext.refl wr).alloc (.cells #[.func (.func 129) #[] #[],.func (.func 130) #[] #[]] 140);obtain⟨⟨i1,i2⟩,⟨j1,j2⟩,-⟩:=(m0.ext xr).ext q0;have H1:=Hd h1;have H2:=Hd h2;clear h1 h2;go_wp2_with fail;refine (way5_calls n1 n2 _ _).mono ?_;rintro e w2 ⟨rfl,x2⟩;obtain⟨k1,k2,-⟩:=box2 x2;obtain⟨⟨l1,l2⟩,⟨o1,o2⟩,-⟩:=(m0.ext xr).ext (q0.trans x2);go_wp2_with fail;refine (way6_calls (hA.ext (x1.trans (xr.trans (q0.trans x2)))) (hB.ext (x1.trans (xr.trans (q0.trans x2)))) (by have:=L1.out;omega) (by have:=L2.out;omega) (Nat.le_of_lt (Nat.lt_of_not_le (H2.out (by omega)))) n1 n2).mono ?_;rintro e w3 ⟨r,rfl,hr,x3⟩;obtain⟨-,-,-,-,-,-,-,ps0⟩:=(m0.ext xr).ext (q0.trans (x2.trans x3));go_wp2_with fail;refine (make_calls hr.limbs (len_sub (hB.2) L2.out _) n2).mono ?_;rintro e w4 ⟨r4,rfl,hr4,x4⟩;obtain⟨-,-,⟨p1,p2⟩,⟨p3,p4⟩,-,-,-,ps⟩:=(m0.ext xr).ext (q0.trans (x2.trans (x3.trans x4)))
   have HV:Hid (iv n2 (dig (val B - val A))=iv n1 A+iv n2 B):=by show _=_;rw[HS.out,if_neg (by simpa using H1.out (by omega)),if_neg (H2.out (by omega))]
   rw[HV.out]at hr4 ⊢;obtain⟨ra,rc,rfl,-,-,-⟩:=hr4.limbs.open;go_wp2_with fail;refine bodyPost_ret (v:=.agg #[.bool (decide (iv n1 A+iv n2 B<0)),.slice ra (dig (iv n1 A+iv n2 B).natAbs).length rc]) (by simp [results,Tryz.results71,go_sem,p1,p2]) rfl (RetI.mk rfl ?_ ?_ rfl)
   ·exact (hr4.set2 (by omega) _ _).mono (by omega)
   ·exact ext_box2 (x1.trans (xr.trans (q0.trans (x2.trans (x3.trans x4))))) (by omega) _ _
end Go.Proofs.YtfofjalebhajhaaGreatDoor
