/- Small functions: itself, num, over, share, sum. -/
import Derived.Test.YtfofjalebhajhaaGreatDoorMass8
namespace Go.Proofs.YtfofjalebhajhaaGreatDoor
open Go Go.RowKit
def Bk (n s:Nat) (w:World):Prop:=∃ (cur:Array Value) (t:TypeId),w.heap[s]? = some (.cells cur t (0,0))∧cur.size=n
theorem Bk.lt {n s:Nat}{w:World}(h:Bk n s w):s<w.heap.size:=by
 obtain⟨cur,t,h1,-⟩:=h;exact (Array.getElem?_eq_some_iff.1 h1).1
theorem Bk.cell {n s:Nat}{w:World}(h:Bk n s w){o:Nat}(ho:o<n):∃ u,w.cell? ⟨s,o,none⟩=some u:=by
 obtain⟨cur,t,h1,h2⟩:=h;exact⟨cur[o]'(by omega),by simp [World.cell?,h1,h2,ho]⟩
theorem Bk.free {n s:Nat}{w:World}(h:Bk n s w) (o:Nat):w.frozen? ⟨s,o,none⟩=false:=by
 obtain⟨cur,t,h1,-⟩:=h;simp [World.frozen?,h1]
theorem Bk.ext {n s:Nat}{w w':World}(h:Bk n s w) (x:Ext w w'):Bk n s w':=by
 have hl:=h.lt;obtain⟨cur,t,h1,h2⟩:=h;exact⟨cur,t,by rw[x.block s hl];exact h1,h2⟩
theorem Bk.new {w:World}{C:Array Value}{t:TypeId}:Bk C.size w.heap.size (w.alloc (.cells C t)):=⟨C,t,heap_alloc_new w _,rfl⟩
theorem Bk.new' {w:World}{C:Array Value}{t:TypeId}(n:Nat) (h:C.size=n):Bk n w.heap.size (w.alloc (.cells C t)):=h ▸ Bk.new
theorem out3 {w:World}{s:Nat}(h:Bk 3 s w) (x0 x1 x2:Value):((((w.setCell ⟨s,0,none⟩ (x0)).setCell ⟨s,1,none⟩ (x1)).setCell ⟨s,2,none⟩ (x2))).cell? ⟨s,0,none⟩=some x0∧((((w.setCell ⟨s,0,none⟩ (x0)).setCell ⟨s,1,none⟩ (x1)).setCell ⟨s,2,none⟩ (x2))).cell? ⟨s,1,none⟩=some x1∧((((w.setCell ⟨s,0,none⟩ (x0)).setCell ⟨s,1,none⟩ (x1)).setCell ⟨s,2,none⟩ (x2))).cell? ⟨s,2,none⟩=some x2:=by
 obtain⟨u0,h0⟩:=h.cell (o:=0) (by decide);obtain⟨u1,h1⟩:=h.cell (o:=1) (by decide);obtain⟨u2,h2⟩:=h.cell (o:=2) (by decide);refine⟨?_,?_,?_⟩
 ·rw[cell_set_other (.inr (by decide))];rw[cell_set_other (.inr (by decide))];refine cell_set_same (u:=u0) ?_ _;exact h0
 ·rw[cell_set_other (.inr (by decide))];refine cell_set_same (u:=u1) ?_ _;rw[cell_set_other (.inr (by decide))];exact h1
 ·refine cell_set_same (u:=u2) ?_ _;rw[cell_set_other (.inr (by decide))];rw[cell_set_other (.inr (by decide))];exact h2
theorem out6 {w:World}{s:Nat}(h:Bk 6 s w) (x0 x1 x2 x3 x4 x5:Value):(((((((w.setCell ⟨s,0,none⟩ (x0)).setCell ⟨s,1,none⟩ (x1)).setCell ⟨s,2,none⟩ (x2)).setCell ⟨s,3,none⟩ (x3)).setCell ⟨s,4,none⟩ (x4)).setCell ⟨s,5,none⟩ (x5))).cell? ⟨s,0,none⟩=some x0∧(((((((w.setCell ⟨s,0,none⟩ (x0)).setCell ⟨s,1,none⟩ (x1)).setCell ⟨s,2,none⟩ (x2)).setCell ⟨s,3,none⟩ (x3)).setCell ⟨s,4,none⟩ (x4)).setCell ⟨s,5,none⟩ (x5))).cell? ⟨s,1,none⟩=some x1∧(((((((w.setCell ⟨s,0,none⟩ (x0)).setCell ⟨s,1,none⟩ (x1)).setCell ⟨s,2,none⟩ (x2)).setCell ⟨s,3,none⟩ (x3)).setCell ⟨s,4,none⟩ (x4)).setCell ⟨s,5,none⟩ (x5))).cell? ⟨s,2,none⟩=some x2∧(((((((w.setCell ⟨s,0,none⟩ (x0)).setCell ⟨s,1,none⟩ (x1)).setCell ⟨s,2,none⟩ (x2)).setCell ⟨s,3,none⟩ (x3)).setCell ⟨s,4,none⟩ (x4)).setCell ⟨s,5,none⟩ (x5))).cell? ⟨s,3,none⟩=some x3∧(((((((w.setCell ⟨s,0,none⟩ (x0)).setCell ⟨s,1,none⟩ (x1)).setCell ⟨s,2,none⟩ (x2)).setCell ⟨s,3,none⟩ (x3)).setCell ⟨s,4,none⟩ (x4)).setCell ⟨s,5,none⟩ (x5))).cell? ⟨s,4,none⟩=some x4∧(((((((w.setCell ⟨s,0,none⟩ (x0)).setCell ⟨s,1,none⟩ (x1)).setCell ⟨s,2,none⟩ (x2)).setCell ⟨s,3,none⟩ (x3)).setCell ⟨s,4,none⟩ (x4)).setCell ⟨s,5,none⟩ (x5))).cell? ⟨s,5,none⟩=some x5:=by
 obtain⟨u0,h0⟩:=h.cell (o:=0) (by decide);obtain⟨u1,h1⟩:=h.cell (o:=1) (by decide);obtain⟨u2,h2⟩:=h.cell (o:=2) (by decide);obtain⟨u3,h3⟩:=h.cell (o:=3) (by decide);obtain⟨u4,h4⟩:=h.cell (o:=4) (by decide);obtain⟨u5,h5⟩:=h.cell (o:=5) (by decide);refine⟨?_,?_,?_,?_,?_,?_⟩
 ·rw[cell_set_other (.inr (by decide))];rw[cell_set_other (.inr (by decide))];rw[cell_set_other (.inr (by decide))];rw[cell_set_other (.inr (by decide))];rw[cell_set_other (.inr (by decide))];refine cell_set_same (u:=u0) ?_ _;exact h0
 ·rw[cell_set_other (.inr (by decide))];rw[cell_set_other (.inr (by decide))];rw[cell_set_other (.inr (by decide))];rw[cell_set_other (.inr (by decide))];refine cell_set_same (u:=u1) ?_ _;rw[cell_set_other (.inr (by decide))];exact h1
 ·rw[cell_set_other (.inr (by decide))];rw[cell_set_other (.inr (by decide))];rw[cell_set_other (.inr (by decide))];refine cell_set_same (u:=u2) ?_ _;rw[cell_set_other (.inr (by decide))];rw[cell_set_other (.inr (by decide))];exact h2
 ·rw[cell_set_other (.inr (by decide))];rw[cell_set_other (.inr (by decide))];refine cell_set_same (u:=u3) ?_ _;rw[cell_set_other (.inr (by decide))];rw[cell_set_other (.inr (by decide))];rw[cell_set_other (.inr (by decide))];exact h3
 ·rw[cell_set_other (.inr (by decide))];refine cell_set_same (u:=u4) ?_ _;rw[cell_set_other (.inr (by decide))];rw[cell_set_other (.inr (by decide))];rw[cell_set_other (.inr (by decide))];rw[cell_set_other (.inr (by decide))];exact h4
 ·refine cell_set_same (u:=u5) ?_ _;rw[cell_set_other (.inr (by decide))];rw[cell_set_other (.inr (by decide))];rw[cell_set_other (.inr (by decide))];rw[cell_set_other (.inr (by decide))];rw[cell_set_other (.inr (by decide))];exact h5
theorem ext_out3 {a w:World}{s:Nat}(h:Ext a w) (hs:a.heap.size≤s) (x0 x1 x2:Value):Ext a (((w.setCell ⟨s,0,none⟩ (x0)).setCell ⟨s,1,none⟩ (x1)).setCell ⟨s,2,none⟩ (x2)):=by
 have h0:Below a.heap.size a w:=h;exact (((h0.setCell hs _).setCell hs _).setCell hs _)
theorem ext_out6 {a w:World}{s:Nat}(h:Ext a w) (hs:a.heap.size≤s) (x0 x1 x2 x3 x4 x5:Value):Ext a ((((((w.setCell ⟨s,0,none⟩ (x0)).setCell ⟨s,1,none⟩ (x1)).setCell ⟨s,2,none⟩ (x2)).setCell ⟨s,3,none⟩ (x3)).setCell ⟨s,4,none⟩ (x4)).setCell ⟨s,5,none⟩ (x5)):=by
 have h0:Below a.heap.size a w:=h;exact ((((((h0.setCell hs _).setCell hs _).setCell hs _).setCell hs _).setCell hs _).setCell hs _)
set_option maxHeartbeats 1000000 in
set_option maxRecDepth 100000 in
theorem itself_calls {w:World}{k:Nat}{n:Int}{p:Option Addr}{x y:Nat}{s:Bool}{p1:Option Addr}{n1 c1:Nat}{p2:Option Addr}{n2 c2:Nat}:Calls Tryz.prog 60 #[.agg #[.int .u8 (k:Int),.int .i64 n,.slice p x y,.bool s,.slice p1 n1 c1,.slice p2 n2 c2]] w fun z w'=>z = .returned (.tuple #[.agg #[.int .u8 (k:Int),.int .i64 n,.slice p x y,.bool s,.slice p1 n1 c1,.slice p2 n2 c2],.bool true])∧Ext w w':=by
 go_enter Tryz.func60,Tryz.ntmps60
 go_wp2_with fail;refine bodyPost_ret (v:=.tuple #[.agg #[.int .u8 (k:Int),.int .i64 n,.slice p x y,.bool s,.slice p1 n1 c1,.slice p2 n2 c2],.bool true]) (by simp [results,Tryz.results60,go_sem]) rfl ?_;exact⟨rfl,(eR.alloc _).alloc _⟩
theorem num_calls (w:World) (n:Int):Calls Tryz.prog 22 #[.int .i64 n] w fun z w'=>z = .returned (.agg #[.int .u8 1,.int .i64 n,.slice none 0 0])∧Ext w w':=by
 go_enter Tryz.func22,Tryz.ntmps22
 go_wp2_with fail;refine bodyPost_ret (v:=.agg #[.int .u8 1,.int .i64 n,.slice none 0 0]) (by simp [results,Tryz.results22,go_sem]) rfl ?_;exact⟨rfl,eR.alloc _⟩
set_option maxHeartbeats 2000000 in
set_option maxRecDepth 100000 in
theorem over_calls (w:World) (n d:Int) (hn:-9223372036854775808≤n∧n≤9223372036854775807) (hd:-9223372036854775808≤d∧d≤9223372036854775807) (h0:d≠0){q:Rat}(hq:Rat.divInt n d=q) :
  Calls Tryz.prog 13 #[.int .i64 n,.int .i64 d] w (RetR w q):=by
 have HO:Hid (∀ W,Calls Tryz.prog 46 #[.int .i64 n,.int .i64 d] W (RetR0 W q)):=fun W=>over_is W n d hn.1 hn.2 hd.1 hd.2 h0 hq
 clear hn hd h0 hq
 go_enter Tryz.func13,Tryz.ntmps13
 go_wp2_with fail;refine (HO.out _).mono ?_;rintro e w2 ⟨sb,sv,su,sm,sd,rfl,e1,o1,x2⟩;obtain⟨sp,sl,sc,tp,tl,tc,rfl,rfl⟩:=e1.slice
 obtain⟨s0,hs0⟩:∃ s,w.heap.size=s:=⟨_,rfl⟩
 have BK:Hid (Bk 3 s0 w2):=by rw[←hs0];exact (Bk.new' 3 rfl).ext x2
 have BX:Hid (Bx 3 s0 w2):=by rw[←hs0];exact (Bx.n0 3 ⟨rfl,by decide⟩ (by decide) noI_s3).gr (Ext.gr x2)
 have E2:Hid (Ext w w2):=(eR.alloc _).trans x2;have E1:=Hd e1;have O1:=Hd o1;have HS:Hid (w.heap.size=s0):=hs0;rw[hs0];clear hs0 x2 e1 o1;have f0:=BK.out.lt;obtain⟨g0_,g0⟩:=BK.out.cell (o:=0) (by decide);have z0:=BK.out.free 0;obtain⟨g1_,g1⟩:=BK.out.cell (o:=1) (by decide);have z1:=BK.out.free 1;obtain⟨g2_,g2⟩:=BK.out.cell (o:=2) (by decide);have z2:=BK.out.free 2;go_wp2_with fail;refine bodyPost_ret (v:=.agg #[.bool sb,.slice sp sl sc,.slice tp tl tc]) (by simp [results,Tryz.results13,go_sem,g0,g1,g2,f0]) rfl ?_;have hg:Gr w2 (((w2.setCell ⟨s0,0,none⟩ (.bool sb)).setCell ⟨s0,1,none⟩ (.slice sp sl sc)).setCell ⟨s0,2,none⟩ (.slice tp tl tc)):=setRow_gr BX.out (cs:=[.bool sb,.slice sp sl sc,.slice tp tl tc]) rfl noI_s3;refine⟨_,_,_,_,_,rfl,(E1.out.gr hg).ext (eR.alloc _),((O1.out.gr hg).ext (eR.alloc _)).mono ?_,(ext_out3 E2.out (Nat.le_of_eq HS.out) _ _ _).alloc _⟩;exact (eR.alloc _).size
end Go.Proofs.YtfofjalebhajhaaGreatDoor
