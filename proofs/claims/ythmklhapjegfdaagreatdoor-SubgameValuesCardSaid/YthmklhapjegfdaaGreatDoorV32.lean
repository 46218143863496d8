/- subgame.Part's functions: Part$1, view.moved -/
import Derived.Test.YthmklhapjegfdaaGreatDoorV14
import Derived.Test.YthmklhapjegfdaaGreatDoorV24
set_option linter.all false
set_option maxRecDepth 100000
set_option maxHeartbeats 12800000
namespace Go.Proofs.YthmklhapjegfdaaGreatDoor
open Lib renaming hid → Ac
open Go.RowKit
def wJ (node y h:Int):Bool:=decide (node≤h)&&decide (h≤y)
theorem aie (w:World) (F:Ag) (bn bv:Nat) (node y x:Int) (vl:Value) (last:List Int) (hn:w.cell? ⟨bn,0,none⟩=some (.int .i64 node)) (hv:w.cell? ⟨bv,4,none⟩=some vl) (hl:Ah w F vl last) (h0:0≤node) (hy:last[node.toNat]? = some y) :
  Calls Tryz.prog 86 (#[.int .i64 x] ++ #[.pointer (some ⟨bn,0,none⟩),.pointer (some ⟨bv,0,none⟩)]) w fun e w'=>e = .returned (.bool (wJ node y x))∧∃ m,w'=w.drewN m:=by
 obtain⟨A,c,rfl,hcc,hr⟩:=hl;obtain⟨q,rfl⟩:=Int.eq_ofNat_of_zero_le h0;have hql:q < last.length:=aI hy;obtain⟨b,o,rfl,_,hb,hxx⟩:=hr byOmega;have ey:=hxx q y hy;unfold iE at ey;rw[Nat.mul_one] at ey;have HF:=Ac (show wJ (q:Int) y x=(decide ((q:Int)≤x)&&decide (x≤y)) from rfl);clear hr hxx hy h0;show Calls Tryz.prog _ #[.int .i64 x,.pointer (some ⟨bn,0,none⟩),.pointer (some ⟨bv,0,none⟩)] w _;by_cases q1:(q:Int)≤x
 ·have d1:decide (x ≥ (q:Int))=true:=decide_eq_true q1;have HQ:=Ac q1;clear q1;go_in;go_wp2
  go_ret;exact⟨by rw[HF.out]; simp[HQ.out],0,rfl⟩
 ·have d1:decide (x ≥ (q:Int))=false:=decide_eq_false q1;have HQ:=Ac q1;clear q1;go_in;go_wp2
  go_ret;exact⟨by rw[HF.out,decide_eq_false (show ¬ (q:Int)≤x by have:=HQ.out; omega)]; rfl,0,rfl⟩
theorem abG (w:World) (F:Ag) (bn bv:Nat) (node y:Int) (vl:Value) (last:List Int) (hn:w.cell? ⟨bn,0,none⟩=some (.int .i64 node)) (hbn:bn < w.heap.size) (hv:w.cell? ⟨bv,4,none⟩=some vl) (hbv:bv < w.heap.size) (hl:Ah w F vl last) (h0:0≤node) (hy:last[node.toNat]? = some y) :
  Bl w 86 #[.pointer (some ⟨bn,0,none⟩),.pointer (some ⟨bv,0,none⟩)] (fun _=>True) (wJ node y) :=
 ⟨enters Tryz.func86 (by decide +kernel) (by decide +kernel),fun w' x hb' _=>aie w' F bn bv node y x vl last (by rw[aJ hb' bn 0 hbn]; exact hn) (by rw[aJ hb' bv 4 hbv]; exact hv) (hl.on (Below.same' hb' F)) h0 hy⟩
def DC (B:Nat) (vs:List Value) (root:Int) (n:Nat) (f:Int→Int) (v:Value) (w:World):Prop :=
 ∃ bv br bc bm,v = .func (.func 141) #[] #[.pointer (some ⟨bv,0,none⟩),.pointer (some ⟨br,0,none⟩),.pointer (some ⟨bc,0,none⟩)] ∧
  Row w bv 98 vs∧Row w br 3 [.int .i64 root]∧Row w bc 126 [.map (some bm)]∧MapAt w bm n f∧B≤bv∧B≤br∧B≤bc∧B≤bm
theorem aif (w:World) (a0 a1 a2 a3 a4 a5:Value) (ho:a0.oneCell'=true∧a1.oneCell'=true∧a2.oneCell'=true∧a3.oneCell'=true∧a4.oneCell'=true∧a5.oneCell'=true) (root:Int) (b n:Nat) (f:Int→Int) (hm:MapAt w b n f) :
  Calls Tryz.prog 88 #[.agg #[a0,a1,a2,a3,a4,a5],.int .i64 root,.map (some b)] w (Ret w (DC w.heap.size [a0,a1,a2,a3,a4,a5] root n f)):=by
 have HM:=Ac hm;clear hm;go_in;go_wp2_with fail
 obtain⟨W1,e1,r1,b1,z1⟩:=aT w 98 #[a0,a1,a2,a3,a4,a5];rw[← e1];obtain⟨W2,e2,r2,b2,z2⟩:=aT W1 3 #[.int .i64 root];rw[← e2];clear e1 e2;rw[← z1] at r2 b2 z2;have hB2:Below w.heap.size w W2:=b1.trans (b2.mono byOmega);have r1':=r1.below b2 byOmega;have HM2:=Ac (HM.out.below hB2);clear r1 b1 b2 HM;have Z:=Ac (show w.heap.size+2=W2.heap.size by omega);clear z1 z2;refine(acZ W2 b n f HM2.out).mono ?_;rintro e w3 ⟨_,rfl,hb3,rfl,hm3⟩;have HM3:=Ac hm3;clear hm3;have r1'':=r1'.below hb3 r1'.lt;have r2'':=r2.below hb3 r2.lt;clear r1' r2;have hB3:Below w.heap.size w w3:=hB2.trans (hb3.mono hB2.size);have hs3:=hb3.size;clear hb3 hB2;generalize W2.heap.size=bm at *;dsimp only;have HB3:=Ac hB3;clear hB3;have R1:=Ac r1'';clear r1'';have R2:=Ac r2'';clear r2'';go_wp2
 go_ret;have hz:=Z.out;have hB:=HB3.out;exact⟨_,rfl,hB.alloc byOmega _,w.heap.size,w.heap.size+1,w3.heap.size,bm,rfl,R1.out.alloc _,R2.out.alloc _,Row.new w3 126 #[.map (some bm)],HM3.out.of_block (Below.heap_alloc _ _ _ HM3.out.lt),byOmega,byOmega,byOmega,byOmega⟩
end Go.Proofs.YthmklhapjegfdaaGreatDoor
