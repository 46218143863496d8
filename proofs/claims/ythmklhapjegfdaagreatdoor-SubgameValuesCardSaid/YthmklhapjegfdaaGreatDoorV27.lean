/- subgame.view.moved$1: a node, moved -/
import Derived.Test.YthmklhapjegfdaaGreatDoorV14
import Derived.Test.YthmklhapjegfdaaGreatDoorV24
import Derived.Maps.OwnOps
set_option linter.all false
set_option maxRecDepth 100000
set_option maxHeartbeats 12800000
namespace Go.Proofs.YthmklhapjegfdaaGreatDoor
open Lib renaming hid → Ac
open List renaming getElem_toArray → lq1, getElem_cons_zero → lq2, getElem_cons_succ → lq3, setIfInBounds_toArray → lq4, set_cons_zero → lq5, set_cons_succ → lq6
open Go.RowKit
def AV (B E:Nat) (l:List Int) (A:Option Addr) (c:Nat) (w':World):Prop :=
 l.length≤c∧(0 < l.length→∃ b rest,A=some ⟨b,0,none⟩∧(B≤b∧b < E)∧Row w' b 3 (l.map (Value.int .i64)++rest))
theorem AV.of {B:Nat} {l:List Int} {A:Option Addr} {c:Nat} {w':World} (h:l.length≤c∧(0 < l.length→∃ b rest,A=some ⟨b,0,none⟩∧B≤b∧Row w' b 3 (l.map (Value.int .i64)++rest))):AV B w'.heap.size l A c w' :=
 ⟨h.1,fun h0=>let ⟨b,rest,e,hb,hr⟩:=h.2 h0; ⟨b,rest,e,⟨hb,hr.lt⟩,hr⟩⟩
theorem AV.on {B E:Nat} {l:List Int} {A:Option Addr} {c:Nat} {w w':World} (h:AV B E l A c w) (hs:Same (fun b=>B≤b∧b < E) w w'):AV B E l A c w' :=
 ⟨h.1,fun h0=>let ⟨b,rest,e,hb,hr⟩:=h.2 h0; ⟨b,rest,e,hb,hr.of_block (hs.block b hb hr.lt)⟩⟩
theorem AV.ints {B E:Nat} {l:List Int} {A:Option Addr} {c:Nat} {w:World} (h:AV B E l A c w):Ah w (fun b=>B≤b∧b < E) (.slice A l.length c) l:=by
 refine⟨A,c,rfl,h.1,fun h0=>?_⟩;obtain⟨b,rest,rfl,hb,hrow⟩:=h.2 h0;refine⟨b,0,rfl,hb,hrow.lt,fun k y hk=>?_⟩;unfold iE;rw[Nat.mul_one,Nat.zero_add];refine hrow.cell ?_;rw[List.getElem?_append_left (by simpa using aI hk)];simp[hk]
def qE (root:Int) (l:List Int) (j:Nat):List Int:=(l.take j).map (fun c=>c - root)++l.drop j
theorem rE (root:Int) (l:List Int) (j:Nat):(qE root l j).length=l.length:=by
 unfold qE;simp;omega
theorem ah6 {root:Int} {l:List Int} {j:Nat} {c:Int} (h:l[j]? = some c):(qE root l j)[j]? = some c:=by
 have hl:=aI h;unfold qE;rw[List.getElem?_append_right aB,List.length_map,List.length_take,Nat.min_eq_left byOmega,Nat.sub_self,List.getElem?_drop,Nat.add_zero];exact h
theorem ah7 {root:Int} {l:List Int} {j:Nat} {c:Int} (h:l[j]? = some c):(qE root l j).set j (c - root)=qE root l (j+1):=by
 have hl:=aI h;unfold qE;have hd:l.drop j=c :: l.drop (j+1):=by
  rw[List.drop_eq_getElem_cons hl];congr;exact(List.getElem?_eq_some_iff.1 h).2
 rw[List.set_append_right _ _ aB,hd,take_snoc h,List.map_append,List.length_map,List.length_take,Nat.min_eq_left byOmega,Nat.sub_self];simp
theorem ah8 (root:Int) (l:List Int):qE root l l.length=l.map (fun c=>c - root):=by
 unfold qE;simp
theorem AV.set {B E:Nat} {root:Int} {l:List Int} {j:Nat} {c0:Int} {b d:Nat} {w:World} {rest:List Value} (hd:l.length≤d) (h:l[j]? = some c0) (hb:B≤b∧b < E) (hr:Row w b 3 ((qE root l j).map (Value.int .i64)++rest)):AV B E (qE root l (j+1)) (some ⟨b,0,none⟩) d (w.setCell ⟨b,j,none⟩ (.int .i64 (c0 - root))):=by
 have hl:=aI h;refine⟨by rw[rE]; exact hd,fun _=>⟨b,rest,rfl,hb,?_⟩⟩;have:=hr.set j (.int .i64 (c0 - root));rw[List.set_append_left _ _ (by simp[rE]; exact hl),← List.map_set,ah7 h] at this;exact this
def dO (root:Int) (f:Int→Int) (x:Nd):Nd:={ x with info:=if x.kind=2 then f x.info else 0,next:=x.next.map (fun c=>c - root) }
theorem agm (w:World) (F:Ag) (i:Nat) (x:Nd) (g:Gm) (bv br bc bm n:Nat) (f:Int→Int) (root:Int) (a0 vn a2 a3 a4 a5:Value)
  (hv:Row w bv 98 [a0,vn,a2,a3,a4,a5]) (hN:AP w F vn g.nodes) (hr:Row w br 3 [.int .i64 root]) (hc:Row w bc 126 [.map (some bm)]) (hm:MapAt w bm n f) (hx:g.nodes[i]? = some x)
  (hsm:Small g) (hnx:∀ c∈x.next,0≤c∧c < 1000) (hroot:0≤root∧root < 1000) (hinfo:x.kind=2→(Lit.int .i64 x.info).wf=true) :
  Calls Tryz.prog 141 (#[.int .i64 (i:Int)] ++ #[.pointer (some ⟨bv,0,none⟩),.pointer (some ⟨br,0,none⟩),.pointer (some ⟨bc,0,none⟩)]) w
   (Ret w fun v w'=>∃ q:NV,v = .agg q.cells.toArray∧q.n=dO root f x∧q.fine w' (fun b=>w.heap.size≤b∧b < w'.heap.size)∧q.v3.oneCell'=true∧q.v4.oneCell'=true∧q.v5.oneCell'=true):=by
 obtain⟨A,c,rfl,hcn,hN⟩:=hN;have hil:=aI hx;have hn:=hsm.nodes;obtain⟨b,o,rfl,_,hb,hcell⟩:=hN byOmega;obtain⟨e0,e1,e2,⟨v3,e3,i3⟩,⟨v4,e4,i4⟩,⟨v5,e5,i5⟩⟩:=hcell i x hx;have hmm:=List.mem_of_getElem? hx;have s3:=hsm.next x hmm;have s4:=hsm.weights x hmm;have s5:=hsm.pay x hmm;have H3:=Ac i3;have H4:=Ac i4;have H5:=Ac i5;obtain⟨A3,c3,rfl,hc3,_⟩:=i3;obtain⟨A4,c4,rfl,hc4,_⟩:=i4;obtain⟨A5,c5,rfl,hc5,_⟩:=i5;have HNX:=Ac hnx;have HM:=Ac hm;have HI:=Ac hinfo;have xv:=hv.cell (i:=1) rfl;have lv:=hv.lt;have lr:=hr.lt;have lc:=hc.lt;have lm:=hm.lt;clear hcell hN hx hmm hnx hm hinfo hsm;show Calls Tryz.prog _ #[.int .i64 (i:Int),.pointer (some ⟨bv,0,none⟩),.pointer (some ⟨br,0,none⟩),.pointer (some ⟨bc,0,none⟩)] w _;go_in
 go_upto_region 2 with fail
 obtain⟨w1,hw1,hb5,hb6,hB⟩:∃ W,W=(w.alloc (.cells #[.int .i64 0,.int .i64 0,.int .i64 0,.slice none 0 0,.slice none 0 0,.slice none 0 0] 61)).alloc (.cells #[.int .i64 x.kind,.int .i64 x.aF,.int .i64 x.info,.slice A3 x.next.length c3,.slice A4 x.weights.length c4,.slice A5 x.pay.length c5] 61)∧Row W w.heap.size 61 [.int .i64 0,.int .i64 0,.int .i64 0,.slice none 0 0,.slice none 0 0,.slice none 0 0]∧Row W (w.heap.size+1) 61 [.int .i64 x.kind,.int .i64 x.aF,.int .i64 x.info,.slice A3 x.next.length c3,.slice A4 x.weights.length c4,.slice A5 x.pay.length c5]∧Below w.heap.size w W:=by
  refine⟨_,rfl,(Row.new w _ _).alloc _,?_,aY _ _ _ 0⟩;have:=Row.new (w.alloc (.cells #[.int .i64 0,.int .i64 0,.int .i64 0,.slice none 0 0,.slice none 0 0,.slice none 0 0] 61)) 61 #[.int .i64 x.kind,.int .i64 x.aF,.int .i64 x.info,.slice A3 x.next.length c3,.slice A4 x.weights.length c4,.slice A5 x.pay.length c5];simpa using this
 rw[← hw1];clear hw1 e0 e1 e2 e3 e4 e5 xv;go_cut [7] from 15 to 28 (fun v7 wx=>∃ bo B3 d3 B4 d4 B5 d5 p3 q3 p4 q4 p5 q5,v7 = .pointer (some ⟨bo,0,none⟩)∧Row wx bo 61 [.int .i64 x.kind,.int .i64 x.aF,.int .i64 0,.slice B3 x.next.length d3,.slice B4 x.weights.length d4,.slice B5 x.pay.length d5]∧AV p3 q3 x.next B3 d3 wx∧AV p4 q4 x.weights B4 d4 wx∧AV p5 q5 x.pay B5 d5 wx∧Row wx w.heap.size 61 [.int .i64 0,.int .i64 0,.int .i64 0,.slice none 0 0,.slice none 0 0,.slice none 0 0]∧Row wx (w.heap.size+1) 61 [.int .i64 x.kind,.int .i64 x.aF,.int .i64 x.info,.slice A3 x.next.length c3,.slice A4 x.weights.length c4,.slice A5 x.pay.length c5]∧Below w.heap.size w wx∧w.heap.size+1 < bo∧w.heap.size+1 < p3∧q3≤p4∧q3≤p5∧p3≤q3∧(bo < p3∨q3≤bo)∧(bo < p4∨q4≤bo)∧(bo < p5∨q5≤bo)∧q3≤wx.heap.size∧q4≤wx.heap.size∧q5≤wx.heap.size)
 case first =>
  refine bD (fun w'=>w'.cell? ⟨w.heap.size+1,0,none⟩=some (.int .i64 x.kind)∧w'.cell? ⟨w.heap.size+1,1,none⟩=some (.int .i64 x.aF)∧w'.cell? ⟨w.heap.size+1,3,none⟩=some (.slice A3 x.next.length c3)∧w'.cell? ⟨w.heap.size+1,4,none⟩=some (.slice A4 x.weights.length c4)∧w'.cell? ⟨w.heap.size+1,5,none⟩=some (.slice A5 x.pay.length c5)) 15 1 ak rfl ak ?_;have hHeld:(fun w':World=>w'.cell? ⟨w.heap.size+1,0,none⟩=some (.int .i64 x.kind)∧w'.cell? ⟨w.heap.size+1,1,none⟩=some (.int .i64 x.aF)∧w'.cell? ⟨w.heap.size+1,3,none⟩=some (.slice A3 x.next.length c3)∧w'.cell? ⟨w.heap.size+1,4,none⟩=some (.slice A4 x.weights.length c4)∧w'.cell? ⟨w.heap.size+1,5,none⟩=some (.slice A5 x.pay.length c5)) w1.drew:=⟨hb6.cell rfl,hb6.cell rfl,hb6.cell rfl,hb6.cell rfl,hb6.cell rfl⟩;refine ZB ?_;refine tkm [0,1,2,3,4,5,7,8,10,11] ?_;obtain⟨w0,hw0⟩:=named w1.drew;have akW:Row w0 _ _ _:=hw0▸hb5.drew;have hb60:Row w0 _ _ _:=hw0▸hb6.drew;have hz0:=akW;have hB0:Below w.heap.size w w0:=hw0▸hB.drew;rw[← hw0] at hHeld ⊢;clear hw0 hb5 hb6 hB akW;refine wpAnyH_ready (rs:=[6,14]) (by decide +kernel) ay ?_;refine(AllReadyH.cons (o:=_) rfl (fun K hK=>?_) (AllReadyH.cons (o:=_) rfl (fun K hK=>?_) AllReadyH.nil))
  ·go_simp;refine(clone_any w0 F _ x.next (H3.out.on (Below.same' hB0 F)) byOmega).mono ?_;rintro e w1 ⟨_,rfl,hb,A6',c6',rfl,hi⟩;have akX:=AV.of hi;clear hi;have g6:=hb60.lt;dsimp only;have sz1:=hb.size;refine zcy ?_;clear hb hK K;intro hb61 hz1 hB1 hHeld;refine wpAnyH_ready (rs:=[9,14]) (by decide +kernel) ay ?_;refine(AllReadyH.cons (o:=_) rfl (fun K hK=>?_) (AllReadyH.cons (o:=_) rfl (fun K hK=>?_) AllReadyH.nil))
   ·go_simp;refine(clone_any w1 F _ x.weights (H4.out.on (Below.same' hB1 F)) byOmega).mono ?_;rintro e w2 ⟨_,rfl,hb,A9',c9',rfl,hi⟩;have akY:=AV.of hi;clear hi;have g9:=hb61.lt;dsimp only;have acn:=akX.on (Below.same' hb _);refine YJ ?_;clear hb hK K;intro sz2 hb62 hz2 hB2 hHeld;refine wpAnyH_ready (rs:=[12,14]) (by decide +kernel) ay ?_;refine(AllReadyH.cons (o:=_) rfl (fun K hK=>?_) (AllReadyH.cons (o:=_) rfl (fun K hK=>?_) AllReadyH.nil))
    ·go_simp;refine(clone_any w2 F _ x.pay (H5.out.on (Below.same' hB2 F)) byOmega).mono ?_;rintro e w3 ⟨_,rfl,hb,Dv,agn,rfl,hi⟩;have aly:=AV.of hi;clear hi;have g12:=hb62.lt;dsimp only;have aa5:=acn.on (Below.same' hb _);have aa6:=akY.on (Below.same' hb _);refine ZW ?_;clear hb hK K;intro sz3 hb63 hz3 hB3 hHeld;refine tkm [13] ?_;refine wpAnyH_ready (rs:=[14]) (by decide +kernel) ay ?_;refine zaD ?_;intro K hK
     ·go_simp;obtain⟨w4,hw,bP,hb,hz⟩:=aT w3 61 #[.int .i64 0,.int .i64 0,.int .i64 0,.slice none 0 0,.slice none 0 0,.slice none 0 0];rw[← hw];clear hw hz;have g14:=hb63.lt;have aa7:=aa5.on (Below.same' hb _);have aa8:=aa6.on (Below.same' hb _);have wG:=aly.on (Below.same' hb _);refine ZX ?_;clear hb hK K;intro sz4 hb64 hz4 hB4 hHeld;refine ZQ ?_;intro r0 f0 r1 f1 r2 f2 r3 f3 r4 f4 r5 f5;clear hHeld;go_wp2_with fail
      refine ZM ?_;clear r0 f0 r1 f1 r2 f2 r3 f3 r4 f4 r5 f5;intro W hrw hww szw l14;go_wp2_with fail
      go_meet
      exact Zr
    ·go_simp;obtain⟨w3,hw,oW,hb,hz⟩:=aT w2 61 #[.int .i64 0,.int .i64 0,.int .i64 0,.slice none 0 0,.slice none 0 0,.slice none 0 0];rw[← hw];clear hw hz;have g14:=hb62.lt;have aa5:=acn.on (Below.same' hb _);have aa6:=akY.on (Below.same' hb _);refine ZW ?_;clear hb hK K;intro sz3 hb63 hz3 hB3 hHeld;refine zcz ?_;intro K hK
     ·go_simp;refine zb0 ?_;rintro e w4 ⟨_,rfl,hb,Dv,agn,rfl,hi⟩;have wG:=AV.of hi;clear hi;have g12:=hb63.lt;dsimp only;have aa7:=aa5.on (Below.same' hb _);have aa8:=aa6.on (Below.same' hb _);have ajD:=oW.lt;have bP:=oW.below hb oW.lt;refine ZX ?_;clear hb hK K;intro sz4 hb64 hz4 hB4 hHeld;refine tkm [13] ?_;refine ZQ ?_;intro r0 f0 r1 f1 r2 f2 r3 f3 r4 f4 r5 f5;clear hHeld;go_wp2_with fail
      refine ZM ?_;clear r0 f0 r1 f1 r2 f2 r3 f3 r4 f4 r5 f5;intro W hrw hww szw l14;go_wp2_with fail
      go_meet
      exact Zr
   ·go_simp;obtain⟨w2,hw,wH,hb,hz⟩:=aT w1 61 #[.int .i64 0,.int .i64 0,.int .i64 0,.slice none 0 0,.slice none 0 0,.slice none 0 0];rw[← hw];clear hw hz;have g14:=hb61.lt;have acn:=akX.on (Below.same' hb _);refine YJ ?_;clear hb hK K;intro sz2 hb62 hz2 hB2 hHeld;refine wpAnyH_ready (rs:=[9]) (by decide +kernel) ay ?_;refine zaD ?_;intro K hK
    ·go_simp;refine(clone_any w2 F _ x.weights (H4.out.on (Below.same' hB2 F)) byOmega).mono ?_;rintro e w3 ⟨_,rfl,hb,A9',c9',rfl,hi⟩;have aa6:=AV.of hi;clear hi;have g9:=hb62.lt;dsimp only;have aa5:=acn.on (Below.same' hb _);have al5:=wH.lt;have oW:=wH.below hb wH.lt;refine ZW ?_;clear hb hK K;intro sz3 hb63 hz3 hB3 hHeld;refine zcz ?_;intro K hK
     ·go_simp;refine zb0 ?_;rintro e w4 ⟨_,rfl,hb,Dv,agn,rfl,hi⟩;have wG:=AV.of hi;clear hi;have g12:=hb63.lt;dsimp only;have aa7:=aa5.on (Below.same' hb _);have ajD:=oW.lt;have bP:=oW.below hb oW.lt;have aa8:=aa6.on (Below.same' hb _);refine ZX ?_;clear hb hK K;intro sz4 hb64 hz4 hB4 hHeld;refine tkm [13] ?_;refine ZQ ?_;intro r0 f0 r1 f1 r2 f2 r3 f3 r4 f4 r5 f5;clear hHeld;go_wp2_with fail
      refine ZM ?_;clear r0 f0 r1 f1 r2 f2 r3 f3 r4 f4 r5 f5;intro W hrw hww szw l14;go_wp2_with fail
      go_meet
      exact Zr
  ·go_simp;obtain⟨w1,hw,agp,hb,hz⟩:=aT w0 61 #[.int .i64 0,.int .i64 0,.int .i64 0,.slice none 0 0,.slice none 0 0,.slice none 0 0];rw[← hw];clear hw hz;have g14:=hb60.lt;have sz1:=hb.size;refine zcy ?_;clear hb hK K;intro hb61 hz1 hB1 hHeld;refine wpAnyH_ready (rs:=[6]) (by decide +kernel) ay ?_;refine zaD ?_;intro K hK
   ·go_simp;refine(clone_any w1 F _ x.next (H3.out.on (Below.same' hB1 F)) byOmega).mono ?_;rintro e w2 ⟨_,rfl,hb,A6',c6',rfl,hi⟩;have acn:=AV.of hi;clear hi;have g6:=hb61.lt;dsimp only;have l14_6:=agp.lt;have wH:=agp.below hb agp.lt;refine YJ ?_;clear hb hK K;intro sz2 hb62 hz2 hB2 hHeld;refine wpAnyH_ready (rs:=[9]) (by decide +kernel) ay ?_;refine zaD ?_;intro K hK
    ·go_simp;refine(clone_any w2 F _ x.weights (H4.out.on (Below.same' hB2 F)) byOmega).mono ?_;rintro e w3 ⟨_,rfl,hb,A9',c9',rfl,hi⟩;have aa6:=AV.of hi;clear hi;have g9:=hb62.lt;dsimp only;have al5:=wH.lt;have oW:=wH.below hb wH.lt;have aa5:=acn.on (Below.same' hb _);refine ZW ?_;clear hb hK K;intro sz3 hb63 hz3 hB3 hHeld;refine zcz ?_;intro K hK
     ·go_simp;refine zb0 ?_;rintro e w4 ⟨_,rfl,hb,Dv,agn,rfl,hi⟩;have wG:=AV.of hi;clear hi;have g12:=hb63.lt;dsimp only;have ajD:=oW.lt;have bP:=oW.below hb oW.lt;have aa7:=aa5.on (Below.same' hb _);have aa8:=aa6.on (Below.same' hb _);refine ZX ?_;clear hb hK K;intro sz4 hb64 hz4 hB4 hHeld;refine tkm [13] ?_;refine ZQ ?_;intro r0 f0 r1 f1 r2 f2 r3 f3 r4 f4 r5 f5;clear hHeld;go_wp2_with fail
      refine ZM ?_;clear r0 f0 r1 f1 r2 f2 r3 f3 r4 f4 r5 f5;intro W hrw hww szw l14;go_wp2_with fail
      go_meet
      exact Zr
 case rest =>
  obtain⟨bo,B3,d3,B4,d4,B5,d5,p3,q3,p4,q4,p5,q5,rfl,hbo,hk3,hk4,hk5,hz,ajE,hB',g1,g2,g3,g4,g5,g6,g7,g8,g9,g10,g11⟩:=hcut;clear hb5 hb6 hB hv;have x3:=hbo.cell (i:=3) rfl;have lo:=hbo.lt;have hd3:=hk3.1;have HK:=Ac (And.intro hk3 (And.intro hk4 hk5));clear hk3 hk4 hk5;have HZ:=Ac (And.intro hz ajE);clear hz ajE;have HB:=Ac hB';clear hB';have HBO:=Ac hbo;clear hbo;have HRC:=Ac (And.intro hr hc);clear hr hc;have HML:=Ac (rE root x.next);obtain⟨wz,rfl⟩:∃ wz:World,wz=wc:=⟨_,rfl⟩;go_wp2_with fail
  go_loopw [8,32] (fun _ k wr=>∃ j:Nat,j≤x.next.length∧k = .int .i64 j∧Row wr bo 61 [.int .i64 x.kind,.int .i64 x.aF,.int .i64 0,.slice B3 x.next.length d3,.slice B4 x.weights.length d4,.slice B5 x.pay.length d5]∧AV p3 q3 (qE root x.next j) B3 d3 wr∧AV p4 q4 x.weights B4 d4 wr∧AV p5 q5 x.pay B5 d5 wr∧Row wr w.heap.size 61 [.int .i64 0,.int .i64 0,.int .i64 0,.slice none 0 0,.slice none 0 0,.slice none 0 0]∧Row wr (w.heap.size+1) 61 [.int .i64 x.kind,.int .i64 x.aF,.int .i64 x.info,.slice A3 x.next.length c3,.slice A4 x.weights.length c4,.slice A5 x.pay.length c5]∧Below w.heap.size w wr∧wz.heap.size≤wr.heap.size) (fun _ k _=>x.next.length - (intOf k).toNat)
  case atStart=>exact⟨0,byOmega,rfl,HBO.out,by simpa [qE] using HK.out.1,HK.out.2.1,HK.out.2.2,HZ.out.1,HZ.out.2,HB.out,Nat.le_refl _⟩
  case round =>
   clear x3;obtain⟨j,hj,rfl,hbo,hk3,hk4,hk5,hz,hb6,hB,hle⟩:=hrel;by_cases hlt:j < x.next.length
   ·obtain⟨c0,hc0⟩:=aC hlt;obtain⟨b3,rest,rfl,hb3,hrow⟩:=hk3.2 (by rw[HML.out]; omega);have x3:=hbo.cell (i:=3) rfl;have xj:=hrow.cell (i:=j) (v:=.int .i64 c0) (by rw[List.getElem?_append_left (by simp[HML.out]; exact hlt),List.getElem?_map,ah6 hc0]; rfl);have fj:=hrow.frozen j;have hrr:=HRC.out.1.below hB lr;have xr:=hrr.cell (i:=0) rfl;have l3:=hrow.lt;have lbo:=hbo.lt;have lrr:=hrr.lt;obtain⟨hc1,hc2⟩:=HNX.out c0 (List.mem_of_getElem? hc0);have Et:=Ac (And.intro hbo (And.intro hrow (And.intro hk4 (And.intro hk5 (And.intro hz (And.intro hb6 hB))))));have HC0:=Ac hc0;clear hbo hrow hk3 hk4 hk5 hz hb6 hB hrr hc0;go_upto_region 6 with fail
    refine bD (fun w'=>w'.cell? ⟨bo,3,none⟩=some (.slice (some ⟨b3,0,none⟩) x.next.length d3)∧w'.cell? ⟨b3,j,none⟩=some (.int .i64 c0)∧w'.cell? ⟨br,0,none⟩=some (.int .i64 root)) 7 2 ak rfl ak ?_;have hHeld:(fun w':World=>w'.cell? ⟨bo,3,none⟩=some (.slice (some ⟨b3,0,none⟩) x.next.length d3)∧w'.cell? ⟨b3,j,none⟩=some (.int .i64 c0)∧w'.cell? ⟨br,0,none⟩=some (.int .i64 root)) wr.drew:=⟨x3,xj,xr⟩;refine ZB ?_;refine tkm [0,1,2,3,4,5,6] ?_;refine ZA ?_;clear hHeld;go_wp2_with fail
    refine YX ?_;go_wp2_with fail
    refine zbk ?_;go_wp2_with fail
    go_roundw
    case rel =>
     obtain⟨hbo,hrow,hk4,hk5,hz,hb6,hB⟩:=Et.out;have hsame:∀ G:Ag,(∀ b,G b→b≠b3)→Same G wr (wr.setCell ⟨b3,j,none⟩ (.int .i64 (c0 - root))).drew:=fun G hG =>
      (Same.setCell G wr (p:=⟨b3,j,none⟩) (fun h=>hG _ h rfl) _).trans (Same.drewN _ _ 1)
     exact⟨j+1,byOmega,by go_num,(hbo.other aB _).drew,(AV.set hd3 HC0.out hb3 hrow).on (Same.drewN _ _ 1),hk4.on (hsame _ (fun b hb=>by omega)),hk5.on (hsame _ (fun b hb=>by omega)),(hz.other aB _).drew,(hb6.other aB _).drew,(hB.setCell aB _).drew,aB⟩
    case measure=>simp[intOf] <;> omega
   ·obtain rfl:j=x.next.length:=byOmega;rw[ah8] at hk3;have HK3:=Ac hk3;clear hk3;have HK45:=Ac (And.intro hk4 hk5);clear hk4 hk5;have hmp:=Ac (HM.out.below hB);have hcc:=HRC.out.2.below hB lc;have xc:=hcc.cell (i:=0) rfl;have lcc:=hcc.lt;have y0:=hb6.cell (i:=0) rfl;have y2:=hb6.cell (i:=2) rfl;have l6:=hb6.lt;have lbo:=hbo.lt;have lz:=hz.lt;by_cases hkd:x.kind=2
    ·have HKD:=Ac hkd;have hd:(x.kind==2)=true:=by simp[hkd]
     clear hkd;have r2:=hbo.cell (i:=2) rfl;have f2:=hbo.frozen 2;go_upto_region 10 with(at_lookup; refine acY rfl _ _ rfl bm n f rfl hmp.out x.info rfl (HI.out HKD.out) ?_)
     obtain⟨W1,hW1⟩:=named (wr.setCell ⟨bo,2,none⟩ (.int .i64 (f x.info)));rw[← hW1];have agq:Row W1 bo _ _:=hW1▸hbo.set 2 (.int .i64 (f x.info));have hz1:Row W1 w.heap.size _ _:=hW1▸hz.other (a:=⟨bo,2,none⟩) aB _;have hB1:Below w.heap.size w W1:=hW1▸hB.setCell (p:=⟨bo,2,none⟩) aB _;have hS1:∀ G:Ag,(∀ b,G b→b≠bo)→Same G wr W1:=fun G hG=>hW1▸Same.setCell G wr (p:=⟨bo,2,none⟩) (fun h=>hG _ h rfl) _
     have HS1:=Ac hS1;clear hS1;have hle1:wr.heap.size≤W1.heap.size:=by rw[hW1];simp
     clear hW1 r2 f2;have r0:=agq.cell (i:=0) rfl;have z0:=hz1.cell (i:=0) rfl;have f0:=hz1.frozen 0;have r1:=agq.cell (i:=1) rfl;have z1:=hz1.cell (i:=1) rfl;have f1:=hz1.frozen 1;have r2:=agq.cell (i:=2) rfl;have z2:=hz1.cell (i:=2) rfl;have f2:=hz1.frozen 2;have r3:=agq.cell (i:=3) rfl;have z3:=hz1.cell (i:=3) rfl;have f3:=hz1.frozen 3;have r4:=agq.cell (i:=4) rfl;have z4:=hz1.cell (i:=4) rfl;have f4:=hz1.frozen 4;have r5:=agq.cell (i:=5) rfl;have z5:=hz1.cell (i:=5) rfl;have f5:=hz1.frozen 5;have lbo1:=agq.lt;have lz1:=hz1.lt;go_wp2_with fail
     obtain⟨W,hW,hrw,hww⟩:=aaV hz1 (.int .i64 x.kind) (.int .i64 x.aF) (.int .i64 (f x.info)) (.slice B3 x.next.length d3) (.slice B4 x.weights.length d4) (.slice B5 x.pay.length d5);rw[← hW];clear hW;have t0:=hrw.cell (i:=0) rfl;have t1:=hrw.cell (i:=1) rfl;have t2:=hrw.cell (i:=2) rfl;have t3:=hrw.cell (i:=3) rfl;have t4:=hrw.cell (i:=4) rfl;have t5:=hrw.cell (i:=5) rfl;refine bodyPost_ret (v:=.agg #[.int .i64 x.kind,.int .i64 x.aF,(.int .i64 (f x.info)),.slice B3 x.next.length d3,.slice B4 x.weights.length d4,.slice B5 x.pay.length d5]) (by simp[results,Tryz.results141,go_sem,t0,t1,t2,t3,t4,t5]) rfl ?_;have hwz:=hww.size;refine⟨_,rfl,Wrote.below hB1 hww (fun k hk=>by omega) hB1.size,⟨dO root f x,.slice B3 x.next.length d3,.slice B4 x.weights.length d4,.slice B5 x.pay.length d5⟩,?_,rfl,⟨?_,?_,?_⟩,rfl,rfl,rfl⟩
     ·simp[NV.cells,dO,HKD.out]
     ·have h:=HK3.out.ints;rw[List.length_map] at h;exact(h.on (HS1.out _ (fun b hb=>by omega))).keep (fun b hb _=>by omega) (hww.same (fun b hb=>by omega))
     ·exact(HK45.out.1.ints.on (HS1.out _ (fun b hb=>by omega))).keep (fun b hb _=>by omega) (hww.same (fun b hb=>by omega))
     ·exact(HK45.out.2.ints.on (HS1.out _ (fun b hb=>by omega))).keep (fun b hb _=>by omega) (hww.same (fun b hb=>by omega))
    ·have HKD:=Ac hkd;have hd:(x.kind==2)=false:=by simp[hkd]
     clear hkd;have r0:=hbo.cell (i:=0) rfl;have z0:=hz.cell (i:=0) rfl;have f0:=hz.frozen 0;have r1:=hbo.cell (i:=1) rfl;have z1:=hz.cell (i:=1) rfl;have f1:=hz.frozen 1;have r2:=hbo.cell (i:=2) rfl;have z2:=hz.cell (i:=2) rfl;have f2:=hz.frozen 2;have r3:=hbo.cell (i:=3) rfl;have z3:=hz.cell (i:=3) rfl;have f3:=hz.frozen 3;have r4:=hbo.cell (i:=4) rfl;have z4:=hz.cell (i:=4) rfl;have f4:=hz.frozen 4;have r5:=hbo.cell (i:=5) rfl;have z5:=hz.cell (i:=5) rfl;have f5:=hz.frozen 5;go_wp2_with fail
     obtain⟨W,hW,hrw,hww⟩:=aaV hz (.int .i64 x.kind) (.int .i64 x.aF) (.int .i64 0) (.slice B3 x.next.length d3) (.slice B4 x.weights.length d4) (.slice B5 x.pay.length d5);rw[← hW];clear hW;have t0:=hrw.cell (i:=0) rfl;have t1:=hrw.cell (i:=1) rfl;have t2:=hrw.cell (i:=2) rfl;have t3:=hrw.cell (i:=3) rfl;have t4:=hrw.cell (i:=4) rfl;have t5:=hrw.cell (i:=5) rfl;refine bodyPost_ret (v:=.agg #[.int .i64 x.kind,.int .i64 x.aF,(.int .i64 0),.slice B3 x.next.length d3,.slice B4 x.weights.length d4,.slice B5 x.pay.length d5]) (by simp[results,Tryz.results141,go_sem,t0,t1,t2,t3,t4,t5]) rfl ?_;have hwz:=hww.size;refine⟨_,rfl,Wrote.below hB hww (fun k hk=>by omega) hB.size,⟨dO root f x,.slice B3 x.next.length d3,.slice B4 x.weights.length d4,.slice B5 x.pay.length d5⟩,?_,rfl,⟨?_,?_,?_⟩,rfl,rfl,rfl⟩
     ·simp[NV.cells,dO,HKD.out]
     ·have h:=HK3.out.ints;rw[List.length_map] at h;exact(h.on (Same.refl _ _)).keep (fun b hb _=>by omega) (hww.same (fun b hb=>by omega))
     ·exact(HK45.out.1.ints.on (Same.refl _ _)).keep (fun b hb _=>by omega) (hww.same (fun b hb=>by omega))
     ·exact(HK45.out.2.ints.on (Same.refl _ _)).keep (fun b hb _=>by omega) (hww.same (fun b hb=>by omega))
def CY (w':World) (F:Ag) (v:Value) (n:Nd):Prop:=∃ A3 c3 A4 c4 A5 c5,v = .agg #[.int .i64 n.kind,.int .i64 n.aF,.int .i64 n.info,.slice A3 n.next.length c3,.slice A4 n.weights.length c4,.slice A5 n.pay.length c5] ∧
 Ah w' F (.slice A3 n.next.length c3) n.next∧Ah w' F (.slice A4 n.weights.length c4) n.weights∧Ah w' F (.slice A5 n.pay.length c5) n.pay
theorem CY.of {w:World} {F:Ag} {q:NV} (h:q.fine w F):CY w F (.agg q.cells.toArray) q.n:=by
 obtain⟨n,v3,v4,v5⟩:=q;obtain⟨⟨A3,c3,e3,h3⟩,⟨A4,c4,e4,h4⟩,⟨A5,c5,e5,h5⟩⟩:=h;dsimp only at e3 e4 e5;subst e3 e4 e5;exact⟨A3,c3,A4,c4,A5,c5,rfl,⟨A3,c3,rfl,h3⟩,⟨A4,c4,rfl,h4⟩,⟨A5,c5,rfl,h5⟩⟩
def Visits (w:World) (fid:FuncId) (caps:Array Value) (N:Nat) (mv:Nat→Nd):Prop :=
 (∀ (args:Array Value) (w':World),(callFunc fid args).run Tryz.prog w' = .ok (.enter fid args) w') ∧
 ∀ (w':World) (a:Nat),Below w.heap.size w w'→a < N→Calls Tryz.prog fid (#[.int .i64 (a:Int)]++caps) w' (Ret w' fun v w''=>CY w'' (fun b=>w'.heap.size≤b∧b < w''.heap.size) v (mv a))
theorem Visits.later {w w':World} {fid:FuncId} {caps:Array Value} {N:Nat} {mv:Nat→Nd} (h:Visits w fid caps N mv) (hb:Below w.heap.size w w'):Visits w' fid caps N mv :=
 ⟨h.1,fun w'' a hb' ha=>h.2 w'' a (hb.trans (hb'.mono hb.size)) ha⟩
def nZ (nodes:List Nd):Nat→Nat→List Nat
 | 0,_=>[]
 | f+1,a=>a :: match nodes[a]? with
  | some n=>n.next.flatMap fun c=>nZ nodes f c.toNat
  | none=>[]
theorem xR {l:List Int} {F:Int→List Nat} (k:Nat):((l.take k).flatMap F).length≤(l.flatMap F).length:=by
 conv=>rhs; rw[← List.take_append_drop k l,List.flatMap_append,List.length_append]
 omega
theorem aco {l:List Int} {F:Int→List Nat} {k:Nat} {c:Int} (h:l[k]? = some c):(l.take (k+1)).flatMap F=(l.take k).flatMap F++F c:=by
 rw[take_snoc h,List.flatMap_append];simp
def Ee (B:Nat) (ns:List Nd) (v:Value) (w':World):Prop:=∃ (gg cap:Nat) (L:List NV),v = .slice (some ⟨gg,0,none⟩) L.length cap∧w'.ownsRow B 61 6 v L.length (L.flatMap NV.cells)∧L.map NV.n=ns∧(∀ q∈L,q.fine w' (fun b=>B≤b∧b < w'.heap.size∧b≠gg))∧(∀ q∈L,q.v3.oneCell'=true∧q.v4.oneCell'=true∧q.v5.oneCell'=true)
theorem ownsRow_below {w w':World} {base:Nat} {t:TypeId} {sz:Nat} {v:Value} {n:Nat} {xs:List Value} (h:w.ownsRow base t sz v n xs) (hb:Below w.heap.size w w'):w'.ownsRow base t sz v n xs :=
 ⟨h.1,h.2.imp id (fun ⟨gg,cap,cur,h1,h2,h3,h4⟩=>⟨gg,cap,cur,h1,h2,by rw[hb.block gg (Array.getElem?_eq_some_iff.1 h3).1]; exact h3,h4⟩)⟩
theorem ownsRow_base {w:World} {base base':Nat} {t:TypeId} {sz:Nat} {v:Value} {n:Nat} {xs:List Value} (h:w.ownsRow base t sz v n xs) (hb:base'≤base):w.ownsRow base' t sz v n xs :=
 ⟨h.1,h.2.imp id (fun ⟨gg,cap,cur,h1,h2,h3⟩=>⟨gg,cap,cur,h1,Nat.le_trans hb h2,h3⟩)⟩
theorem abD {w:World} {ops:Array Oper} {rest:List Oper} {o:Oper} {a:Act} {Q:Exit→Act→World→Prop} (hgd:o.guard=none) (s x:Operand)
  (ho:o.op = .call { callee:=.builtin .append,args:=#[s,x],argTypes:=#[22,22] })
  (base:Nat) (v:Value) (L:List NV) (hs:a.eval s=v) (hown:w.ownsRow base 61 6 v L.length (L.flatMap NV.cells))
  (B g2 cap2:Nat) (L2:List NV) (hx:a.eval x = .slice (some ⟨g2,0,none⟩) L2.length cap2) (hown2:w.ownsRow B 61 6 (.slice (some ⟨g2,0,none⟩) L2.length cap2) L2.length (L2.flatMap NV.cells)) (hone:∀ q∈L2,q.v3.oneCell'=true∧q.v4.oneCell'=true∧q.v5.oneCell'=true)
  (h0:0 < L2.length) (hlen:L.length≤1000000) (hlen2:L2.length≤1000000) (hbase:base≤w.heap.size)
  (h:∀ g cap w',w'.ownsRow base 61 6 (.slice (some ⟨g,0,none⟩) (L++L2).length cap) (L++L2).length ((L++L2).flatMap NV.cells)→w.grownBy w' v.ownBlock→(v.ownBlock=some g∨g=w.heap.size)→g < w'.heap.size →
   wpList Tryz.prog ops Q rest (a.put o.dst (.slice (some ⟨g,0,none⟩) (L++L2).length cap)) w') :
  wpList Tryz.prog ops Q (o :: rest) a w:=by
 obtain⟨i0,hi,hz0,hz1,hz2⟩:=info_parts Tryz.infoNode;refine wpList_append_lies w hgd s x _ ho base _ i0 _ 6 96 Tryz.underlying22 hi hz0 hz1 hz2 rfl byOmega v L.length _ hs hown ⟨g2,0,none⟩ L2.length cap2 (L2.flatMap NV.cells) hx hown2.1 (hown2.cells rfl) ?_ h0 (by unfold maxLen; omega) byOmega hbase w.heap.size rfl ?_
 ·intro u hu;obtain⟨q,hq,hu⟩:=List.mem_flatMap.1 hu;obtain⟨o3,o4,o5⟩:=hone q hq;simp only[NV.cells,List.mem_cons,List.not_mem_nil,or_false] at hu;rcases hu with rfl | rfl | rfl | rfl | rfl | rfl
  ·rfl
  ·rfl
  ·rfl
  ·exact o3
  ·exact o4
  ·exact o5
 ·intro g cap w' h1 h2 h3 h4;rw[← List.flatMap_append,← List.length_append] at h1;have:=h g cap w' h1 h2 h3 h4;rw[List.length_append] at this;exact this
theorem ah9 (g:Gm) (hsm:Small g) (akx:∀ (i:Nat) (n:Nd),g.nodes[i]? = some n→∀ c∈n.next,(i:Int) < c∧c < (g.nodes.length:Int)) (fid:FuncId) (caps:Array Value) (mv:Nat→Nd) :
  ∀ (f a:Nat) (w:World) (F:Ag) (u:Value),AB w F u g→Visits w fid caps g.nodes.length mv→g.nodes.length≤a+f→a < g.nodes.length→(nZ g.nodes f a).length≤100000 →
  Calls Tryz.prog 87 #[u,.int .i64 (a:Int),.func (.func fid) #[] caps] w (Ret w (Ee w.heap.size ((nZ g.nodes f a).map mv))):=by
 intro f;induction f with
 | zero=>intro a w F u hg hv hf ha; omega
 | succ f ih =>
  intro a w F u hg hv hf ha hlen;have HG:=Ac hg;obtain⟨vn,vi,rfl,⟨A,c,rfl,hc,hN⟩,⟨Ai,ci,rfl,hci,hI⟩⟩:=hg;clear hI;have hn:=hsm.nodes;obtain⟨b,o,rfl,hbF,hb,hcell⟩:=hN byOmega;obtain⟨x,hx⟩:=aC ha;obtain⟨v3,e3,i3⟩:=(hcell a x hx).c3;have s3:=hsm.next x (List.mem_of_getElem? hx);have HKD:=Ac (akx a x hx);obtain⟨A3,c3,rfl,hc3,h3⟩:=i3;have H3:=Ac h3;have HPR:=Ac (show nZ g.nodes (f+1) a=a :: x.next.flatMap (fun c=>nZ g.nodes f c.toNat) by rw[nZ,hx]);have IH:=Ac ih;have HL:=Ac hlen;have hcf:=hv.1;have HV:=Ac hv;clear hN hcell hx h3 ih hlen hv hsm akx;go_in;go_wp2_with fail
  obtain⟨W,hW,hbx,hWb,hWz⟩:=aT w 25 #[.int .i64 g.au,.slice (some ⟨b,o,none⟩) g.nodes.length c,.slice Ai g.infos.length ci];rw[← hW];clear hW;have HWZ:=Ac hWz;clear hWz;refine(HV.out.2 W a hWb ha).mono ?_;rintro e w1 ⟨_,rfl,hb1,B3,d3,B4,d4,B5,d5,rfl,j3,j4,j5⟩;dsimp only;have fQ:=hbx.below hb1 hbx.lt;have x1:=fQ.cell (i:=1) rfl;have lx:=fQ.lt;have hB1:Below w.heap.size w w1:=hWb.trans (hb1.mono hWb.size);have e3':=e3;rw[← aJ hB1 _ _ hb] at e3';have HJ:=Ac (And.intro j3 (And.intro j4 j5));clear j3 j4 j5;have HR1:=Ac (And.intro fQ hB1);clear fQ hB1 hbx;have hs1:W.heap.size≤w1.heap.size:=hb1.size;have HW:=Ac (And.intro hWb hb1);clear hWb hb1;have HE3:=Ac e3;clear e3;have lb1:b < w1.heap.size:=byOmega;go_wp2_with fail
  go_loopw [7,9,21] (fun vo _ i wr=>∃ (k gg cap:Nat) (L:List NV) (G:Ag),k≤x.next.length∧i = .int .i64 k∧vo = .slice (some ⟨gg,0,none⟩) L.length cap∧wr.ownsRow (w.heap.size+1) 61 6 (.slice (some ⟨gg,0,none⟩) L.length cap) L.length (L.flatMap NV.cells)∧L.map NV.n=(a :: (x.next.take k).flatMap (fun c=>nZ g.nodes f c.toNat)).map mv∧(∀ q∈L,q.fine wr G)∧(∀ b,G b→w.heap.size+1≤b∧b < wr.heap.size∧b≠gg)∧(∀ q∈L,q.v3.oneCell'=true∧q.v4.oneCell'=true∧q.v5.oneCell'=true)∧Row wr w.heap.size 25 [.int .i64 g.au,.slice (some ⟨b,o,none⟩) g.nodes.length c,.slice Ai g.infos.length ci]∧Below w.heap.size w wr∧w.heap.size+1≤wr.heap.size) (fun _ _ i _=>x.next.length - (intOf i).toNat)
  case atStart =>
   have hz:=HWZ.out;obtain⟨fQ,hB1⟩:=HR1.out;obtain⟨j3,j4,j5⟩:=HJ.out;refine⟨0,w1.heap.size,1,[⟨mv a,.slice B3 (mv a).next.length d3,.slice B4 (mv a).weights.length d4,.slice B5 (mv a).pay.length d5⟩],fun b=>W.heap.size≤b∧b < w1.heap.size,byOmega,rfl,rfl,?_,ay,?_,?_,?_,fQ.alloc _,hB1.alloc byOmega _,aB⟩
   ·exact⟨by simp[NV.cells],.inr ⟨w1.heap.size,1,_,rfl,byOmega,heap_alloc_new _ _,ay,by unfold maxLen; omega,ay,by simp[NV.cells]⟩⟩
   ·intro q hq;rw[List.mem_singleton] at hq;subst hq;exact⟨j3.on (Same.alloc _ _ _),j4.on (Same.alloc _ _ _),j5.on (Same.alloc _ _ _)⟩
   ·intro b hb;simp;omega
   ·intro q hq;rw[List.mem_singleton] at hq;subst hq;exact⟨rfl,rfl,rfl⟩
  case round =>
   obtain⟨k,gg,cap,L,G,hk,rfl,rfl,hown,hLn,hfn,hG,hone,hbx,hB,hsz⟩:=hrel;have HO:=Ac hown;clear hown;have HLN:=Ac hLn;clear hLn;have HFN:=Ac hfn;clear hfn;have HGG:=Ac hG;clear hG;have HON:=Ac hone;clear hone;have hgl:=HO.out.lt gg rfl;by_cases hlt:k < x.next.length
   ·obtain⟨b3,o3,rfl,hF3,hb3,hx3⟩:=H3.out byOmega;obtain⟨c0,hc0⟩:=aC hlt;have e0:=hx3 k c0 hc0;unfold iE at e0;rw[Nat.mul_one,← aJ hB _ _ hb3] at e0;obtain⟨hk1,hk2⟩:=HKD.out c0 (List.mem_of_getElem? hc0);obtain⟨cn,rfl⟩:=Int.eq_ofNat_of_zero_le (show 0≤c0 by omega);have HC0:=Ac hc0;clear hc0 hx3;have hlb:b3 < wr.heap.size:=by have:=hB.size;omega
    have y0:=hbx.cell (i:=0) rfl;have y1:=hbx.cell (i:=1) rfl;have y2:=hbx.cell (i:=2) rfl;have hPL:=HPR.out▸HL.out;have hl1:(nZ g.nodes f cn).length≤100000:=by
     have h1:=xR (l:=x.next) (F:=fun c=>nZ g.nodes f c.toNat) (k+1);rw[aco HC0.out,List.length_append] at h1;simp only[Int.toNat_natCast,List.length_cons] at h1 hPL;omega
    have hl2:L.length≤100000:=by
     have h1:=xR (l:=x.next) (F:=fun c=>nZ g.nodes f c.toNat) k;have h2:=congrArg List.length HLN.out;simp only[List.length_map,List.length_cons] at h2 hPL;omega
    clear hPL;have HBX:=Ac (And.intro hbx hB);clear hbx hB;go_wp2_with fail
    refine(IH.out cn wr F _ (HG.out.on (Below.same' HBX.out.2 F)) (HV.out.later HBX.out.2) byOmega byOmega hl1).mono ?_;rintro e w2 ⟨_,rfl,hb2,g2,cap2,L2,rfl,hown2,hL2,hf2,ho2⟩;dsimp only;have hs2:=hb2.size;have hne:0 < L2.length:=by
     have h2:=congrArg List.length hL2;cases f with
     | zero=>omega
     | succ f=>simp only[List.length_map,nZ,List.length_cons] at h2; omega
    have hl3:L2.length≤100000:=by
     have h2:=congrArg List.length hL2;simp only[List.length_map] at h2;omega
    have HO2:=Ac (And.intro hown2 (And.intro hL2 (And.intro hf2 (And.intro ho2 hb2))));clear hown2 hL2 hf2 ho2 hb2;have HOW:=Ac (ownsRow_below HO.out HO2.out.2.2.2.2);go_wp2_with (at_builtin; refine abD rfl _ _ rfl (w.heap.size+1) _ L rfl HOW.out wr.heap.size g2 cap2 L2 rfl HO2.out.1 HO2.out.2.2.2.1 hne byOmega byOmega byOmega ?_; intro gg' cap' w3 hown3 hgrow hat hlt3; have HO3:=Ac (And.intro hown3 (And.intro hgrow hat)); clear hown3 hgrow hat)
    go_roundw
    case rel =>
     obtain⟨hown3,hgrow,hat⟩:=HO3.out;obtain⟨hown2,hL2,hf2,ho2,hb2⟩:=HO2.out;obtain⟨hbx,hB⟩:=HBX.out;have hg3:=hgrow.size;have hbl:=hbx.lt;have hg':gg'=gg∨gg'=w2.heap.size:=hat.imp (fun e=>by cases e; rfl) id;have hgl2:=hown2.lt g2 rfl;have hblk:∀ b,b < w2.heap.size→b≠gg→w3.heap[b]? = w2.heap[b]?:=fun b hb hne=>hgrow.block b hb (fun e=>hne (by cases e; rfl))
     refine⟨k+1,gg',cap',L++L2,fun b=>(G b∧b < wr.heap.size)∨(wr.heap.size≤b∧b < w2.heap.size∧b≠g2),byOmega,by go_num,by rw[List.length_append],hown3,?_,?_,?_,?_,?_,?_,byOmega⟩
     ·rw[List.map_append,HLN.out,hL2,aco HC0.out];simp
     ·intro q hq;rcases List.mem_append.1 hq with hq | hq
      ·exact(HFN.out q hq).keep (fun b hb hl=>.inl ⟨hb,hl⟩) ((Below.same' hb2 G).trans ⟨hg3,fun b hb hl=>hblk b hl (HGG.out b hb).2.2⟩)
      ·exact(hf2 q hq).keep (fun b hb _=>.inr hb) ⟨hg3,fun b hb hl=>hblk b hl byOmega⟩
     ·intro b hb;rcases hb with⟨hb,hl⟩ | hb
      ·have:=HGG.out b hb;omega
      ·omega
     ·intro q hq;rcases List.mem_append.1 hq with hq | hq
      ·exact HON.out q hq
      ·exact ho2 q hq
     ·exact(hbx.below hb2 hbx.lt).of_block (hblk _ byOmega byOmega)
     ·exact(hB.trans (hb2.mono hB.size)).grown hgrow byOmega (fun k hk=>by cases hk; show _≤gg; omega)
    case measure=>simp[intOf] <;> omega
   ·have HT:=Ac (show x.next.take k=x.next from List.take_of_length_le byOmega);go_wp2_with fail
    go_ret;have hsz2:=hB.size;refine⟨_,rfl,hB,gg,cap,L,rfl,ownsRow_base HO.out byOmega,?_,fun q hq=>(HFN.out q hq).keep (fun b hb _=>by have:=HGG.out b hb; omega) (Same.refl _ _),HON.out⟩;rw[HLN.out,HT.out,HPR.out]
theorem ajF {nodes:List Nd} {cs:List Int} {a b:Nat} (h:Span nodes cs a b):∀ f,(cs.flatMap fun c=>nZ nodes f c.toNat).length≤b - a:=by
 induction h with
 | nil a=>intro f; simp
 | @cons a m b n cs hn h1 h2 ih1 ih2 =>
  intro f;have l1:=h1.le;have l2:=h2.le;have k2:=ih2 f;rw[List.flatMap_cons,List.length_append];cases f with
  | zero=>simp only[nZ,List.length_nil] at k2 ⊢; omega
  | succ f =>
   have k1:=ih1 f;have e:nZ nodes (f+1) a=a :: n.next.flatMap fun c=>nZ nodes f c.toNat:=by rw[nZ,hn]
   rw[Int.toNat_natCast,e,List.length_cons];omega
theorem agr {g:Gm} (hg:Good g) (f a:Nat):(nZ g.nodes f a).length≤g.nodes.length+1:=by
 by_cases ha:a < g.nodes.length
 ·obtain⟨e,hs,_,he,_⟩:=qB hg ha;have:=ajF hs f;simp at this;omega
 ·cases f with
  | zero=>simp[nZ]
  | succ f=>simp[nZ,List.getElem?_eq_none (Nat.le_of_not_lt ha)]
theorem ags {nodes:List Nd} {cs:List Int} {a b:Nat} (h:Span nodes cs a b):∀ f,nodes.length≤a+f→(cs.flatMap fun c=>nZ nodes f c.toNat)=List.range' a (b - a):=by
 induction h with
 | nil a=>intro f _; simp
 | @cons a m b n cs hn h1 h2 ih1 ih2 =>
  intro f hf;have l1:=h1.le;have l2:=h2.le;have hl:=aI hn;have k2:=ih2 f byOmega;cases f with
  | zero=>omega
  | succ f =>
   have k1:=ih1 f byOmega;rw[List.flatMap_cons,k2];have e:nZ nodes (f+1) a=a :: n.next.flatMap fun c=>nZ nodes f c.toNat:=by rw[nZ,hn]
   rw[Int.toNat_natCast,e,k1,show b - a=(m - (a+1)+1)+(b - m) by omega,← List.range'_append_1,List.range'_succ,show a+(m - (a+1)+1)=m by omega]
end Go.Proofs.YthmklhapjegfdaaGreatDoor
