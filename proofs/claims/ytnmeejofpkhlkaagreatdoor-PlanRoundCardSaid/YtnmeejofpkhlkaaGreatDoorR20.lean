/- recall.walked and recall.Form -/
import Derived.Test.YtnmeejofpkhlkaaGreatDoorR09
import Derived.Test.YtnmeejofpkhlkaaGreatDoorR18
import Derived.Deep.CutRange
import Derived.Deep.AppendSrc
import Derived.Deep.LoopGhost
set_option linter.all false
set_option maxRecDepth 100000
set_option maxHeartbeats 12800000
namespace Go.Proofs.YtnmeejofpkhlkaaGreatDoor
open Lib renaming hid → Ag
open List renaming getElem_toArray → lq1, getElem_cons_zero → lq2, getElem_cons_succ → lq3, setIfInBounds_toArray → lq4, set_cons_zero → lq5, set_cons_succ → lq6
open Go.RowKit
def walkT (g:Gm):Int×Tri:=bK g.nodes (g.nodes.length+1) 0 (-1) 0 ⟨List.replicate g.nodes.length 0,List.replicate g.nodes.length 0,List.replicate g.nodes.length 0⟩
def oN (g:Gm):Int :=
 if jU g then 2 else if dG g.aA g.infos.length g.nodes≠0 then dG g.aA g.infos.length g.nodes
 else if (walkT g).1≠g.nodes.length then 9 else if 40 < maxL (walkT g).2.d then 5 else iI g
def DR (u:Value) (g:Gm) (B:Nat) (v:Value) (w':World):Prop:=∃ vp,v = .tuple #[vp,.int .i64 (oN g)] ∧
 (oN g=0→∃ p bp bd bl A c Ai ci,vp = .pointer (some ⟨p,0,none⟩)∧u = .agg #[.int .i64 g.aA,.slice A g.nodes.length c,.slice Ai g.infos.length ci]∧Bv w' p bp bd bl g.aA A g.nodes.length c Ai g.infos.length ci (walkT g).2∧B≤p∧B≤bp∧B≤bd∧B≤bl)
theorem xZ {P:Program} (w:World) {o:Oper} {a:Act} {K:Act→World→Prop} {Q:Exit→Act→World→Prop} (l c:Operand) (t:TypeId) (hop:o.op=Op.makeSlice t l c)
  (e:TypeId) (z:Value) (bytes:Nat) (ht:P.underlying t=some (.slice e)) (hinfo:(P.info? e).map (fun i=>(i.zero,i.size,i.bytes))=some (some z,1,bytes)) (hz1:z.cells = #[z])
  (n:Nat) (hl:a.eval l = .int .i64 (n:Int)) (hc:a.eval c = .int .i64 (n:Int)) (hn:n≤1000000) (hb:bytes≤1000)
  (hK:∀ w1,Below w.heap.size w w1→w1.heap.size=w.heap.size+1→Row w1 w.heap.size e (List.replicate n z)→K (a.put o.dst (.slice (some ⟨w.heap.size,0,none⟩) n n)) w1) :
  Oper.wp P o a w K Q:=by
 have hbytes:bytes*n≤281474976710656:=by
  exact zbY
 exact YG
def acO (w:World) (B x:Nat) (p:Int) (vn vi:Value):Hold :=
 ⟨fun w'=>B≤w'.heap.size∧Below x w w'∧Row w' x 27 [.int .i64 p,vn,vi]∧∃ a b c,Row w' (x+1) 208 [.int .i64 p,vn,vi,a,b,c],
  fun _ _ ⟨h1,h2,h3,a,b,c,h4⟩ hb=>⟨Nat.le_trans h1 hb.size,h2.trans (hb.mono (Nat.le_of_lt h3.lt)),h3.below hb h3.lt,a,b,c,h4.below hb h4.lt⟩⟩
def sH (x:Nat) (p:Int) (vn vi u:Value):Hold:=⟨fun w'=>∃ b c,Row w' x 208 [.int .i64 p,vn,vi,u,b,c],fun _ _ ⟨b,c,h4⟩ hb=>⟨b,c,h4.below hb h4.lt⟩⟩
def sJ (x:Nat) (p:Int) (vn vi u v:Value):Hold:=⟨fun w'=>∃ c,Row w' x 208 [.int .i64 p,vn,vi,u,v,c],fun _ _ ⟨c,h4⟩ hb=>⟨c,h4.below hb h4.lt⟩⟩
def wR (x:Nat) (p:Int) (vn vi u v z:Value):Hold:=⟨fun w'=>Row w' x 208 [.int .i64 p,vn,vi,u,v,z],fun _ _ h4 hb=>h4.below hb h4.lt⟩
def dX (B x n:Nat) (p:Int) (vn vi:Value):Says where
 uses i:=match i with | 17=>[6] | 20=>[6,10] | 23=>[6,10,14] | _=>[]
 F i l:=match i with
  | 6 | 10 | 14=>Hold.made B 3 n (List.replicate n (.int .i64 0)) (l.getD 0 undef)
  | 15 | 18 | 21=>Hold.eq (.pointer (some ⟨x,0,none⟩)) (l.getD 0 undef)
  | 16=>Hold.eq (.pointer (some ⟨x,3,none⟩)) (l.getD 0 undef)
  | 19=>Hold.eq (.pointer (some ⟨x,4,none⟩)) (l.getD 0 undef)
  | 22=>Hold.eq (.pointer (some ⟨x,5,none⟩)) (l.getD 0 undef)
  | 17=>sH x p vn vi (l.getD 1 undef)
  | 20=>sJ x p vn vi (l.getD 1 undef) (l.getD 2 undef)
  | 23=>wR x p vn vi (l.getD 1 undef) (l.getD 2 undef) (l.getD 3 undef)
  | _=>Hold.tt
 cu:=[17,20,23]
 G j l w w':=match j with
  | 17=>w'=w.setCell ⟨x,3,none⟩ (l.getD 1 undef)
  | 20=>w'=w.setCell ⟨x,4,none⟩ (l.getD 2 undef)
  | 23=>w'=w.setCell ⟨x,5,none⟩ (l.getD 3 undef)
  | _=>False
 mks:=[6,10,14]
theorem afC (B x n:Nat) (p:Int) (vn vi:Value):∀ k∈(dX B x n p vn vi).mks,∀ e w,(dX B x n p vn vi).R k e w→∀ b,wM (e k)=some b→b < w.heap.size:=by
 intro k hk e w h;simp only[dX,List.mem_cons,List.not_mem_nil,or_false] at hk;rcases hk with rfl | rfl | rfl
 ·exact acJ (show(Hold.made B 3 n (List.replicate n (.int .i64 0)) (e 6)).p w from h)
 ·exact acJ (show(Hold.made B 3 n (List.replicate n (.int .i64 0)) (e 10)).p w from h)
 ·exact acJ (show(Hold.made B 3 n (List.replicate n (.int .i64 0)) (e 14)).p w from h)
theorem abl {B x n:Nat} {p:Int} {vn vi:Value} {w0:World} (j:Nat) (hj:j∈(dX B (x+1) n p vn vi).cu) {E:List Nat} {e:Nat→Value} {w w':World} (hE:∀ k∈E,k∈[6,10,14,15,16,17,18,19,20,21,22,23]) (hnE:j ∉ E)
  (hf:∀ i∈E,(dX B (x+1) n p vn vi).R i e w) (hS:(acO w0 B x p vn vi).p w) (hx:x+1 < B) (hG:(dX B (x+1) n p vn vi).G j ((j :: (dX B (x+1) n p vn vi).uses j).map e) w w') :
  (acO w0 B x p vn vi).p w'∧∀ i∈E,(dX B (x+1) n p vn vi).R i e w':=by
 obtain⟨s1,s2,s3,a,b,c,s4⟩:=hS;obtain⟨k,u,hk,rfl,hs4,h17,h20,h23⟩:∃ k u,k=3+(j - 17) / 3∧w'=w.setCell ⟨x+1,k,none⟩ u∧(∃ a b c,Row (w.setCell ⟨x+1,k,none⟩ u) (x+1) 208 [.int .i64 p,vn,vi,a,b,c]) ∧
   (17∈E→(sH (x+1) p vn vi (e 6)).p (w.setCell ⟨x+1,k,none⟩ u))∧(20∈E→(sJ (x+1) p vn vi (e 6) (e 10)).p (w.setCell ⟨x+1,k,none⟩ u))∧(23∈E→(wR (x+1) p vn vi (e 6) (e 10) (e 14)).p (w.setCell ⟨x+1,k,none⟩ u)):=by
  have f17:17∈E→(sH (x+1) p vn vi (e 6)).p w:=hf 17;have f20:20∈E→(sJ (x+1) p vn vi (e 6) (e 10)).p w:=hf 20;have f23:23∈E→(wR (x+1) p vn vi (e 6) (e 10) (e 14)).p w:=hf 23;simp only[dX,List.mem_cons,List.not_mem_nil,or_false] at hj;rcases hj with rfl | rfl | rfl
  ·exact⟨3,e 6,rfl,hG,⟨_,_,_,s4.set 3 _⟩,fun h=>absurd h hnE,fun h=>let ⟨c,h⟩:=f20 h; ⟨c,h.set 3 _⟩,fun h=>(f23 h).set 3 _⟩
  ·exact⟨4,e 10,rfl,hG,⟨_,_,_,s4.set 4 _⟩,fun h=>let ⟨b,c,h⟩:=f17 h; ⟨_,_,h.set 4 _⟩,fun h=>absurd h hnE,fun h=>(f23 h).set 4 _⟩
  ·exact⟨5,e 14,rfl,hG,⟨_,_,_,s4.set 5 _⟩,fun h=>let ⟨b,c,h⟩:=f17 h; ⟨_,_,h.set 5 _⟩,fun h=>let ⟨c,h⟩:=f20 h; ⟨_,h.set 5 _⟩,fun h=>absurd h hnE⟩
 refine⟨⟨by simpa using s1,s2.setCell (p:=⟨x+1,k,none⟩) (Nat.le_succ x) _,s3.other (a:=⟨x+1,k,none⟩) (show x≠x+1 by omega) _,hs4⟩,fun i hi=>?_⟩;have hi':=hE i hi;simp only[List.mem_cons,List.not_mem_nil,or_false] at hi';rcases hi' with rfl | rfl | rfl | rfl | rfl | rfl | rfl | rfl | rfl | rfl | rfl | rfl
 ·exact vk hx (show(Hold.made B 3 n (List.replicate n (.int .i64 0)) (e 6)).p w from hf 6 hi)
 ·exact vk hx (show(Hold.made B 3 n (List.replicate n (.int .i64 0)) (e 10)).p w from hf 10 hi)
 ·exact vk hx (show(Hold.made B 3 n (List.replicate n (.int .i64 0)) (e 14)).p w from hf 14 hi)
 ·exact hf 15 hi
 ·exact hf 16 hi
 ·exact h17 hi
 ·exact hf 18 hi
 ·exact hf 19 hi
 ·exact h20 hi
 ·exact hf 21 hi
 ·exact hf 22 hi
 ·exact h23 hi
theorem vF (w:World) (F:Foot) (u:Value) (g:Gm) (hg:AO w F u g) (hsm:Small g) :
  Calls Tryz.prog 125 #[u] w (Ret w (DR u g w.heap.size)):=by
 have HG:=Ag hg;obtain⟨vn,vi,rfl,⟨A,c,rfl,hc,hN⟩,⟨Ai,ci,rfl,hci,hI⟩⟩:=hg;have HN:=Ag hN;have HI:=Ag hI;clear hN hI;have hn:=hsm.nodes;have hni:=hsm.infos;have HS:=Ag hsm;clear hsm;by_cases q0:g.aA < 1
 ·have HF:=Ag (show oN g=2 by unfold oN; rw[if_pos (by unfold jU; omega)]);go_in;go_wp2
  go_ret2;exact YW
 have d0:decide (g.aA < 1)=false:=decide_eq_false byOmega;by_cases q1:4 < g.aA
 ·have HF:=Ag (show oN g=2 by unfold oN; rw[if_pos (by unfold jU; omega)]);go_in;go_wp2
  go_ret2;exact YW
 have d1:decide ((4:Int) < g.aA)=false:=decide_eq_false byOmega;by_cases q2:g.nodes.length < 1
 ·have HF:=Ag (show oN g=2 by unfold oN; rw[if_pos (by unfold jU; omega)]);go_in;go_wp2
  go_ret2;exact YW
 have d2:decide ((g.nodes.length:Int) < 1)=false:=decide_eq_false byOmega;have d3:decide ((2000:Int) < (g.nodes.length:Int))=false:=decide_eq_false byOmega;have d4:decide ((200:Int) < (g.infos.length:Int))=false:=decide_eq_false byOmega;have HE:=Ag (show oN g=if dG g.aA g.infos.length g.nodes≠0 then dG g.aA g.infos.length g.nodes
   else if (walkT g).1≠g.nodes.length then 9 else if 40 < maxL (walkT g).2.d then 5 else iI g by unfold oN; rw[if_neg (by unfold jU; omega)])
 obtain⟨b,o,rfl,hbF,hb,hcell⟩:=HN.out byOmega;have HC:=Ag hcell;clear hcell;go_in;go_wp2_with fail
 go_loopw [42] (fun i wr=>∃ k:Nat,k≤g.nodes.length∧i = .int .i64 k∧Row wr w.heap.size 27 [.int .i64 g.aA,.slice (some ⟨b,o,none⟩) g.nodes.length c,.slice Ai g.infos.length ci]∧Row wr (w.heap.size+1) 208 [.int .i64 g.aA,.slice (some ⟨b,o,none⟩) g.nodes.length c,.slice Ai g.infos.length ci,.slice none 0 0,.slice none 0 0,.slice none 0 0]∧Below w.heap.size w wr∧dG g.aA g.infos.length g.nodes=dG g.aA g.infos.length (g.nodes.drop k)) (fun i _=>g.nodes.length - (intOf i).toNat)
 case atStart =>
  refine⟨0,byOmega,rfl,(Row.new w _ _).alloc _,?_,?_,rfl⟩
  ·have:=Row.new (w.alloc (.cells #[.int .i64 g.aA,.slice (some ⟨b,o,none⟩) g.nodes.length c,.slice Ai g.infos.length ci] 27)) 208 #[.int .i64 g.aA,.slice (some ⟨b,o,none⟩) g.nodes.length c,.slice Ai g.infos.length ci,.slice none 0 0,.slice none 0 0,.slice none 0 0];simpa using this
  ·exact tZ _ _ _ 0
 case round =>
  obtain⟨k,hk,rfl,hbx,hwk,hbel,hval⟩:=hrel;have HV:=Ag hval;clear hval;by_cases hlt:k < g.nodes.length
  ·obtain⟨x,hx⟩:=getSome hlt;obtain⟨e0,e1,e2,⟨v3,e3,i3⟩,⟨v4,e4,i4⟩,⟨v5,e5,i5⟩⟩:=HC.out k x hx;obtain⟨A3,c3,rfl,hc3,h3⟩:=i3;obtain⟨A4,c4,rfl,hc4,h4⟩:=i4;obtain⟨A5,c5,rfl,hc5,h5⟩:=i5;have V:=Ag (show BR w F _ x from⟨_,_,_,rfl,⟨A3,c3,rfl,hc3,h3⟩,⟨A4,c4,rfl,hc4,h4⟩,⟨A5,c5,rfl,hc5,h5⟩⟩);clear h3 h4 h5;have M:=List.mem_of_getElem? hx;have HL:=Ag (show x.next.length < 1000000∧x.weights.length < 1000000∧x.pay.length < 1000000 from⟨by have:=HS.out.next x M; omega,by have:=HS.out.weights x M; omega,by have:=HS.out.pay x M; omega⟩);clear M;have HV2:=Ag (HV.out.trans (aa7 hx));clear hx;have hold:=aQ hbel;have hwl:=hwk.lt;go_wp2_with fail
   obtain⟨W,hW,_,hWb,hWz⟩:=bH wr 127 #[.int .i64 x.kind,.int .i64 x.aC,.int .i64 x.info,.slice A3 x.next.length c3,.slice A4 x.weights.length c4,.slice A5 x.pay.length c5];rw[← hW];clear hW;have jY:=hbx.below hWb hbx.lt;have ahk:=hwk.below hWb hwk.lt;have agv:=hbel.trans (hWb.mono hbel.size);clear hbx hwk hbel hold;refine(agZ _ F (w.heap.size+1) _ g.aA g.infos.length x ⟨ahk.cell rfl,_,_,ahk.cell rfl⟩ (V.out.on (Below.same' agv F)) HL.out byOmega byOmega ahk.lt).mono ?_;rintro e w1 ⟨_,rfl,hb1,rfl⟩;have hbx2:=jY.below hb1 jY.lt;have hwk2:=ahk.below hb1 ahk.lt;have oL:=agv.trans (hb1.mono agv.size);clear jY ahk agv hb1 hWb hWz;dsimp only;generalize eH g.aA g.infos.length x=er at *;by_cases he:er=0
   ·subst he;go_wp2
    go_roundw
    case rel=>exact⟨k+1,byOmega,by go_num,hbx2,hwk2,oL,by rw[HV2.out]; simp⟩
    case measure=>simp[intOf]; omega
   ·have hd:(er != 0)=true:=by simp[he]
    have HF:=Ag (show oN g=er by rw[HE.out,HV2.out]; simp[he]);have HNZ:=Ag he;clear he;go_wp2
    go_ret2;exact⟨_,rfl,oL,.pointer none,by rw[HF.out]; rfl,by rw[HF.out]; intro h; exact absurd h HNZ.out⟩
  ·have HE2:=Ag (show oN g=if (walkT g).1≠g.nodes.length then 9 else if 40 < maxL (walkT g).2.d then 5 else iI g by
    rw[HE.out,HV.out,List.drop_eq_nil_of_le byOmega]; simp[dG])
   have HIN:=Ag (qN (g:=g) (by rw[HV.out,List.drop_eq_nil_of_le byOmega]; rfl));have hbl:=hbx.lt;have hwl:=hwk.lt;go_upto_region 11 with fail
   go_cut [] from 53 to 73 (fun wx=>∃ bp bd bl,Bv wx (w.heap.size+1) bp bd bl g.aA (some ⟨b,o,none⟩) g.nodes.length c Ai g.infos.length ci ⟨List.replicate g.nodes.length 0,List.replicate g.nodes.length 0,List.replicate g.nodes.length 0⟩∧Row wx w.heap.size 27 [.int .i64 g.aA,.slice (some ⟨b,o,none⟩) g.nodes.length c,.slice Ai g.infos.length ci]∧Below w.heap.size w wx∧w.heap.size+1 < bp∧w.heap.size+1 < bd∧w.heap.size+1 < bl∧bp≠bd∧bp≠bl∧bd≠bl)
   case first =>
    refine wp_region_held_drew (S:=fun w'=>w'.cell? ⟨w.heap.size,1,none⟩=some (.slice (some ⟨b,o,none⟩) g.nodes.length c)) ah (hbx.cell rfl) (fun hHeld=>?_);refine tkm [0,1,2,3,4,5,7,8,9,11,12,13] ?_;obtain⟨w0,hw0⟩:=named wr.drew;have hbx0:Row w0 _ _ _:=hw0▸hbx.drew;have hwk0:Row w0 _ _ _:=hw0▸hwk.drew;have hB0:Below w.heap.size w w0:=hw0▸hbel.drew;rw[← hw0] at hHeld ⊢;clear hw0 hbx hwk hbel hwl hbl;have hz0:=hwk0.lt;refine acI (js:=[6,10,14,15,16,17,18,19,20,21,22,23]) (acO w w0.heap.size w.heap.size g.aA (.slice (some ⟨b,o,none⟩) g.nodes.length c) (.slice Ai g.infos.length ci)) (dX w0.heap.size (w.heap.size+1) g.nodes.length g.aA (.slice (some ⟨b,o,none⟩) g.nodes.length c) (.slice Ai g.infos.length ci)) ah ah ⟨Nat.le_refl _,hB0,hbx0,_,_,_,hwk0⟩ (fun _ h=>h.2.2.1.cell rfl) (afC _ _ _ _ _ _) (fun j hj E e _ w' hE hu hn hf hA hS hG=>abl j hj hE hn hf hS hz0 hG) ?_;refine AY.cons (o:=_) rfl (fun wk hS hf K hK=>?_) (fun v6=>?_)
    ·exact ZT
    refine Zb ?_;refine AY.cons (o:=_) rfl (fun wk hS hf K hK=>?_) (fun v10=>?_)
    ·exact ZT
    refine Zb ?_;refine AY.cons (o:=_) rfl (fun wk hS hf K hK=>?_) (fun v14=>?_)
    ·exact ZT
    refine Zb ?_;refine AY.cons (o:=_) rfl (fun wk hS hf K hK=>?_) (fun v15=>?_)
    ·go_simp;exact YD
    refine Zb ?_;refine AY.cons (o:=_) rfl (fun wk hS hf K hK=>?_) (fun v16=>?_)
    ·have f15:Hold.p (Hold.eq (.pointer (some ⟨w.heap.size+1,0,none⟩)) v15) wk:=hf 15 aB ah;obtain rfl:v15=_:=f15;go_simp;exact YD
    refine Zb ?_;refine AY.cons (o:=_) rfl (fun wk hS hf K hK=>?_) (fun v17=>?_)
    ·have f16:Hold.p (Hold.eq (.pointer (some ⟨w.heap.size+1,3,none⟩)) v16) wk:=hf 16 aB ah;have f6:Hold.p (Hold.made w0.heap.size 3 g.nodes.length (List.replicate g.nodes.length (.int .i64 0)) v6) wk:=hf 6 aB ah;obtain rfl:v16=_:=f16;obtain⟨b6,rfl,g6,r6⟩:=f6;obtain⟨_,_,_,x,y,z,hr⟩:=hS;have yy:=hr.cell (i:=3) rfl;have ff:=hr.frozen 3;go_simp;exact hK.out undef (wk.setCell ⟨w.heap.size+1,3,none⟩ (.slice (some ⟨b6,0,none⟩) g.nodes.length g.nodes.length)) ⟨rfl,⟨_,_,hr.set 3 _⟩,fun h=>(by simp[dX] at h)⟩
    refine Zb ?_;refine AY.cons (o:=_) rfl (fun wk hS hf K hK=>?_) (fun v18=>?_)
    ·go_simp;exact YD
    refine Zb ?_;refine AY.cons (o:=_) rfl (fun wk hS hf K hK=>?_) (fun v19=>?_)
    ·have f18:Hold.p (Hold.eq (.pointer (some ⟨w.heap.size+1,0,none⟩)) v18) wk:=hf 18 aB ah;obtain rfl:v18=_:=f18;go_simp;exact YD
    refine Zb ?_;refine AY.cons (o:=_) rfl (fun wk hS hf K hK=>?_) (fun v20=>?_)
    ·have f19:Hold.p (Hold.eq (.pointer (some ⟨w.heap.size+1,4,none⟩)) v19) wk:=hf 19 aB ah;have f10:Hold.p (Hold.made w0.heap.size 3 g.nodes.length (List.replicate g.nodes.length (.int .i64 0)) v10) wk:=hf 10 aB ah;have f17:Hold.p (sH (w.heap.size+1) g.aA (.slice (some ⟨b,o,none⟩) g.nodes.length c) (.slice Ai g.infos.length ci) v6) wk:=hf 17 aB ah;obtain rfl:v19=_:=f19;obtain⟨b10,rfl,g10,r10⟩:=f10;obtain⟨y,z,hr⟩:=f17;have yy:=hr.cell (i:=4) rfl;have ff:=hr.frozen 4;go_simp;exact hK.out undef (wk.setCell ⟨w.heap.size+1,4,none⟩ (.slice (some ⟨b10,0,none⟩) g.nodes.length g.nodes.length)) ⟨rfl,⟨_,hr.set 4 _⟩,fun h=>(by simp[dX] at h)⟩
    refine Zb ?_;refine AY.cons (o:=_) rfl (fun wk hS hf K hK=>?_) (fun v21=>?_)
    ·go_simp;exact YD
    refine Zb ?_;refine AY.cons (o:=_) rfl (fun wk hS hf K hK=>?_) (fun v22=>?_)
    ·have f21:Hold.p (Hold.eq (.pointer (some ⟨w.heap.size+1,0,none⟩)) v21) wk:=hf 21 aB ah;obtain rfl:v21=_:=f21;go_simp;exact YD
    refine Zb ?_;refine AY.cons (o:=_) rfl (fun wk hS hf K hK=>?_) (fun v23=>?_)
    ·have f22:Hold.p (Hold.eq (.pointer (some ⟨w.heap.size+1,5,none⟩)) v22) wk:=hf 22 aB ah;have f14:Hold.p (Hold.made w0.heap.size 3 g.nodes.length (List.replicate g.nodes.length (.int .i64 0)) v14) wk:=hf 14 aB ah;have f20:Hold.p (sJ (w.heap.size+1) g.aA (.slice (some ⟨b,o,none⟩) g.nodes.length c) (.slice Ai g.infos.length ci) v6 v10) wk:=hf 20 aB ah;obtain rfl:v22=_:=f22;obtain⟨b14,rfl,g14,r14⟩:=f14;obtain⟨z,hr⟩:=f20;have yy:=hr.cell (i:=5) rfl;have ff:=hr.frozen 5;go_simp;exact hK.out undef (wk.setCell ⟨w.heap.size+1,5,none⟩ (.slice (some ⟨b14,0,none⟩) g.nodes.length g.nodes.length)) ⟨rfl,hr.set 5 _,fun h=>(by simp[dX] at h)⟩
    refine Zb ?_;refine AY.nil (fun wE hS hf hA=>?_);have f6:Hold.p (Hold.made w0.heap.size 3 g.nodes.length (List.replicate g.nodes.length (.int .i64 0)) v6) wE:=hf 6 aB;have f10:Hold.p (Hold.made w0.heap.size 3 g.nodes.length (List.replicate g.nodes.length (.int .i64 0)) v10) wE:=hf 10 aB;have f14:Hold.p (Hold.made w0.heap.size 3 g.nodes.length (List.replicate g.nodes.length (.int .i64 0)) v14) wE:=hf 14 aB;have f17:Hold.p (sH (w.heap.size+1) g.aA (.slice (some ⟨b,o,none⟩) g.nodes.length c) (.slice Ai g.infos.length ci) v6) wE:=hf 17 aB;have f20:Hold.p (sJ (w.heap.size+1) g.aA (.slice (some ⟨b,o,none⟩) g.nodes.length c) (.slice Ai g.infos.length ci) v6 v10) wE:=hf 20 aB;have f23:Hold.p (wR (w.heap.size+1) g.aA (.slice (some ⟨b,o,none⟩) g.nodes.length c) (.slice Ai g.infos.length ci) v6 v10 v14) wE:=hf 23 aB;obtain⟨b6,rfl,g6,r6⟩:=f6;obtain⟨b10,rfl,g10,r10⟩:=f10;obtain⟨b14,rfl,g14,r14⟩:=f14;have rw6:Row wE (w.heap.size+1) _ _:=f23;have alh:=afu hA (i:=6) (k:=10) aB aB (by simp[dX]) (by simp[dX]) ay rfl rfl;have ali:=afu hA (i:=6) (k:=14) aB aB (by simp[dX]) (by simp[dX]) ay rfl rfl;have akO:=afu hA (i:=10) (k:=14) aB aB (by simp[dX]) (by simp[dX]) ay rfl rfl;obtain⟨hzE,hBE,hbxE,_⟩:=hS;have HR:=Ag (show Bv wE (w.heap.size+1) b6 b10 b14 g.aA (some ⟨b,o,none⟩) g.nodes.length c Ai g.infos.length ci ⟨List.replicate g.nodes.length 0,List.replicate g.nodes.length 0,List.replicate g.nodes.length 0⟩ from⟨rw6,by simpa [kL] using r6,by simpa [kL] using r10,by simpa [kL] using r14⟩);have HBX:=Ag (And.intro hbxE hBE);clear hHeld hbx0 hwk0 hB0 hf hA hbxE hBE r6 r10 r14 rw6 f17 f20 f23;go_wp2_with fail
    go_meet
    exact⟨b6,b10,b14,HR.out,HBX.out.1,HBX.out.2,byOmega,byOmega,byOmega,alh,ali,akO⟩
   case rest =>
    obtain⟨bp,bd,bl,hwa,ajW,fQ,z1,z2,z3,z4,z5,z6⟩:=hcut;clear hbx hwk hbel;have hbl':=ajW.lt;have x1:=ajW.cell (i:=1) rfl;have HNO:=Ag (show Bl w F (.slice (some ⟨b,o,none⟩) g.nodes.length c) g.nodes from⟨_,_,rfl,hc,HN.out⟩);have HIO:=Ag (show Bh w F (.slice Ai g.infos.length ci) g.infos from⟨_,_,rfl,hci,HI.out⟩);have HWA:=Ag hwa;clear hwa;have HG':=Ag (show ∀ k,(F k∧k < w.heap.size)→k≠bp∧k≠bd∧k≠bl from fun k hk=>by omega);go_wp2_with fail
    refine(ag0 g HS.out (w.heap.size+1) bp bd bl b o c Ai ci ⟨byOmega,byOmega,byOmega,z4,z5,z6⟩ hc (fun k=>F k∧k < w.heap.size) HG'.out (g.nodes.length+1) 0 (-1) 0 _ wc _ ⟨some ⟨b,o,none⟩,aB,fun _=>by simp⟩ ⟨aB,aB,aB⟩ (fun _=>HNO.out.keep (fun k hk hl=>⟨hk,hl⟩) (Below.same' fQ F)) HWA.out byOmega byOmega byOmega byOmega).mono ?_;rintro e w2 ⟨vr,rfl,hrest,akP,hwr2⟩;have akQ:=mX g.nodes (g.nodes.length+1) 0 (-1) 0 ⟨List.replicate g.nodes.length 0,List.replicate g.nodes.length 0,List.replicate g.nodes.length 0⟩;refine YK ?_;intro hlen hT;rw[← hT] at hrest akP akQ hlen ⊢;clear hT;have hB2:Below w.heap.size w w2:=Wrote.below fQ hwr2 (fun k hk=>by omega) fQ.size;have hbx2:=ajW.wrote hwr2 byOmega;clear fQ hwr2 ajW x1 HWA;obtain⟨T,hTT⟩:=named (walkT g);have HT:=Ag (show Bv w2 (w.heap.size+1) bp bd bl g.aA (some ⟨b,o,none⟩) g.nodes.length c Ai g.infos.length ci (walkT g).2 from akP);clear akP;have HLN:=Ag hlen;clear hlen;rw[← hTT] at hrest akQ HE2 ⊢;have HTT:=Ag hTT;clear hTT;obtain⟨rn,td⟩:=T;dsimp only at hrest akQ HE2 ⊢;by_cases hng:rn < 0
    ·have HF:=Ag (show oN g=9 by rw[HE2.out,if_pos byOmega]);have hdn:decide (0≤rn)=false:=decide_eq_false byOmega;clear hrest;go_wp2
     go_ret2;exact zcx
    ·obtain⟨q,rfl⟩:=Int.eq_ofNat_of_zero_le (show 0≤rn by omega);obtain⟨A',rfl,hA'⟩:=hrest byOmega;simp only[Int.toNat_natCast] at hA' ⊢;have hdn:decide (0≤(q:Int))=true:=decide_eq_true byOmega;by_cases hqn:q=g.nodes.length
     ·subst hqn;have HF:=Ag (show oN g=if 40 < maxL td.d then 5 else iI g by rw[HE2.out,if_neg aB]);have hz:g.nodes.length - g.nodes.length=0:=byOmega;rw[hz];have ht2:td=(walkT g).2:=by rw[← HTT.out]
      have x4:=HT.out.head.cell (i:=4) rfl;clear hA' hz;go_wp2_with fail
      have hdl:td.d.length=g.nodes.length:=by rw[ht2];exact HLN.out.d
      have HID:=Ag (show AA w2 (fun k=>k=bd) (.slice (some ⟨bd,0,none⟩) g.nodes.length g.nodes.length) td.d by
       have:=Row.ints (F:=fun k=>k=bd) (show Row w2 bd 3 (td.d.map (Value.int .i64)) by rw[ht2]; exact HT.out.rd) rfl (c:=g.nodes.length) byOmega;rwa [hdl] at this)
      have HT2:=Ag ht2;clear ht2;refine(ajF w2 (fun k=>k=bd) _ td.d HID.out byOmega byOmega).mono ?_;rintro e w3 ⟨rfl,rfl⟩;dsimp only;generalize maxL td.d=mx at *;by_cases hmx:40 < mx
      ·have HF2:=Ag (show oN g=5 by rw[HF.out,if_pos hmx]);go_wp2
       go_ret2;exact⟨_,rfl,hB2,.pointer none,by rw[HF2.out]; rfl,by rw[HF2.out]; intro h; simp at h⟩
      ·have HF2:=Ag (show oN g=iI g by rw[HF.out,if_neg hmx]);have hdm:decide (40 < mx)=false:=decide_eq_false hmx;clear hmx;go_wp2_with fail
       refine(ag1 w3 F (w.heap.size+1) g _ _ _ _ (HT.out.head.cell rfl) (HT.out.head.cell rfl) HT.out.head.lt (HNO.out.on (Below.same' hB2 F)) (HIO.out.on (Below.same' hB2 F)) HS.out HIN.out byOmega).mono ?_;rintro e w4 ⟨_,rfl,hb4,rfl⟩;dsimp only;go_wp2
       go_ret2;refine⟨_,rfl,hB2.trans (hb4.mono hB2.size),.pointer (some ⟨w.heap.size+1,0,none⟩),by rw[HF2.out]; rfl,fun _=>?_⟩;have h:=HT.out;exact⟨w.heap.size+1,bp,bd,bl,_,_,_,_,rfl,rfl,⟨h.head.below hb4 h.head.lt,h.rp.below hb4 h.rp.lt,h.rd.below hb4 h.rd.lt,h.rl.below hb4 h.rl.lt⟩,byOmega,byOmega,byOmega,byOmega⟩
     ·have HF:=Ag (show oN g=9 by rw[HE2.out,if_pos byOmega]);have hdg:(0:Int) < ((g.nodes.length - q:Nat):Int):=byOmega;clear hqn;go_wp2
      go_ret2;exact zcx
theorem um (w:World) (F:Foot) (u:Value) (g:Gm) (hg:AO w F u g) (hsm:Small g) :
  Calls Tryz.prog 73 #[u] w (Ret w fun v _=>v = .int .i64 (oN g)):=by
 have HG:=Ag hg;obtain⟨vn,vi,rfl,⟨A,c,rfl,hc,hN⟩,⟨Ai,ci,rfl,hci,hI⟩⟩:=hg;clear hN hI;have HS:=Ag hsm;clear hsm;go_in;go_wp2_with fail
 refine(vF _ F _ g (HG.out.on (Same.alloc _ _ _)) HS.out).mono ?_;rintro e w1 ⟨v,rfl,hb1,vp,rfl,hv⟩;clear hv;have hB:Below w.heap.size w w1:=((Below.refl w.heap.size w).alloc (Nat.le_refl _) _).trans (hb1.mono aB);dsimp only;go_wp2
 go_ret;exact⟨_,rfl,hB,rfl⟩
def mv (nodes:List Nd) (s i:Nat):Bool:=match nodes[i]? with | some n=>decide (n.kind=2)&&decide (n.info.toNat=s) | none=>false
def bJ (nodes:List Nd) (s k:Nat):List Int:=((List.range k).filter (mv nodes s)).map fun i:Nat=>(i:Int)
theorem sK (nodes:List Nd) (s k:Nat):bJ nodes s (k+1)=bJ nodes s k++(if mv nodes s k then [(k:Int)] else []):=by
 unfold bJ;rw[List.range_succ,List.filter_append,List.map_append];cases h:mv nodes s k <;> simp[h]
theorem afD (nodes:List Nd) (ni:Nat) (hin:∀ n∈nodes,n.kind=2→0≤n.info∧n.info < (ni:Int)) (k:Nat):∀ s,s < ni→(gq nodes ni k)[s]? = some (bJ nodes s k):=by
 induction k with
 | zero=>intro s hs; simp[gq,bJ,hs]
 | succ k ih =>
  intro s hs;rw[sK];cases hn:nodes[k]? with
  | none =>
   have:mv nodes s k=false:=by simp[mv,hn]
   rw[this];simp only[gq,hn];rw[ih s hs];simp
  | some n =>
   by_cases hk:n.kind=2
   ·have hb:=hin n (List.mem_of_getElem? hn) hk;have hlt:n.info.toNat < ni:=byOmega;rw[yH hn hk (ih _ hlt)];by_cases he:n.info.toNat=s
    ·subst he;have:mv nodes n.info.toNat k=true:=by simp[mv,hn,hk]
     rw[this,List.getElem?_set_self (by rw[fU]; exact hlt)];simp
    ·have:mv nodes s k=false:=by simp[mv,hn,he]
     rw[this,List.getElem?_set_ne he,ih s hs];simp
   ·have:mv nodes s k=false:=by simp[mv,hn,hk]
    rw[yI hn hk,this,ih s hs];simp
theorem iG {g:Gm} (hin:BI g) {s:Nat} (hs:s < g.infos.length):(fJ g)[s]? = some (bJ g.nodes s g.nodes.length):=afD g.nodes g.infos.length hin _ s hs
theorem pR {nodes:List Nd} {s k:Nat} {x:Int}:x∈bJ nodes s k↔∃ i:Nat,x=i∧i < k∧mv nodes s i=true:=by
 unfold bJ;simp only[List.mem_map,List.mem_filter,List.mem_range];constructor
 ·rintro⟨i,⟨h1,h2⟩,rfl⟩;exact⟨i,rfl,h1,h2⟩
 ·rintro⟨i,rfl,h1,h2⟩;exact⟨i,⟨h1,h2⟩,rfl⟩
theorem ad6 (nodes:List Nd) (ni:Nat) (hin:∀ n∈nodes,n.kind=2→0≤n.info∧n.info < (ni:Int)) (m:Nat):∀ k,k+m=nodes.length→∀ s,s < ni →
  (iC (nodes.drop k) k (List.replicate ni 0))[s]? = some (match (List.range' k m).find? (mv nodes s) with | some i=>(i:Int)+1 | none=>0):=by
 induction m with
 | zero =>
  intro k hk s hs;rw[List.drop_eq_nil_of_le byOmega];simp[iC,hs]
 | succ m ih =>
  intro k hk s hs;obtain⟨n,hn⟩:=getSome (l:=nodes) (k:=k) byOmega;rw[wI hn];have hr:List.range' k (m+1)=k :: List.range' (k+1) m:=by rw[List.range'_succ]
  rw[hr,List.find?_cons];by_cases hkd:n.kind=2
  ·have hb:=hin n (List.mem_of_getElem? hn) hkd;rw[if_pos hkd];by_cases he:n.info.toNat=s
   ·subst he;have:mv nodes n.info.toNat k=true:=by simp[mv,hn,hkd]
    rw[this,List.getElem?_set_self (by rw[iU]; simp; omega)]
   ·have:mv nodes s k=false:=by simp[mv,hn,he]
    rw[this,List.getElem?_set_ne he];exact ih (k+1) byOmega s hs
  ·have:mv nodes s k=false:=by simp[mv,hn,hkd]
   rw[if_neg hkd,this];exact ih (k+1) byOmega s hs
theorem jP {g:Gm} (hin:BI g) {s:Nat} (hs:s < g.infos.length):(fK g)[s]? = some (match bJ g.nodes s g.nodes.length with | []=>0 | x :: _=>x+1):=by
 have h:=ad6 g.nodes g.infos.length hin g.nodes.length 0 byOmega s hs;unfold fK;rw[List.drop_zero] at h;rw[h];congr 1;unfold bJ;rw[← List.range_eq_range',← List.head?_filter];cases (List.range g.nodes.length).filter (mv g.nodes s) <;> simp
theorem zx (g:Gm):(fK g).length=g.infos.length:=by unfold fK; rw[iU]; simp
theorem afE {g:Gm} (hin:BI g):iI g=nO g:=by
 unfold iI nO;have hl:(fJ g).length=g.infos.length:=fU _ _ _;have hfl:=zx g;have h1:(fK g).contains 0=nN (fJ g):=by
  rw[Bool.eq_iff_iff];unfold nN;rw[List.any_eq_true,List.contains_iff_exists_mem_beq];constructor
  ·rintro⟨x,hx,h0⟩;obtain⟨s,hs⟩:=List.getElem?_of_mem hx;have hlt:s < g.infos.length:=by rw[← hfl];exact lt_of_get hs
   have:=jP hin hlt;rw[hs] at this;refine⟨_,List.mem_of_getElem? (iG hin hlt),?_⟩;have hx0:x=0:=by simpa using (beq_iff_eq.1 h0).symm
   subst hx0;cases hm:bJ g.nodes s g.nodes.length with
   | nil=>rfl
   | cons y l =>
    exfalso
    rw[hm] at this;have hy:y∈bJ g.nodes s g.nodes.length:=by rw[hm];simp
    obtain⟨i,rfl,_⟩:=pR.1 hy;simp at this;omega
  ·rintro⟨l,hl',h0⟩;obtain⟨s,hs⟩:=List.getElem?_of_mem hl';have hlt:s < g.infos.length:=by rw[← hl];exact lt_of_get hs
   have h2:=iG hin hlt;rw[hs] at h2;cases h2;have h3:=jP hin hlt;have hnil:bJ g.nodes s g.nodes.length = []:=List.eq_nil_of_length_eq_zero (by simpa using h0);rw[hnil] at h3;exact⟨0,List.mem_of_getElem? h3,aB⟩
 rw[h1];split
 ·rfl
 ·cases hn:nN (fJ g) with
  | true=>rfl
  | false =>
   have hne:∀ s,s < g.infos.length→∃ x l,bJ g.nodes s g.nodes.length=x :: l:=by
    intro s hs;have:=List.any_eq_false.1 hn _ (List.mem_of_getElem? (iG hin hs));cases hm:bJ g.nodes s g.nodes.length with
    | nil=>rw[hm] at this; simp at this
    | cons x l=>exact⟨x,l,rfl⟩
   have h2:gG (fK g) = !jF (fJ g) g.infos.length:=by
    rw[Bool.eq_iff_iff,adB,Bool.not_eq_true',jF,List.any_eq_false];constructor
    ·intro h i hi;rw[List.mem_range'_1] at hi;obtain⟨x,l,hx⟩:=hne (i - 1) byOmega;obtain⟨y,l',hy⟩:=hne i byOmega;have f1:=jP hin (s:=i - 1) byOmega;have f2:=jP hin (s:=i) byOmega;rw[hx] at f1;rw[hy] at f2;have:=h (i - 1) _ _ f1 (by rw[show i - 1+1=i by omega]; exact f2);have s1:=iG hin (s:=i - 1) byOmega;have s2:=iG hin (s:=i) byOmega;rw[hx] at s1;rw[hy] at s2;simp[oH,List.getD_eq_getElem?_getD,s1,s2];simp at this;exact this
    ·intro h k x y hx hy;have hk1:k+1 < g.infos.length:=by rw[← hfl];exact lt_of_get hy
     have:=h (k+1) (by rw[List.mem_range'_1]; omega);obtain⟨x',l,hx'⟩:=hne k byOmega;obtain⟨y',l',hy'⟩:=hne (k+1) byOmega;have f1:=jP hin (s:=k) byOmega;have f2:=jP hin (s:=k+1) byOmega;rw[hx'] at f1;rw[hy'] at f2;have s1:=iG hin (s:=k) byOmega;have s2:=iG hin (s:=k+1) byOmega;rw[hx'] at s1;rw[hy'] at s2;rw[hx] at f1;rw[hy] at f2;cases f1;cases f2;simp[oH,List.getD_eq_getElem?_getD,s1,s2] at this;simpa using this
   rw[h2];cases jF (fJ g) g.infos.length <;> rfl
structure Deep (a:Nat) (r:Int) (d d':List Int) (deep deep':Int):Prop where
 out:∀ i:Nat,i < a∨r≤(i:Int)→d'[i]? = d[i]?
 le:deep≤deep'
 below:∀ (i:Nat) x,a≤i→(i:Int) < r→d'[i]? = some x→x≤deep'
 hit:deep'=deep∨∃ (i:Nat),a≤i∧(i:Int) < r∧d'[i]? = some deep'
theorem Deep.refl (a:Nat) (d:List Int) (deep:Int):Deep a a d d deep deep:=⟨fun _ _=>rfl,byOmega,fun i x h1 h2=>by omega,.inl rfl⟩
theorem Deep.trans {a m:Nat} {r:Int} {d d' d'':List Int} {x y z:Int} (ham:a≤m) (hmr:(m:Int)≤r) (h:Deep a m d d' x y) (k:Deep m r d' d'' y z):Deep a r d d'' x z:=by
 refine⟨fun i hi=>?_,Int.le_trans h.le k.le,fun i v h1 h2 hv=>?_,?_⟩
 ·rw[k.out i byOmega,h.out i byOmega]
 ·by_cases hm:i < m
  ·rw[k.out i (.inl hm)] at hv;exact Int.le_trans (h.below i v h1 byOmega hv) k.le
  ·exact k.below i v byOmega h2 hv
 ·rcases k.hit with e | ⟨i,h1,h2,h3⟩
  ·rcases h.hit with e' | ⟨i,h1,h2,h3⟩
   ·left; omega
   ·right; exact⟨i,h1,byOmega,by rw[k.out i (.inl byOmega),h3,e]⟩
  ·right; exact⟨i,byOmega,h2,h3⟩
theorem abT {N:Nat} {rec:Nat→Tri→Int×Tri} {rec':Nat→Int→Int×Int} (hlen:∀ a t,Tri.Len N t→Tri.Len N (rec a t).2)
  (hb:∀ a t,(rec a t).1 = -1∨((a:Int) < (rec a t).1∧(rec a t).1≤N)) (hs:∀ a t d,(rec a t).1=(rec' a d).1)
  (hrec:∀ a t deep,a < N→Tri.Len N t→0≤(rec a t).1→Deep a (rec a t).1 t.d (rec a t).2.d deep (rec' a deep).2) :
  ∀ (cs:List Int) (x:Nat) (t:Tri) (deep:Int),x≤N→Tri.Len N t→0≤(dK rec cs x t).1→(x:Int)≤(dK rec cs x t).1∧Deep x (dK rec cs x t).1 t.d (dK rec cs x t).2.d deep (dJ rec' cs x deep).2
 | [],x,t,deep,_,_,_=>⟨by simp[dK],by simpa [dK,dJ] using Deep.refl x t.d deep⟩
 | c :: cs,x,t,deep,hx,ht,h=>by
  unfold dK at h ⊢;unfold dJ;by_cases hc:c=x
  ·subst hc;simp only[ne_eq,not_true_eq_false,↓reduceIte,Int.toNat_natCast] at h ⊢;rw[← hs x t deep];by_cases hng:(rec x t).1 < 0
   ·rw[if_pos hng] at h; simp at h
   ·rw[if_neg hng] at h ⊢;rw[if_neg hng];rcases hb x t with hb1 | hb1
    ·omega
    ·have hr:=hrec x t deep byOmega ht byOmega;obtain⟨m,hm⟩:=Int.eq_ofNat_of_zero_le (show 0≤(rec x t).1 by omega);rw[hm] at h hr ⊢;rw[hm] at hb1;have ih:=abT hlen hb hs hrec cs m (rec x t).2 (rec' x deep).2 byOmega (hlen x t ht) h;exact⟨byOmega,hr.trans byOmega ih.1 ih.2⟩
  ·rw[if_pos hc] at h; simp at h
theorem x9 (nodes:List Nd):∀ (f a:Nat) (par dep:Int) (t:Tri) (deep:Int),Tri.Len nodes.length t→0≤(bK nodes f a par dep t).1 →
  Deep a (bK nodes f a par dep t).1 t.d (bK nodes f a par dep t).2.d deep (gy nodes f a dep deep).2
 | 0,_,_,_,_,_,_,h=>by simp[bK] at h
 | f+1,a,par,dep,t,deep,ht,h=>by
  unfold bK at h ⊢;unfold gy;cases hn:nodes[a]? with
  | none=>rw[hn] at h; simp at h
  | some n =>
   rw[hn] at h;simp only at h ⊢;have ha:=lt_of_get hn;have hk:=abT (N:=nodes.length) (rec:=fun a' t=>bK nodes f a' a (dep+1) t) (rec':=fun a' d=>gy nodes f a' (dep+1) d)
    (fun a' t h=>kK nodes f a' a (dep+1) t h) (fun a' t=>mX nodes f a' a (dep+1) t) (fun a' t d=>ug nodes f a' a (dep+1) t d)
    (fun a' t d _ ht h=>x9 nodes f a' a (dep+1) t d ht h) n.next (a+1) ⟨t.p.set a par,t.d.set a dep,t.l⟩ (max deep dep) byOmega ⟨by simp[ht.p],by simp[ht.d],ht.l⟩
   simp only[Int.natCast_add,Int.cast_ofNat_Int] at hk;by_cases hng:(dK (fun a' t=>bK nodes f a' a (dep+1) t) n.next ((a:Int)+1) ⟨t.p.set a par,t.d.set a dep,t.l⟩).1 < 0
   ·rw[if_pos hng] at h; omega
   ·rw[if_neg hng] at h ⊢;obtain⟨h1,h2⟩:=hk byOmega;have h0:Deep a ((a+1:Nat):Int) t.d (t.d.set a dep) deep (max deep dep):=by
     refine⟨fun i hi=>List.getElem?_set_ne byOmega,byOmega,fun i x h1 h2 hx=>?_,?_⟩
     ·have:i=a:=byOmega;subst this;rw[List.getElem?_set_self (by rw[ht.d]; exact ha)] at hx;cases hx;omega
     ·by_cases hd:dep≤deep
      ·left; omega
      ·right; exact⟨a,byOmega,byOmega,by rw[List.getElem?_set_self (by rw[ht.d]; exact ha)]; congr 1; omega⟩
    exact h0.trans byOmega (by simpa using h1) (by simpa using h2)
theorem afF (l:List Int) (a:Int):a≤l.foldl max a∧∀ x∈l,x≤l.foldl max a:=by
 induction l generalizing a with
 | nil=>simp
 | cons y l ih =>
  obtain⟨h1,h2⟩:=ih (max a y);simp only[List.foldl_cons];refine⟨byOmega,fun x hx=>?_⟩;rcases List.mem_cons.1 hx with rfl | hx
  ·omega
  ·exact h2 x hx
theorem ad7 (l:List Int) (a:Int):l.foldl max a=a∨l.foldl max a∈l:=by
 induction l generalizing a with
 | nil=>simp
 | cons y l ih =>
  simp only[List.foldl_cons];rcases ih (max a y) with h | h
  ·rw[h];by_cases hay:y≤a
   ·left; omega
   ·right; rw[show max a y=y by omega]; simp
  ·right; exact List.mem_cons_of_mem _ h
theorem ahl {l:List Int} {m:Int} (hm:m∈l) (hb:∀ x∈l,x≤m):maxL l=m:=by
 cases l with
 | nil=>cases hm
 | cons y l =>
  unfold maxL;have h1:=afF l y;have h2:=ad7 l y;have h3:m≤l.foldl max y:=by
   rcases List.mem_cons.1 hm with rfl | h
   ·exact h1.1
   ·exact h1.2 m h
  have h4:l.foldl max y≤m:=by
   rcases h2 with h | h
   ·rw[h];exact hb y aB
   ·exact hb _ (List.mem_cons_of_mem _ h)
  show l.foldl max y=m;omega
theorem qU (g:Gm):oN g=bP g:=by
 unfold oN bP;have hw:(walkT g).1=(gy g.nodes (g.nodes.length+1) 0 0 0).1:=ug _ _ _ _ _ _ _;split
 ·rfl
 ·rename_i hsz
  split
  ·rfl
  ·rename_i hne
   rw[hw];split
   ·rfl
   ·rename_i hN
    have hin:BI g:=qN (by simpa using hne);have hp:0 < g.nodes.length:=by unfold jU at hsz;omega
    have hd:=x9 g.nodes (g.nodes.length+1) 0 (-1) 0 ⟨List.replicate g.nodes.length 0,List.replicate g.nodes.length 0,List.replicate g.nodes.length 0⟩ (-1) ⟨aB,aB,aB⟩;have hd0:=x9 g.nodes (g.nodes.length+1) 0 (-1) 0 ⟨List.replicate g.nodes.length 0,List.replicate g.nodes.length 0,List.replicate g.nodes.length 0⟩ 0 ⟨aB,aB,aB⟩;have hee:gy g.nodes (g.nodes.length+1) 0 0 (-1)=gy g.nodes (g.nodes.length+1) 0 0 0:=by
     obtain⟨n0,hn0⟩:=getSome hp;unfold gy;rw[hn0];rfl
    rw[hee] at hd;refine YK ?_;intro hlen hT;rw[← hT] at hd hd0 hlen;have hN':(walkT g).1=(g.nodes.length:Int):=by rw[hw];simpa using hN
    rw[hN'] at hd hd0;have hd:=hd byOmega;have hle:=(hd0 byOmega).le;clear hd0;have hmax:maxL (walkT g).2.d=(gy g.nodes (g.nodes.length+1) 0 0 0).2:=by
     generalize (gy g.nodes (g.nodes.length+1) 0 0 0).2=mx at hd hle;have hb:∀ x∈(walkT g).2.d,x≤mx:=by
      intro x hx;obtain⟨i,hi⟩:=List.getElem?_of_mem hx;exact hd.below i x byOmega (by have:=lt_of_get hi; rw[hlen.d] at this; omega) hi
     rcases hd.hit with e | ⟨i,_,_,hi⟩
     ·omega
     ·exact ahl (List.mem_of_getElem? hi) hb
    rw[hmax,afE hin]
theorem iY {g:Gm} (h:bP g=0):dG g.aA g.infos.length g.nodes=0∧nO g=0:=by
 unfold bP at h;split at h
 ·omega
 ·split at h
  ·rename_i h2; exact absurd h h2
  ·rename_i h2
   split at h
   ·omega
   ·split at h
    ·omega
    ·exact⟨by simpa using h2,h⟩
theorem qV {g:Gm} (h:bP g=0):∀ i∈g.infos,i.actions≤10:=by
 intro inf hin;obtain⟨s,hs⟩:=List.getElem?_of_mem hin;have hsl:s < g.infos.length:=lt_of_get hs;obtain⟨h2,h5⟩:=iY h;unfold nO at h5;split at h5
 ·omega
 rename_i ht
 split at h5
 ·omega
 rename_i hn
 have hm:=iG (kX h).infos hsl;have hne:(bJ g.nodes s g.nodes.length).length≠0:=fun e=>by
  apply hn
  unfold nN;exact List.any_eq_true.2 ⟨_,List.mem_of_getElem? hm,decide_eq_true e⟩
 obtain⟨x,hx⟩:=List.exists_mem_of_length_pos (Nat.pos_of_ne_zero hne);obtain⟨k,rfl,hk,hmv⟩:=pR.1 hx;unfold mv at hmv;split at hmv
 ·rename_i n hnk
  simp only[Bool.and_eq_true,decide_eq_true_eq] at hmv;have hmem:=List.mem_of_getElem? hnk;have e1:=jo h2 n hmem;unfold eH at e1;rw[if_neg byOmega,if_pos hmv.1] at e1;unfold gW at e1;split at e1
  ·omega
  ·rename_i h3
   have e2:gB g.infos n=false:=by
    cases hb:gB g.infos n with
    | false=>rfl
    | true=>exact absurd (List.any_eq_true.2 ⟨n,hmem,hb⟩) ht
   unfold gB at e2;rw[decide_eq_true hmv.1,Bool.true_and,Bool.or_eq_false_iff,hmv.2,List.getD_eq_getElem?_getD,hs] at e2;have e3:=of_decide_eq_false e2.2;simp only[Option.getD_some] at e3;omega
 ·cases hmv
theorem set3 {w:World} {b:Nat} {t:TypeId} {a0 a1 a2:Value} (h:Row w b t [a0,a1,a2]) (v0 v1 v2:Value):∃ W,W=(((w.setCell ⟨b,0,none⟩ v0).setCell ⟨b,1,none⟩ v1).setCell ⟨b,2,none⟩ v2) ∧
  Row W b t [v0,v1,v2]∧Wrote (fun k=>k=b) w W:=by
 refine⟨_,rfl,((h.set 0 v0).set 1 v1).set 2 v2,?_⟩;have h0:Wrote (fun k=>k=b) w w:=Wrote.refl _ _;exact((h0.setCell (p:=⟨b,0,none⟩) (.inl rfl) v0).setCell (p:=⟨b,1,none⟩) (.inl rfl) v1).setCell (p:=⟨b,2,none⟩) (.inl rfl) v2
theorem Below.wrote {w w':World} (h:Below w.heap.size w w') (K:Foot):Wrote K w w':=⟨h.os,h.tape,h.output,h.size,fun i hi _=>h.block i hi⟩
theorem aiO (L:List NV):(L.flatMap NV.cells).length=L.length*6:=by
 induction L with
 | nil=>rfl
 | cons q L ih=>rw[List.flatMap_cons,List.length_append,ih]; simp[NV.cells]; omega
theorem afG {w:World} {base:Nat} {t:TypeId} {v:Value} {L:List NV} (h:w.ownsRow base t 6 v L.length (L.flatMap NV.cells)) {F:Foot} (hF:∀ b,v.ownBlock=some b→F b) (hL:∀ q∈L,q.fine w F):Bl w F v (L.map NV.n):=by
 rcases h.2 with⟨rfl,h0⟩ | ⟨g,cap,cur,rfl,hb,hg,hnc,_,hsz,htake⟩
 ·have:L = []:=List.eq_nil_of_length_eq_zero h0;subst this;exact Yv
 ·refine Lies.nodes ⟨(Array.getElem?_eq_some_iff.1 hg).1,fun i u hi=>?_⟩ (hF g rfl) hL hnc;rw[← htake,List.getElem?_take] at hi;split at hi
  ·simp[World.cell?,hg];simpa using hi
  ·cases hi
theorem agw {g:Gm} (hg:Good g) {s:Nat} {l:List Int} (hl:(fJ g)[s]? = some l):l.length≤g.nodes.length∧∀ x∈l,∃ (j:Nat) (n:Nd),x=(j:Int)∧g.nodes[j]? = some n∧n.kind=2∧n.info=(s:Int):=by
 have hs:s < g.infos.length:=by have h1:=lt_of_get hl;rwa [show(fJ g).length=g.infos.length from fU _ _ _] at h1
 rw[iG hg.infos hs] at hl;cases hl;unfold bJ;refine⟨?_,fun x hx=>?_⟩
 ·rw[List.length_map];refine Nat.le_trans (List.length_filter_le _ _) ?_;simp
 ·obtain⟨j,hj,rfl⟩:=List.mem_map.1 hx;obtain⟨h1,h2⟩:=List.mem_filter.1 hj;unfold mv at h2;cases hn:g.nodes[j]? with
  | none=>rw[hn] at h2; cases h2
  | some n =>
   rw[hn] at h2;simp only[Bool.and_eq_true,decide_eq_true_eq] at h2;have h3:=hg.infos n (List.mem_of_getElem? hn) h2.1;exact⟨j,n,rfl,hn,h2.1,by have:=h2.2; omega⟩
end Go.Proofs.YtnmeejofpkhlkaaGreatDoor
